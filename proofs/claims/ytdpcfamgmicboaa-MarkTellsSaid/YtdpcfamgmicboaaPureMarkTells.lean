/- The plain law of MarkTells: two texts of one length that part at one place or at two have unlike marks; for every text and every two turned bytes. -/
import Derived.Test.YtdpcfamgmicboaaStatMarkTells
import Derived.Test.YtdpcfamgmicboaaMarkM
import Derived.Lib.Bytes
namespace Go.Proofs.Ytdpcfamgmicboaa.Pure
open Go.RowKit Go.Proofs.Ytdpcfamgmicboaa.PMarkTells Go.Proofs.YtdpcfamgmicboaaW.PrintWords Go.GaussM Go.GaussM.Z Go.Lib
namespace MarkTellsP
theorem w64 {n : Int} (h1 : -9223372036854775808 ≤ n) (h2 : n ≤ 9223372036854775807) : wrap64 n = n := by unfold wrap64; omega
def Byte (l : List Int) : Prop := ∀ x ∈ l, 0 ≤ x ∧ x < 256
theorem byte_of {l : List Int} (h : ∀ y ∈ l, (Lit.int .u8 y).wf = true) : Byte l := fun x hx => by
  have := h x hx
  have e1 : IntKind.u8.min = 0 := rfl
  have e2 : IntKind.u8.max = 255 := rfl
  simp only [Lit.wf, e1, e2, Bool.and_eq_true, decide_eq_true_eq] at this
  omega
theorem zero_small : Small zero := ⟨by decide, by decide, by decide, by decide⟩
theorem parts_f {z : Z} (h : Small z) : gauss_Parts.f z = some (z.re, z.im) := by unfold gauss_Parts.f; rw [if_pos h]
theorem is_f {z : Z} {p q : Int} (h : Small z) (hp : z.re = p) (hq : z.im = q) : hanaperlaw03_Is.f z p q = some true := by
  unfold hanaperlaw03_Is.f
  rw [parts_f h]
  simp [hp, hq]
theorem mul_f {x y : Z} (h : Small x) (k : Small y) : gauss_Mul.f x y = some (gmul x y) := by unfold gauss_Mul.f; rw [if_pos ⟨h, k⟩]
theorem add_f {x y : Z} (h : Small x) (k : Small y) : gauss_Add.f x y = some (gadd x y) := by unfold gauss_Add.f; rw [if_pos ⟨h, k⟩]
theorem base_f : mark_Base.f = some base := rfl
theorem rd_drop {l : List Int} {i : Nat} (h : i < l.length) : l.drop i = rd l (i : Int) :: l.drop (i + 1) := by
  rw [List.drop_eq_getElem_cons h]
  simp [rd, List.getElem?_eq_getElem h, List.getD_eq_getElem?_getD]
theorem rd_byte {l : List Int} (hb : Byte l) {i : Nat} (h : i < l.length) : 0 ≤ rd l (i : Int) ∧ rd l (i : Int) < 256 := by
  have : rd l (i : Int) = l[i] := by simp [rd, List.getElem?_eq_getElem h, List.getD_eq_getElem?_getD]
  rw [this]
  exact hb _ (List.getElem_mem h)
theorem of_step (L : List (List Int)) (j n : Int) (p : List Int) (K : Nat) (z : Z) (i : Nat) (hz : Small z) (hlt : i < p.length) (hb : 0 ≤ rd p (i : Int) ∧ rd p (i : Int) < 256) (hn : p.length < 9000) :
    mark_Of.l1 (K + 1) z base L n j p (p.length : Int) (i : Int) = mark_Of.l1 K (gadd (gmul z base) (red ⟨rd p (i : Int) + 1, 0⟩)) base L n j p (p.length : Int) ((i + 1 : Nat) : Int) := by
  rw [mark_Of.l1, if_pos (by omega), if_pos (by omega), if_pos (by omega), mul_f hz base_small]
  simp only [Option.bind_some]
  rw [w64 (n := rd p (i : Int)) (by omega) (by omega), w64 (n := rd p (i : Int) + 1) (by omega) (by omega)]
  unfold gauss_Of.f
  simp only [Option.bind_some]
  rw [add_f (x := gmul z base) (red_small _) (red_small _)]
  simp only [Option.bind_some]
  rw [w64 (n := (i : Int) + 1) (by omega) (by omega)]
  rfl
theorem of_end (L : List (List Int)) (j n : Int) (p : List Int) (K : Nat) (z : Z) (i : Nat) (hi : i = p.length) : mark_Of.l1 (K + 1) z base L n j p (p.length : Int) (i : Int) = mark_Of.l0 K z base L n (wrap64 (j + 1)) := by
  rw [mark_Of.l1, if_neg (by omega)]
theorem of_l1 (L : List (List Int)) (j n : Int) (p : List Int) (hp : Byte p) (hlen : p.length < 9000) (d : Nat) : ∀ (K : Nat) (z : Z) (i : Nat), Small z → i + d = p.length →
    mark_Of.l1 (K + 1 + d) z base L n j p (p.length : Int) (i : Int) = mark_Of.l0 K (mkm z (p.drop i)) base L n (wrap64 (j + 1)) := by
  induction d with
  | zero =>
    intro K z i hz hi
    rw [List.drop_of_length_le (by omega), mkm_nil]
    exact of_end L j n p K z i (by omega)
  | succ d ih =>
    intro K z i hz hi
    have hlt : i < p.length := by omega
    have e := of_step L j n p (K + 1 + d) z i hz hlt (rd_byte hp hlt) hlen
    have e2 := ih K (gadd (gmul z base) (red ⟨rd p (i : Int) + 1, 0⟩)) (i + 1) (red_small _) (by omega)
    rw [rd_drop hlt, mkm_cons]
    exact e.trans e2
theorem mark_of {k : Nat} {l : List Int} (hl : Byte l) (hlen : l.length < 9000) (hk : l.length + 3 ≤ k) : mark_Of.f k [l] = some (mkm zero l) := by
  obtain ⟨K, rfl⟩ : ∃ K, k = K + 1 + 1 + l.length + 1 := ⟨k - l.length - 3, by omega⟩
  unfold mark_Of.f
  have e1 : gauss_Of.f 0 0 = some zero := rfl
  rw [e1, base_f]
  simp only [Option.bind_some]
  rw [mark_Of.l0, if_pos (by simp), if_pos (by omega), if_pos (by simp)]
  have e2 : rd_L1 [l] (0 : Int) = l := rfl
  rw [e2]
  have := of_l1 [l] 0 (([l] : List (List Int)).length : Int) l hl hlen l.length (K + 1) zero 0 zero_small (by omega)
  rw [show ((0 : Nat) : Int) = 0 from rfl] at this
  rw [this, w64 (by omega) (by omega), mark_Of.l0, if_neg (by simp)]
  rfl
/-- The mbytes of a mark. -/
def mbytes (z : Z) : List Int := [z.re / 256 % 256, z.re % 256, z.im / 256 % 256, z.im % 256]
theorem bytes_byte (z : Z) : Byte (mbytes z) := fun x hx => by
  simp only [mbytes, List.mem_cons, List.not_mem_nil, or_false] at hx
  rcases hx with rfl | rfl | rfl | rfl <;> omega
theorem bytes_inj {x y : Z} (hx : Small x) (hy : Small y) (h : mbytes x = mbytes y) : x = y := by
  simp only [mbytes, List.cons.injEq, and_true] at h
  obtain ⟨h1, h2, h3, h4⟩ := hx
  obtain ⟨k1, k2, k3, k4⟩ := hy
  obtain ⟨a, b, c, d⟩ := h
  exact ext' (by omega) (by omega)
theorem put_f {k : Nat} {l : List Int} (hl : Byte l) (hlen : l.length < 9000) (hk : l.length + 3 ≤ k) : mark_Put.f k l = some (mbytes (mkm zero l)) := by
  unfold mark_Put.f
  rw [mark_of hl hlen hk]
  simp only [Option.bind_some]
  rw [parts_f (mk_small zero_small l)]
  rfl
theorem bytes_map_inj : ∀ {l m : List Int}, Byte l → Byte m → l.map (fun n => UInt8.ofNat n.toNat) = m.map (fun n => UInt8.ofNat n.toNat) → l = m
  | [], [], _, _, _ => rfl
  | [], _ :: _, _, _, h => by simp at h
  | _ :: _, [], _, _, h => by simp at h
  | a :: l, b :: m, hl, hm, h => by
    simp only [List.map_cons, List.cons.injEq] at h
    have ha := hl a (List.mem_cons_self ..)
    have hb := hm b (List.mem_cons_self ..)
    have e : (UInt8.ofNat a.toNat).toNat = (UInt8.ofNat b.toNat).toNat := by rw [h.1]
    simp only [UInt8.toNat_ofNat'] at e
    have e' : a = b := by omega
    rw [e', bytes_map_inj (fun x hx => hl x (List.mem_cons_of_mem _ hx)) (fun x hx => hm x (List.mem_cons_of_mem _ hx)) h.2]
theorem equal_f {l m : List Int} (hl : Byte l) (hm : Byte m) : bytes_Equal.f l m = some (decide (l = m)) := by
  unfold bytes_Equal.f
  rw [strOfNums_toList, strOfNums_toList]
  congr 1
  by_cases h : l = m
  · subst h; simp
  · rw [decide_eq_false h]
    have : bytesOf l ≠ bytesOf m := fun e => h (bytes_map_inj hl hm e)
    simpa using this
theorem check_f {k : Nat} {l m : List Int} (hl : Byte l) (hm : Byte m) (hlen : l.length < 9000) (hk : l.length + 3 ≤ k) : mark_Check.f k l m = some (decide (mbytes (mkm zero l) = m)) := by
  unfold mark_Check.f
  rw [put_f hl hlen hk]
  simp only [Option.bind_some]
  rw [equal_f (bytes_byte _) hm]
  rfl
theorem live_f {k : Nat} (hk : 10 ≤ k) : hanaperlaw04_live.f k = some true := by
  unfold hanaperlaw04_live.f
  have b0 : Byte [0] := fun x hx => by simp at hx; omega
  have b1 : Byte [0, 0] := fun x hx => by simp at hx; omega
  have b2 : Byte [0, 0, 0, 0] := fun x hx => by simp at hx; omega
  have b3 : Byte [] := fun x hx => by cases hx
  rw [mark_of b0 (by simp) (by simp; omega)]
  simp only [Option.bind_some]
  rw [is_f (p := 1) (q := 0) (mk_small zero_small [0]) rfl rfl]
  simp only [Option.bind_some, if_true]
  rw [mark_of b1 (by simp) (by simp; omega)]
  simp only [Option.bind_some]
  rw [is_f (p := 5) (q := 1) (mk_small zero_small [0, 0]) rfl rfl]
  simp only [Option.bind_some, if_true]
  rw [check_f b3 b2 (by simp) (by simp; omega)]
  rfl
end MarkTellsP
open MarkTellsP
theorem same_step (x y : List Int) (K : Nat) (i : Nat) (h1 : i < x.length) (h2 : i < y.length) (hn : x.length < 9000) (e : rd x (i : Int) = rd y (i : Int)) : hanaperref01_Same.l0 (K + 1) x y (i : Int) = hanaperref01_Same.l0 K x y ((i + 1 : Nat) : Int) := by
  rw [hanaperref01_Same.l0, if_pos (by omega), if_pos (by omega), if_pos (by omega), if_pos e, w64 (n := (i : Int) + 1) (by omega) (by omega)]
  rfl
theorem same_no (x y : List Int) (K : Nat) (i : Nat) (h1 : i < x.length) (h2 : i < y.length) (e : ¬ rd x (i : Int) = rd y (i : Int)) : hanaperref01_Same.l0 (K + 1) x y (i : Int) = some false := by
  rw [hanaperref01_Same.l0, if_pos (by omega), if_pos (by omega), if_pos (by omega), if_neg e]
theorem same_end (x y : List Int) (K : Nat) (i : Nat) (h : i = x.length) : hanaperref01_Same.l0 (K + 1) x y (i : Int) = some true := by
  rw [hanaperref01_Same.l0, if_neg (by omega)]
theorem same_l (x y : List Int) (hxy : x.length = y.length) (hlen : x.length < 9000) (d : Nat) : ∀ (K : Nat) (i : Nat), i + d = x.length → hanaperref01_Same.l0 (K + 1 + d) x y (i : Int) = some (decide (x.drop i = y.drop i)) := by
  induction d with
  | zero =>
    intro K i hi
    rw [List.drop_of_length_le (by omega), List.drop_of_length_le (by omega)]
    exact same_end x y K i (by omega)
  | succ d ih =>
    intro K i hi
    have h1 : i < x.length := by omega
    have h2 : i < y.length := by omega
    rw [rd_drop h1, rd_drop h2]
    by_cases e : rd x (i : Int) = rd y (i : Int)
    · refine (same_step x y (K + 1 + d) i h1 h2 hlen e).trans ((ih K (i + 1) (by omega)).trans ?_)
      simp [e]
    · refine (same_no x y (K + 1 + d) i h1 h2 e).trans ?_
      simp [e]
theorem same_f {k : Nat} {x y : List Int} (hlen : x.length < 9000) (hk : x.length + 3 ≤ k) : hanaperref01_Same.f k x y = some (decide (x = y)) := by
  unfold hanaperref01_Same.f
  by_cases h : x.length = y.length
  · obtain ⟨K, rfl⟩ : ∃ K, k = K + 1 + x.length := ⟨k - x.length - 1, by omega⟩
    rw [if_pos (by omega)]
    have := same_l x y h hlen x.length K 0 (by omega)
    simpa using this
  · rw [if_neg (by omega), decide_eq_false (fun e => h (by rw [e]))]
theorem xor_byte (a b : Int) : 0 ≤ Go.bits .xor .u8 a b ∧ Go.bits .xor .u8 a b < 256 := by
  have h : ∃ n : Int, Go.bits .xor .u8 a b = IntKind.u8.wrap n := ⟨_, rfl⟩
  obtain ⟨n, h⟩ := h
  rw [h, IntKind.wrap_u8]
  omega
theorem byte_set {l : List Int} (h : Byte l) (i : Nat) {v : Int} (hv : 0 ≤ v ∧ v < 256) : Byte (l.set i v) := fun x hx => by
  rcases List.mem_or_eq_of_mem_set hx with g | g
  · exact h x g
  · rw [g]; exact hv
theorem copy_f {l : List Int} (h : l.length < 9000) : hanaperref01_Copy.f l = some l := by
  unfold hanaperref01_Copy.f
  simp only [Option.bind_some]
  rw [if_pos (by simp; omega)]
  rfl
theorem main_f (l : List Int) (hl : Byte l) (hlen : l.length ≤ 4000) (i j a b : Int) (hi : 0 ≤ i ∧ i < l.length) (hj : 0 ≤ j ∧ j < l.length) : hanaperlaw04_MarkTells.j0 6001 l false i a j b = some true := by
  rw [hanaperlaw04_MarkTells.j0, if_neg (by decide), copy_f (by omega)]
  simp only [Option.bind_some]
  rw [if_pos hi.1, if_pos hi.2, if_pos hj.1, if_pos hj.2]
  generalize hc1 : l.set i.toNat (Go.bits .xor .u8 (rd l i) a) = c1
  have hb1 : Byte c1 := by rw [← hc1]; exact byte_set hl _ (xor_byte _ _)
  have hl1 : c1.length = l.length := by rw [← hc1]; simp
  have hn1 : nd l c1 ≤ 1 := by rw [← hc1]; have := nd_set l l i.toNat (Go.bits .xor .u8 (rd l i) a); rw [nd_self] at this; exact this
  generalize hc : c1.set j.toNat (Go.bits .xor .u8 (rd c1 j) b) = c
  have hb : Byte c := by rw [← hc]; exact byte_set hb1 _ (xor_byte _ _)
  have hlc : c.length = l.length := by rw [← hc]; simp [hl1]
  have hn : nd l c ≤ 2 := by rw [← hc]; have := nd_set l c1 j.toNat (Go.bits .xor .u8 (rd c1 j) b); omega
  have hp := mk_small zero_small l
  have hr := mk_small zero_small c
  have key : mkm zero l = mkm zero c ↔ l = c := ⟨fun h => mk_eq hlc.symm hn hl hb (by omega) h, fun h => by rw [h]⟩
  rw [mark_of hl (by omega) (by omega)]
  simp only [Option.bind_some]
  rw [parts_f hp]
  simp only [Option.bind_some]
  rw [mark_of hb (by omega) (by omega)]
  simp only [Option.bind_some]
  rw [parts_f hr]
  simp only [Option.bind_some]
  have hsame : hanaperref01_Same.f 6000 l c = some (decide (l = c)) := same_f (by omega) (by omega)
  rw [hsame, put_f hl (by omega) (by omega)]
  simp only [Option.bind_some]
  have hchk : mark_Check.f 6000 c (mbytes (mkm zero l)) = some (decide (l = c)) := by
    rw [check_f hb (bytes_byte _) (by omega) (by omega)]
    congr 1
    by_cases h : l = c
    · rw [decide_eq_true h, decide_eq_true (by rw [h])]
    · rw [decide_eq_false h, decide_eq_false (fun g => h (key.1 (bytes_inj hp hr g.symm)))]
  rw [hchk]
  simp only [Option.bind_some, beq_self_eq_true, if_true]
  rw [live_f (by omega)]
  generalize mkm zero l = p at *
  generalize mkm zero c = r at *
  by_cases h1 : p.re = r.re
  · rw [if_pos h1]
    have : ((p.im != r.im) == (!decide (l = c))) = true := by
      by_cases h2 : p.im = r.im
      · have e : l = c := key.1 (ext' h1 h2)
        simp [h2, e]
      · have e : l ≠ c := fun g => h2 (by rw [key.2 g])
        simp [h2, e]
    rw [if_pos this]; rfl
  · rw [if_neg h1]
    have e : l ≠ c := fun g => h1 (by rw [key.2 g])
    rw [if_pos (by simp [e])]; rfl
theorem MarkTells : hanaperlaw04_MarkTells.Pure := by
  intro l x y hl0 _ _
  have hl := byte_of hl0.2.2
  refine ⟨6001, ?_⟩
  have hlive : ∀ i a j b, hanaperlaw04_MarkTells.j0 6001 l true i a j b = some true := by
    intro i a j b
    rw [hanaperlaw04_MarkTells.j0, if_pos rfl, live_f (by omega)]; rfl
  unfold hanaperlaw04_MarkTells.f
  by_cases h1 : (l.length : Int) > 4000
  · rw [if_pos h1]; exact hlive ..
  rw [if_neg h1]
  by_cases h2 : x.f0 < 0
  · rw [if_pos h2]; exact hlive ..
  rw [if_neg h2]
  by_cases h3 : x.f0 ≥ (l.length : Int)
  · rw [if_pos h3]; exact hlive ..
  rw [if_neg h3]
  by_cases h4 : y.f0 < 0
  · rw [if_pos h4]; exact hlive ..
  rw [if_neg h4]
  by_cases h5 : y.f0 ≥ (l.length : Int)
  · rw [decide_eq_true h5]; exact hlive ..
  rw [decide_eq_false h5]
  exact main_f l hl (by omega) x.f0 y.f0 x.f1 y.f1 ⟨by omega, by omega⟩ ⟨by omega, by omega⟩
end Go.Proofs.Ytdpcfamgmicboaa.Pure
