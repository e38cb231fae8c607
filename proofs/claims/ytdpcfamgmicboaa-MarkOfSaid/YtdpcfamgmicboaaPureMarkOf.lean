/- The plain law of MarkOf: every text's mark and its bytes are the reference's, and which bytes are its mark; for every two lists of bytes. -/
import Derived.Test.YtdpcfamgmicboaaStatMarkOf
import Derived.Test.YtdpcfamgmicboaaMarkM
import Derived.Lib.Bytes
namespace Go.Proofs.Ytdpcfamgmicboaa.Pure
open Go.RowKit Go.Proofs.Ytdpcfamgmicboaa.PMarkOf Go.Proofs.YtdpcfamgmicboaaW.PrintWords Go.GaussM Go.GaussM.Z Go.Lib
namespace MarkOfP
theorem w64 {n : Int} (h1 : -9223372036854775808 ≤ n) (h2 : n ≤ 9223372036854775807) : wrap64 n = n := by unfold wrap64; omega
def Byte (l : List Int) : Prop := ∀ x ∈ l, 0 ≤ x ∧ x < 256
theorem byte_of {l : List Int} (h : ∀ y ∈ l, (Lit.int .u8 y).wf = true) : Byte l := fun x hx => by
  have := h x hx
  have e1 : IntKind.u8.min = 0 := rfl
  have e2 : IntKind.u8.max = 255 := rfl
  simp only [Lit.wf, e1, e2, Bool.and_eq_true, decide_eq_true_eq] at this
  omega
theorem zero_small : Small zero := ⟨by decide, by decide, by decide, by decide⟩
theorem parts_f {z : Z} (h : Small z) : gauss_Parts.f z = some (z.re, z.im) := by unfold gauss_Parts.f; rw [if_pos h]
theorem is_f {z : Z} {p q : Int} (h : Small z) (hp : z.re = p) (hq : z.im = q) : hanaperlaw03_Is.f z p q = some true := by
  unfold hanaperlaw03_Is.f
  rw [parts_f h]
  simp [hp, hq]
theorem mul_f {x y : Z} (h : Small x) (k : Small y) : gauss_Mul.f x y = some (gmul x y) := by unfold gauss_Mul.f; rw [if_pos ⟨h, k⟩]
theorem add_f {x y : Z} (h : Small x) (k : Small y) : gauss_Add.f x y = some (gadd x y) := by unfold gauss_Add.f; rw [if_pos ⟨h, k⟩]
theorem base_f : mark_Base.f = some base := rfl
theorem rd_drop {l : List Int} {i : Nat} (h : i < l.length) : l.drop i = rd l (i : Int) :: l.drop (i + 1) := by
  rw [List.drop_eq_getElem_cons h]
  simp [rd, List.getElem?_eq_getElem h, List.getD_eq_getElem?_getD]
theorem rd_byte {l : List Int} (hb : Byte l) {i : Nat} (h : i < l.length) : 0 ≤ rd l (i : Int) ∧ rd l (i : Int) < 256 := by
  have : rd l (i : Int) = l[i] := by simp [rd, List.getElem?_eq_getElem h, List.getD_eq_getElem?_getD]
  rw [this]
  exact hb _ (List.getElem_mem h)
theorem of_step (L : List (List Int)) (j n : Int) (p : List Int) (K : Nat) (z : Z) (i : Nat) (hz : Small z) (hlt : i < p.length) (hb : 0 ≤ rd p (i : Int) ∧ rd p (i : Int) < 256) (hn : p.length < 9000) :
    mark_Of.l1 (K + 1) z base L n j p (p.length : Int) (i : Int) = mark_Of.l1 K (gadd (gmul z base) (red ⟨rd p (i : Int) + 1, 0⟩)) base L n j p (p.length : Int) ((i + 1 : Nat) : Int) := by
  rw [mark_Of.l1, if_pos (by omega), if_pos (by omega), if_pos (by omega), mul_f hz base_small]
  simp only [Option.bind_some]
  rw [w64 (n := rd p (i : Int)) (by omega) (by omega), w64 (n := rd p (i : Int) + 1) (by omega) (by omega)]
  unfold gauss_Of.f
  simp only [Option.bind_some]
  rw [add_f (x := gmul z base) (red_small _) (red_small _)]
  simp only [Option.bind_some]
  rw [w64 (n := (i : Int) + 1) (by omega) (by omega)]
  rfl
theorem of_end (L : List (List Int)) (j n : Int) (p : List Int) (K : Nat) (z : Z) (i : Nat) (hi : i = p.length) : mark_Of.l1 (K + 1) z base L n j p (p.length : Int) (i : Int) = mark_Of.l0 K z base L n (wrap64 (j + 1)) := by
  rw [mark_Of.l1, if_neg (by omega)]
theorem of_l1 (L : List (List Int)) (j n : Int) (p : List Int) (hp : Byte p) (hlen : p.length < 9000) (d : Nat) : ∀ (K : Nat) (z : Z) (i : Nat), Small z → i + d = p.length →
    mark_Of.l1 (K + 1 + d) z base L n j p (p.length : Int) (i : Int) = mark_Of.l0 K (mkm z (p.drop i)) base L n (wrap64 (j + 1)) := by
  induction d with
  | zero =>
    intro K z i hz hi
    rw [List.drop_of_length_le (by omega), mkm_nil]
    exact of_end L j n p K z i (by omega)
  | succ d ih =>
    intro K z i hz hi
    have hlt : i < p.length := by omega
    have e := of_step L j n p (K + 1 + d) z i hz hlt (rd_byte hp hlt) hlen
    have e2 := ih K (gadd (gmul z base) (red ⟨rd p (i : Int) + 1, 0⟩)) (i + 1) (red_small _) (by omega)
    rw [rd_drop hlt, mkm_cons]
    exact e.trans e2
theorem mark_of {k : Nat} {l : List Int} (hl : Byte l) (hlen : l.length < 9000) (hk : l.length + 3 ≤ k) : mark_Of.f k [l] = some (mkm zero l) := by
  obtain ⟨K, rfl⟩ : ∃ K, k = K + 1 + 1 + l.length + 1 := ⟨k - l.length - 3, by omega⟩
  unfold mark_Of.f
  have e1 : gauss_Of.f 0 0 = some zero := rfl
  rw [e1, base_f]
  simp only [Option.bind_some]
  rw [mark_Of.l0, if_pos (by simp), if_pos (by omega), if_pos (by simp)]
  have e2 : rd_L1 [l] (0 : Int) = l := rfl
  rw [e2]
  have := of_l1 [l] 0 (([l] : List (List Int)).length : Int) l hl hlen l.length (K + 1) zero 0 zero_small (by omega)
  rw [show ((0 : Nat) : Int) = 0 from rfl] at this
  rw [this, w64 (by omega) (by omega), mark_Of.l0, if_neg (by simp)]
  rfl
/-- The mbytes of a mark. -/
def mbytes (z : Z) : List Int := [z.re / 256 % 256, z.re % 256, z.im / 256 % 256, z.im % 256]
theorem bytes_byte (z : Z) : Byte (mbytes z) := fun x hx => by
  simp only [mbytes, List.mem_cons, List.not_mem_nil, or_false] at hx
  rcases hx with rfl | rfl | rfl | rfl <;> omega
theorem bytes_inj {x y : Z} (hx : Small x) (hy : Small y) (h : mbytes x = mbytes y) : x = y := by
  simp only [mbytes, List.cons.injEq, and_true] at h
  obtain ⟨h1, h2, h3, h4⟩ := hx
  obtain ⟨k1, k2, k3, k4⟩ := hy
  obtain ⟨a, b, c, d⟩ := h
  exact ext' (by omega) (by omega)
theorem put_f {k : Nat} {l : List Int} (hl : Byte l) (hlen : l.length < 9000) (hk : l.length + 3 ≤ k) : mark_Put.f k l = some (mbytes (mkm zero l)) := by
  unfold mark_Put.f
  rw [mark_of hl hlen hk]
  simp only [Option.bind_some]
  rw [parts_f (mk_small zero_small l)]
  rfl
theorem bytes_map_inj : ∀ {l m : List Int}, Byte l → Byte m → l.map (fun n => UInt8.ofNat n.toNat) = m.map (fun n => UInt8.ofNat n.toNat) → l = m
  | [], [], _, _, _ => rfl
  | [], _ :: _, _, _, h => by simp at h
  | _ :: _, [], _, _, h => by simp at h
  | a :: l, b :: m, hl, hm, h => by
    simp only [List.map_cons, List.cons.injEq] at h
    have ha := hl a (List.mem_cons_self ..)
    have hb := hm b (List.mem_cons_self ..)
    have e : (UInt8.ofNat a.toNat).toNat = (UInt8.ofNat b.toNat).toNat := by rw [h.1]
    simp only [UInt8.toNat_ofNat'] at e
    have e' : a = b := by omega
    rw [e', bytes_map_inj (fun x hx => hl x (List.mem_cons_of_mem _ hx)) (fun x hx => hm x (List.mem_cons_of_mem _ hx)) h.2]
theorem equal_f {l m : List Int} (hl : Byte l) (hm : Byte m) : bytes_Equal.f l m = some (decide (l = m)) := by
  unfold bytes_Equal.f
  rw [strOfNums_toList, strOfNums_toList]
  congr 1
  by_cases h : l = m
  · subst h; simp
  · rw [decide_eq_false h]
    have : bytesOf l ≠ bytesOf m := fun e => h (bytes_map_inj hl hm e)
    simpa using this
theorem check_f {k : Nat} {l m : List Int} (hl : Byte l) (hm : Byte m) (hlen : l.length < 9000) (hk : l.length + 3 ≤ k) : mark_Check.f k l m = some (decide (mbytes (mkm zero l) = m)) := by
  unfold mark_Check.f
  rw [put_f hl hlen hk]
  simp only [Option.bind_some]
  rw [equal_f (bytes_byte _) hm]
  rfl
theorem live_f {k : Nat} (hk : 10 ≤ k) : hanaperlaw04_live.f k = some true := by
  unfold hanaperlaw04_live.f
  have b0 : Byte [0] := fun x hx => by simp at hx; omega
  have b1 : Byte [0, 0] := fun x hx => by simp at hx; omega
  have b2 : Byte [0, 0, 0, 0] := fun x hx => by simp at hx; omega
  have b3 : Byte [] := fun x hx => by cases hx
  rw [mark_of b0 (by simp) (by simp; omega)]
  simp only [Option.bind_some]
  rw [is_f (p := 1) (q := 0) (mk_small zero_small [0]) rfl rfl]
  simp only [Option.bind_some, if_true]
  rw [mark_of b1 (by simp) (by simp; omega)]
  simp only [Option.bind_some]
  rw [is_f (p := 5) (q := 1) (mk_small zero_small [0, 0]) rfl rfl]
  simp only [Option.bind_some, if_true]
  rw [check_f b3 b2 (by simp) (by simp; omega)]
  rfl
end MarkOfP
open MarkOfP
theorem rest_f (n : Int) : hanaperref03_Rest.f n = some (n % 8191) := by
  unfold hanaperref03_Rest.f
  split
  · rename_i h; rw [tmod_neg n h]
  · rename_i h; rw [tmod_pos n (by omega)]
theorem of_f (a b : Int) : hanaperref03_Of.f a b = some (a % 8191, b % 8191) := by
  unfold hanaperref03_Of.f
  rw [rest_f, rest_f]; rfl
theorem rmul_f {x y : Z} (hx : Small x) (hy : Small y) : hanaperref03_Mul.f x.re x.im y.re y.im = some ((gmul x y).re, (gmul x y).im) := by
  obtain ⟨h1, h2, h3, h4⟩ := hx
  obtain ⟨k1, k2, k3, k4⟩ := hy
  have m1 := mul_bd h1 h2 k1 k2
  have m2 := mul_bd h3 h4 k3 k4
  have m3 := mul_bd h1 h2 k3 k4
  have m4 := mul_bd h3 h4 k1 k2
  unfold hanaperref03_Mul.f
  rw [w64 (n := x.re * y.re) (by omega) (by omega), w64 (n := x.im * y.im) (by omega) (by omega), w64 (n := x.re * y.im) (by omega) (by omega), w64 (n := x.im * y.re) (by omega) (by omega), w64 (by omega) (by omega), w64 (by omega) (by omega), of_f]; rfl
theorem radd_f {x y : Z} (hx : Small x) (hy : Small y) : hanaperref03_Add.f x.re x.im y.re y.im = some ((gadd x y).re, (gadd x y).im) := by
  obtain ⟨h1, h2, h3, h4⟩ := hx
  obtain ⟨k1, k2, k3, k4⟩ := hy
  unfold hanaperref03_Add.f
  rw [w64 (by omega) (by omega), w64 (by omega) (by omega), of_f]; rfl
theorem ref_step (p : List Int) (K : Nat) (z : Z) (i : Nat) (hz : Small z) (hlt : i < p.length) (hb : 0 ≤ rd p (i : Int) ∧ rd p (i : Int) < 256) (hn : p.length < 9000) :
    hanaperref04_Of.l0 (K + 1) p (i : Int) z.re z.im = hanaperref04_Of.l0 K p ((i + 1 : Nat) : Int) (gadd (gmul z base) (red ⟨rd p (i : Int) + 1, 0⟩)).re (gadd (gmul z base) (red ⟨rd p (i : Int) + 1, 0⟩)).im := by
  have eb : hanaperref04_Base.f = some (base.re, base.im) := rfl
  have eq0 : ((rd p (i : Int) + 1) % 8191, (0 : Int) % 8191) = ((red ⟨rd p (i : Int) + 1, 0⟩).re, (red ⟨rd p (i : Int) + 1, 0⟩).im) := rfl
  rw [hanaperref04_Of.l0, if_pos (by omega), eb]
  simp only [Option.bind_some]
  rw [rmul_f hz base_small]
  simp only [Option.bind_some]
  rw [if_pos (by omega), w64 (n := rd p (i : Int)) (by omega) (by omega), w64 (n := rd p (i : Int) + 1) (by omega) (by omega), of_f, eq0]
  simp only [Option.bind_some]
  rw [radd_f (x := gmul z base) (y := red ⟨rd p (i : Int) + 1, 0⟩) (red_small _) (red_small _)]
  simp only [Option.bind_some]
  rw [w64 (n := (i : Int) + 1) (by omega) (by omega)]
  rfl
theorem ref_end (p : List Int) (K : Nat) (z : Z) (i : Nat) (hi : i = p.length) : hanaperref04_Of.l0 (K + 1) p (i : Int) z.re z.im = some (z.re, z.im) := by
  rw [hanaperref04_Of.l0, if_neg (by omega)]
theorem ref_of_l (p : List Int) (hp : Byte p) (hlen : p.length < 9000) (d : Nat) : ∀ (K : Nat) (z : Z) (i : Nat), Small z → i + d = p.length →
    hanaperref04_Of.l0 (K + 1 + d) p (i : Int) z.re z.im = some ((mkm z (p.drop i)).re, (mkm z (p.drop i)).im) := by
  induction d with
  | zero =>
    intro K z i hz hi
    rw [List.drop_of_length_le (by omega), mkm_nil]
    exact ref_end p K z i (by omega)
  | succ d ih =>
    intro K z i hz hi
    have hlt : i < p.length := by omega
    have e := ref_step p (K + 1 + d) z i hz hlt (rd_byte hp hlt) hlen
    have e2 := ih K (gadd (gmul z base) (red ⟨rd p (i : Int) + 1, 0⟩)) (i + 1) (red_small _) (by omega)
    rw [rd_drop hlt, mkm_cons]
    exact e.trans e2
theorem ref_of {k : Nat} {l : List Int} (hl : Byte l) (hlen : l.length < 9000) (hk : l.length + 3 ≤ k) : hanaperref04_Of.f k l = some ((mkm zero l).re, (mkm zero l).im) := by
  obtain ⟨K, rfl⟩ : ∃ K, k = K + 1 + l.length := ⟨k - l.length - 1, by omega⟩
  unfold hanaperref04_Of.f
  exact ref_of_l l hl hlen l.length K zero 0 zero_small (by omega)
theorem same_step (x y : List Int) (K : Nat) (i : Nat) (h1 : i < x.length) (h2 : i < y.length) (hn : x.length < 9000) (e : rd x (i : Int) = rd y (i : Int)) : hanaperref01_Same.l0 (K + 1) x y (i : Int) = hanaperref01_Same.l0 K x y ((i + 1 : Nat) : Int) := by
  rw [hanaperref01_Same.l0, if_pos (by omega), if_pos (by omega), if_pos (by omega), if_pos e, w64 (n := (i : Int) + 1) (by omega) (by omega)]
  rfl
theorem same_no (x y : List Int) (K : Nat) (i : Nat) (h1 : i < x.length) (h2 : i < y.length) (e : ¬ rd x (i : Int) = rd y (i : Int)) : hanaperref01_Same.l0 (K + 1) x y (i : Int) = some false := by
  rw [hanaperref01_Same.l0, if_pos (by omega), if_pos (by omega), if_pos (by omega), if_neg e]
theorem same_end (x y : List Int) (K : Nat) (i : Nat) (h : i = x.length) : hanaperref01_Same.l0 (K + 1) x y (i : Int) = some true := by
  rw [hanaperref01_Same.l0, if_neg (by omega)]
theorem same_l (x y : List Int) (hxy : x.length = y.length) (hlen : x.length < 9000) (d : Nat) : ∀ (K : Nat) (i : Nat), i + d = x.length → hanaperref01_Same.l0 (K + 1 + d) x y (i : Int) = some (decide (x.drop i = y.drop i)) := by
  induction d with
  | zero =>
    intro K i hi
    rw [List.drop_of_length_le (by omega), List.drop_of_length_le (by omega)]
    exact same_end x y K i (by omega)
  | succ d ih =>
    intro K i hi
    have h1 : i < x.length := by omega
    have h2 : i < y.length := by omega
    rw [rd_drop h1, rd_drop h2]
    by_cases e : rd x (i : Int) = rd y (i : Int)
    · refine (same_step x y (K + 1 + d) i h1 h2 hlen e).trans ((ih K (i + 1) (by omega)).trans ?_)
      simp [e]
    · refine (same_no x y (K + 1 + d) i h1 h2 e).trans ?_
      simp [e]
theorem same_f {k : Nat} {x y : List Int} (hlen : x.length < 9000) (hk : x.length + 3 ≤ k) : hanaperref01_Same.f k x y = some (decide (x = y)) := by
  unfold hanaperref01_Same.f
  by_cases h : x.length = y.length
  · obtain ⟨K, rfl⟩ : ∃ K, k = K + 1 + x.length := ⟨k - x.length - 1, by omega⟩
    rw [if_pos (by omega)]
    have := same_l x y h hlen x.length K 0 (by omega)
    simpa using this
  · rw [if_neg (by omega), decide_eq_false (fun e => h (by rw [e]))]
theorem fixed_f {k : Nat} (hk : 10 ≤ k) (n : Int) (h0 : 0 ≤ n) (h1 : n < 8191) : hanaperref01_Fixed.f k (IntKind.u64.wrap n) 2 = some [n / 256 % 256, n % 256] := by
  obtain ⟨K, rfl⟩ : ∃ K, k = K + 1 + 1 + 1 := ⟨k - 3, by omega⟩
  have hw : IntKind.u64.wrap n = n := by rw [IntKind.wrap_u64]; omega
  have ht : Int.tmod n 256 % 256 = n % 256 := by rw [Int.tmod_eq_emod_of_nonneg h0]; omega
  have hd : IntKind.u64.wrap (Int.tdiv n 256) = n / 256 := by rw [Int.tdiv_eq_ediv_of_nonneg h0, IntKind.wrap_u64]; omega
  have ht2 : Int.tmod (n / 256) 256 % 256 = n / 256 % 256 := by rw [Int.tmod_eq_emod_of_nonneg (by omega)]; omega
  unfold hanaperref01_Fixed.f
  rw [hw, hanaperref01_Fixed.l0, if_pos (by omega), ht, hd]
  simp only [Option.bind_some]
  rw [if_pos (by simp), w64 (by omega) (by omega), hanaperref01_Fixed.l0, if_pos (by omega), ht2]
  simp only [Option.bind_some]
  rw [if_pos (by simp), w64 (by omega) (by omega), hanaperref01_Fixed.l0, if_neg (by omega)]
  rfl
theorem ref_put {k : Nat} {l : List Int} (hl : Byte l) (hlen : l.length < 9000) (hk : l.length + 10 ≤ k) : hanaperref04_Put.f k l = some (mbytes (mkm zero l)) := by
  unfold hanaperref04_Put.f
  have hs := mk_small zero_small l
  rw [ref_of hl hlen (by omega)]
  simp only [Option.bind_some]
  rw [fixed_f (by omega) _ hs.1 hs.2.1]
  simp only [Option.bind_some]
  rw [fixed_f (by omega) _ hs.2.2.1 hs.2.2.2]
  simp only [Option.bind_some]
  rw [if_pos (by simp)]
  rfl
theorem MarkOf : hanaperlaw04_MarkOf.Pure := by
  intro b m hb0 hm0
  have hb := byte_of hb0.2.2
  have hm := byte_of hm0.2.2
  refine ⟨5000, ?_⟩
  unfold hanaperlaw04_MarkOf.f
  by_cases h1 : (b.length : Int) > 3000
  · rw [if_pos h1, live_f (by omega)]; rfl
  have hs := mk_small zero_small b
  have eb : hanaperref04_Base.f = some (base.re, base.im) := rfl
  rw [if_neg h1, put_f hb (by omega) (by omega), mark_of hb (by omega) (by omega), ref_of hb (by omega) (by omega)]
  simp only [Option.bind_some]
  rw [is_f hs rfl rfl]
  simp only [Option.bind_some, if_true]
  rw [ref_put hb (by omega) (by omega)]
  simp only [Option.bind_some]
  rw [same_f (by simp [mbytes]) (by simp [mbytes])]
  simp only [Option.bind_some, decide_true, if_true]
  rw [check_f hb (bytes_byte _) (by omega) (by omega)]
  simp only [Option.bind_some, decide_true, if_true]
  rw [check_f hb hm (by omega) (by omega)]
  simp only [Option.bind_some]
  have hsame : hanaperref01_Same.f 5000 m (mbytes (mkm zero b)) = some (decide (m = mbytes (mkm zero b))) := by
    by_cases hl : m.length = 4
    · exact same_f (by omega) (by omega)
    · unfold hanaperref01_Same.f
      rw [if_neg (by simp [mbytes]; omega), decide_eq_false (fun e => hl (by rw [e]; rfl))]
  rw [hsame]
  simp only [Option.bind_some]
  have e : (decide (mbytes (mkm zero b) = m) == decide (m = mbytes (mkm zero b))) = true := by
    by_cases h : m = mbytes (mkm zero b)
    · simp [h]
    · have h' : ¬ mbytes (mkm zero b) = m := fun g => h g.symm
      simp [h, h']
  rw [if_pos e, base_f]
  simp only [Option.bind_some]
  rw [eb]
  simp only [Option.bind_some]
  rw [is_f base_small rfl rfl]
  simp only [Option.bind_some, if_true]
  rw [live_f (by omega)]; rfl
end Go.Proofs.Ytdpcfamgmicboaa.Pure
