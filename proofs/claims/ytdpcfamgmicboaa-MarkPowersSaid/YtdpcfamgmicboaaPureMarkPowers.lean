/- The plain law of MarkPowers: the powers of 4 + i up to the 8191st have a second part that is not 0, the 8192nd has none; for every number. -/
import Derived.Test.YtdpcfamgmicboaaStatMarkPowers
import Derived.Test.YtdpcfamgmicboaaMarkM
import Derived.Lib.Bytes
namespace Go.Proofs.Ytdpcfamgmicboaa.Pure
open Go.RowKit Go.Proofs.Ytdpcfamgmicboaa.PMarkPowers Go.Proofs.YtdpcfamgmicboaaW.PrintWords Go.GaussM Go.GaussM.Z Go.Lib
namespace MarkPowersP
theorem w64 {n : Int} (h1 : -9223372036854775808 ≤ n) (h2 : n ≤ 9223372036854775807) : wrap64 n = n := by unfold wrap64; omega
def Byte (l : List Int) : Prop := ∀ x ∈ l, 0 ≤ x ∧ x < 256
theorem byte_of {l : List Int} (h : ∀ y ∈ l, (Lit.int .u8 y).wf = true) : Byte l := fun x hx => by
  have := h x hx
  have e1 : IntKind.u8.min = 0 := rfl
  have e2 : IntKind.u8.max = 255 := rfl
  simp only [Lit.wf, e1, e2, Bool.and_eq_true, decide_eq_true_eq] at this
  omega
theorem zero_small : Small zero := ⟨by decide, by decide, by decide, by decide⟩
theorem parts_f {z : Z} (h : Small z) : gauss_Parts.f z = some (z.re, z.im) := by unfold gauss_Parts.f; rw [if_pos h]
theorem is_f {z : Z} {p q : Int} (h : Small z) (hp : z.re = p) (hq : z.im = q) : hanaperlaw03_Is.f z p q = some true := by
  unfold hanaperlaw03_Is.f
  rw [parts_f h]
  simp [hp, hq]
theorem mul_f {x y : Z} (h : Small x) (k : Small y) : gauss_Mul.f x y = some (gmul x y) := by unfold gauss_Mul.f; rw [if_pos ⟨h, k⟩]
theorem add_f {x y : Z} (h : Small x) (k : Small y) : gauss_Add.f x y = some (gadd x y) := by unfold gauss_Add.f; rw [if_pos ⟨h, k⟩]
theorem base_f : mark_Base.f = some base := rfl
theorem rd_drop {l : List Int} {i : Nat} (h : i < l.length) : l.drop i = rd l (i : Int) :: l.drop (i + 1) := by
  rw [List.drop_eq_getElem_cons h]
  simp [rd, List.getElem?_eq_getElem h, List.getD_eq_getElem?_getD]
theorem rd_byte {l : List Int} (hb : Byte l) {i : Nat} (h : i < l.length) : 0 ≤ rd l (i : Int) ∧ rd l (i : Int) < 256 := by
  have : rd l (i : Int) = l[i] := by simp [rd, List.getElem?_eq_getElem h, List.getD_eq_getElem?_getD]
  rw [this]
  exact hb _ (List.getElem_mem h)
theorem of_step (L : List (List Int)) (j n : Int) (p : List Int) (K : Nat) (z : Z) (i : Nat) (hz : Small z) (hlt : i < p.length) (hb : 0 ≤ rd p (i : Int) ∧ rd p (i : Int) < 256) (hn : p.length < 9000) :
    mark_Of.l1 (K + 1) z base L n j p (p.length : Int) (i : Int) = mark_Of.l1 K (gadd (gmul z base) (red ⟨rd p (i : Int) + 1, 0⟩)) base L n j p (p.length : Int) ((i + 1 : Nat) : Int) := by
  rw [mark_Of.l1, if_pos (by omega), if_pos (by omega), if_pos (by omega), mul_f hz base_small]
  simp only [Option.bind_some]
  rw [w64 (n := rd p (i : Int)) (by omega) (by omega), w64 (n := rd p (i : Int) + 1) (by omega) (by omega)]
  unfold gauss_Of.f
  simp only [Option.bind_some]
  rw [add_f (x := gmul z base) (red_small _) (red_small _)]
  simp only [Option.bind_some]
  rw [w64 (n := (i : Int) + 1) (by omega) (by omega)]
  rfl
theorem of_end (L : List (List Int)) (j n : Int) (p : List Int) (K : Nat) (z : Z) (i : Nat) (hi : i = p.length) : mark_Of.l1 (K + 1) z base L n j p (p.length : Int) (i : Int) = mark_Of.l0 K z base L n (wrap64 (j + 1)) := by
  rw [mark_Of.l1, if_neg (by omega)]
theorem of_l1 (L : List (List Int)) (j n : Int) (p : List Int) (hp : Byte p) (hlen : p.length < 9000) (d : Nat) : ∀ (K : Nat) (z : Z) (i : Nat), Small z → i + d = p.length →
    mark_Of.l1 (K + 1 + d) z base L n j p (p.length : Int) (i : Int) = mark_Of.l0 K (mkm z (p.drop i)) base L n (wrap64 (j + 1)) := by
  induction d with
  | zero =>
    intro K z i hz hi
    rw [List.drop_of_length_le (by omega), mkm_nil]
    exact of_end L j n p K z i (by omega)
  | succ d ih =>
    intro K z i hz hi
    have hlt : i < p.length := by omega
    have e := of_step L j n p (K + 1 + d) z i hz hlt (rd_byte hp hlt) hlen
    have e2 := ih K (gadd (gmul z base) (red ⟨rd p (i : Int) + 1, 0⟩)) (i + 1) (red_small _) (by omega)
    rw [rd_drop hlt, mkm_cons]
    exact e.trans e2
theorem mark_of {k : Nat} {l : List Int} (hl : Byte l) (hlen : l.length < 9000) (hk : l.length + 3 ≤ k) : mark_Of.f k [l] = some (mkm zero l) := by
  obtain ⟨K, rfl⟩ : ∃ K, k = K + 1 + 1 + l.length + 1 := ⟨k - l.length - 3, by omega⟩
  unfold mark_Of.f
  have e1 : gauss_Of.f 0 0 = some zero := rfl
  rw [e1, base_f]
  simp only [Option.bind_some]
  rw [mark_Of.l0, if_pos (by simp), if_pos (by omega), if_pos (by simp)]
  have e2 : rd_L2 [l] (0 : Int) = l := rfl
  rw [e2]
  have := of_l1 [l] 0 (([l] : List (List Int)).length : Int) l hl hlen l.length (K + 1) zero 0 zero_small (by omega)
  rw [show ((0 : Nat) : Int) = 0 from rfl] at this
  rw [this, w64 (by omega) (by omega), mark_Of.l0, if_neg (by simp)]
  rfl
/-- The mbytes of a mark. -/
def mbytes (z : Z) : List Int := [z.re / 256 % 256, z.re % 256, z.im / 256 % 256, z.im % 256]
theorem bytes_byte (z : Z) : Byte (mbytes z) := fun x hx => by
  simp only [mbytes, List.mem_cons, List.not_mem_nil, or_false] at hx
  rcases hx with rfl | rfl | rfl | rfl <;> omega
theorem bytes_inj {x y : Z} (hx : Small x) (hy : Small y) (h : mbytes x = mbytes y) : x = y := by
  simp only [mbytes, List.cons.injEq, and_true] at h
  obtain ⟨h1, h2, h3, h4⟩ := hx
  obtain ⟨k1, k2, k3, k4⟩ := hy
  obtain ⟨a, b, c, d⟩ := h
  exact ext' (by omega) (by omega)
theorem put_f {k : Nat} {l : List Int} (hl : Byte l) (hlen : l.length < 9000) (hk : l.length + 3 ≤ k) : mark_Put.f k l = some (mbytes (mkm zero l)) := by
  unfold mark_Put.f
  rw [mark_of hl hlen hk]
  simp only [Option.bind_some]
  rw [parts_f (mk_small zero_small l)]
  rfl
theorem bytes_map_inj : ∀ {l m : List Int}, Byte l → Byte m → l.map (fun n => UInt8.ofNat n.toNat) = m.map (fun n => UInt8.ofNat n.toNat) → l = m
  | [], [], _, _, _ => rfl
  | [], _ :: _, _, _, h => by simp at h
  | _ :: _, [], _, _, h => by simp at h
  | a :: l, b :: m, hl, hm, h => by
    simp only [List.map_cons, List.cons.injEq] at h
    have ha := hl a (List.mem_cons_self ..)
    have hb := hm b (List.mem_cons_self ..)
    have e : (UInt8.ofNat a.toNat).toNat = (UInt8.ofNat b.toNat).toNat := by rw [h.1]
    simp only [UInt8.toNat_ofNat'] at e
    have e' : a = b := by omega
    rw [e', bytes_map_inj (fun x hx => hl x (List.mem_cons_of_mem _ hx)) (fun x hx => hm x (List.mem_cons_of_mem _ hx)) h.2]
theorem equal_f {l m : List Int} (hl : Byte l) (hm : Byte m) : bytes_Equal.f l m = some (decide (l = m)) := by
  unfold bytes_Equal.f
  rw [strOfNums_toList, strOfNums_toList]
  congr 1
  by_cases h : l = m
  · subst h; simp
  · rw [decide_eq_false h]
    have : bytesOf l ≠ bytesOf m := fun e => h (bytes_map_inj hl hm e)
    simpa using this
theorem check_f {k : Nat} {l m : List Int} (hl : Byte l) (hm : Byte m) (hlen : l.length < 9000) (hk : l.length + 3 ≤ k) : mark_Check.f k l m = some (decide (mbytes (mkm zero l) = m)) := by
  unfold mark_Check.f
  rw [put_f hl hlen hk]
  simp only [Option.bind_some]
  rw [equal_f (bytes_byte _) hm]
  rfl
theorem live_f {k : Nat} (hk : 10 ≤ k) : hanaperlaw04_live.f k = some true := by
  unfold hanaperlaw04_live.f
  have b0 : Byte [0] := fun x hx => by simp at hx; omega
  have b1 : Byte [0, 0] := fun x hx => by simp at hx; omega
  have b2 : Byte [0, 0, 0, 0] := fun x hx => by simp at hx; omega
  have b3 : Byte [] := fun x hx => by cases hx
  rw [mark_of b0 (by simp) (by simp; omega)]
  simp only [Option.bind_some]
  rw [is_f (p := 1) (q := 0) (mk_small zero_small [0]) rfl rfl]
  simp only [Option.bind_some, if_true]
  rw [mark_of b1 (by simp) (by simp; omega)]
  simp only [Option.bind_some]
  rw [is_f (p := 5) (q := 1) (mk_small zero_small [0, 0]) rfl rfl]
  simp only [Option.bind_some, if_true]
  rw [check_f b3 b2 (by simp) (by simp; omega)]
  rfl
end MarkPowersP
open MarkPowersP
theorem MarkPowers : hanaperlaw04_MarkPowers.Pure := by
  intro n _
  refine ⟨20, ?_⟩
  unfold hanaperlaw04_MarkPowers.f
  by_cases h1 : n < 1
  · rw [if_pos h1, hanaperlaw04_MarkPowers.j0, if_pos rfl, live_f (by omega)]; rfl
  rw [if_neg h1]
  by_cases h2 : n > 8191
  · rw [decide_eq_true h2, hanaperlaw04_MarkPowers.j0, if_pos rfl, live_f (by omega)]; rfl
  rw [decide_eq_false h2, hanaperlaw04_MarkPowers.j0, if_neg (by decide), base_f]
  simp only [Option.bind_some]
  obtain ⟨m, rfl⟩ := Int.eq_ofNat_of_zero_le (show 0 ≤ n by omega)
  have p : ∀ j : Nat, j < 10000 → gauss_Pow.f base (j : Int) = some (red (pow base j)) := by
    intro j hj
    unfold gauss_Pow.f gpow
    rw [if_pos ⟨base_small, by omega, by omega⟩, if_pos (by omega), Int.toNat_natCast, pw_eq]
  have p2 : gauss_Pow.f base 8192 = some ⟨17, 0⟩ := by
    have e := p 8192 (by omega)
    rw [red_eq b13] at e
    exact e
  rw [p m (by omega)]
  simp only [Option.bind_some]
  rw [parts_f (red_small _)]
  simp only [Option.bind_some]
  rw [p2]
  simp only [Option.bind_some]
  rw [parts_f ⟨by decide, by decide, by decide, by decide⟩]
  simp only [Option.bind_some]
  have hne : (red (pow base m)).im ≠ 0 := fun e => base_im m (by omega) (by omega) (Int.dvd_of_emod_eq_zero e)
  rw [if_neg hne]
  simp only [if_true]
  rw [live_f (by omega)]; rfl
end Go.Proofs.Ytdpcfamgmicboaa.Pure
