/- The plain law of MarkJoins: the mark of two texts, one behind the other, comes of theirs; for every two texts and every number. -/
import Derived.Test.YtdpcfamgmicboaaStatMarkJoins
import Derived.Test.YtdpcfamgmicboaaMarkM
import Derived.Lib.Bytes
namespace Go.Proofs.Ytdpcfamgmicboaa.Pure
open Go.RowKit Go.Proofs.Ytdpcfamgmicboaa.PMarkJoins Go.Proofs.YtdpcfamgmicboaaW.PrintWords Go.GaussM Go.GaussM.Z Go.Lib
namespace MarkJoinsP
theorem w64 {n : Int} (h1 : -9223372036854775808 ≤ n) (h2 : n ≤ 9223372036854775807) : wrap64 n = n := by unfold wrap64; omega
def Byte (l : List Int) : Prop := ∀ x ∈ l, 0 ≤ x ∧ x < 256
theorem byte_of {l : List Int} (h : ∀ y ∈ l, (Lit.int .u8 y).wf = true) : Byte l := fun x hx => by
  have := h x hx
  have e1 : IntKind.u8.min = 0 := rfl
  have e2 : IntKind.u8.max = 255 := rfl
  simp only [Lit.wf, e1, e2, Bool.and_eq_true, decide_eq_true_eq] at this
  omega
theorem zero_small : Small zero := ⟨by decide, by decide, by decide, by decide⟩
theorem parts_f {z : Z} (h : Small z) : gauss_Parts.f z = some (z.re, z.im) := by unfold gauss_Parts.f; rw [if_pos h]
theorem is_f {z : Z} {p q : Int} (h : Small z) (hp : z.re = p) (hq : z.im = q) : hanaperlaw03_Is.f z p q = some true := by
  unfold hanaperlaw03_Is.f
  rw [parts_f h]
  simp [hp, hq]
theorem mul_f {x y : Z} (h : Small x) (k : Small y) : gauss_Mul.f x y = some (gmul x y) := by unfold gauss_Mul.f; rw [if_pos ⟨h, k⟩]
theorem add_f {x y : Z} (h : Small x) (k : Small y) : gauss_Add.f x y = some (gadd x y) := by unfold gauss_Add.f; rw [if_pos ⟨h, k⟩]
theorem base_f : mark_Base.f = some base := rfl
theorem rd_drop {l : List Int} {i : Nat} (h : i < l.length) : l.drop i = rd l (i : Int) :: l.drop (i + 1) := by
  rw [List.drop_eq_getElem_cons h]
  simp [rd, List.getElem?_eq_getElem h, List.getD_eq_getElem?_getD]
theorem rd_byte {l : List Int} (hb : Byte l) {i : Nat} (h : i < l.length) : 0 ≤ rd l (i : Int) ∧ rd l (i : Int) < 256 := by
  have : rd l (i : Int) = l[i] := by simp [rd, List.getElem?_eq_getElem h, List.getD_eq_getElem?_getD]
  rw [this]
  exact hb _ (List.getElem_mem h)
theorem of_step (L : List (List Int)) (j n : Int) (p : List Int) (K : Nat) (z : Z) (i : Nat) (hz : Small z) (hlt : i < p.length) (hb : 0 ≤ rd p (i : Int) ∧ rd p (i : Int) < 256) (hn : p.length < 9000) :
    mark_Of.l1 (K + 1) z base L n j p (p.length : Int) (i : Int) = mark_Of.l1 K (gadd (gmul z base) (red ⟨rd p (i : Int) + 1, 0⟩)) base L n j p (p.length : Int) ((i + 1 : Nat) : Int) := by
  rw [mark_Of.l1, if_pos (by omega), if_pos (by omega), if_pos (by omega), mul_f hz base_small]
  simp only [Option.bind_some]
  rw [w64 (n := rd p (i : Int)) (by omega) (by omega), w64 (n := rd p (i : Int) + 1) (by omega) (by omega)]
  unfold gauss_Of.f
  simp only [Option.bind_some]
  rw [add_f (x := gmul z base) (red_small _) (red_small _)]
  simp only [Option.bind_some]
  rw [w64 (n := (i : Int) + 1) (by omega) (by omega)]
  rfl
theorem of_end (L : List (List Int)) (j n : Int) (p : List Int) (K : Nat) (z : Z) (i : Nat) (hi : i = p.length) : mark_Of.l1 (K + 1) z base L n j p (p.length : Int) (i : Int) = mark_Of.l0 K z base L n (wrap64 (j + 1)) := by
  rw [mark_Of.l1, if_neg (by omega)]
theorem of_l1 (L : List (List Int)) (j n : Int) (p : List Int) (hp : Byte p) (hlen : p.length < 9000) (d : Nat) : ∀ (K : Nat) (z : Z) (i : Nat), Small z → i + d = p.length →
    mark_Of.l1 (K + 1 + d) z base L n j p (p.length : Int) (i : Int) = mark_Of.l0 K (mkm z (p.drop i)) base L n (wrap64 (j + 1)) := by
  induction d with
  | zero =>
    intro K z i hz hi
    rw [List.drop_of_length_le (by omega), mkm_nil]
    exact of_end L j n p K z i (by omega)
  | succ d ih =>
    intro K z i hz hi
    have hlt : i < p.length := by omega
    have e := of_step L j n p (K + 1 + d) z i hz hlt (rd_byte hp hlt) hlen
    have e2 := ih K (gadd (gmul z base) (red ⟨rd p (i : Int) + 1, 0⟩)) (i + 1) (red_small _) (by omega)
    rw [rd_drop hlt, mkm_cons]
    exact e.trans e2
theorem mark_of {k : Nat} {l : List Int} (hl : Byte l) (hlen : l.length < 9000) (hk : l.length + 3 ≤ k) : mark_Of.f k [l] = some (mkm zero l) := by
  obtain ⟨K, rfl⟩ : ∃ K, k = K + 1 + 1 + l.length + 1 := ⟨k - l.length - 3, by omega⟩
  unfold mark_Of.f
  have e1 : gauss_Of.f 0 0 = some zero := rfl
  rw [e1, base_f]
  simp only [Option.bind_some]
  rw [mark_Of.l0, if_pos (by simp), if_pos (by omega), if_pos (by simp)]
  have e2 : rd_L1 [l] (0 : Int) = l := rfl
  rw [e2]
  have := of_l1 [l] 0 (([l] : List (List Int)).length : Int) l hl hlen l.length (K + 1) zero 0 zero_small (by omega)
  rw [show ((0 : Nat) : Int) = 0 from rfl] at this
  rw [this, w64 (by omega) (by omega), mark_Of.l0, if_neg (by simp)]
  rfl
/-- The mbytes of a mark. -/
def mbytes (z : Z) : List Int := [z.re / 256 % 256, z.re % 256, z.im / 256 % 256, z.im % 256]
theorem bytes_byte (z : Z) : Byte (mbytes z) := fun x hx => by
  simp only [mbytes, List.mem_cons, List.not_mem_nil, or_false] at hx
  rcases hx with rfl | rfl | rfl | rfl <;> omega
theorem bytes_inj {x y : Z} (hx : Small x) (hy : Small y) (h : mbytes x = mbytes y) : x = y := by
  simp only [mbytes, List.cons.injEq, and_true] at h
  obtain ⟨h1, h2, h3, h4⟩ := hx
  obtain ⟨k1, k2, k3, k4⟩ := hy
  obtain ⟨a, b, c, d⟩ := h
  exact ext' (by omega) (by omega)
theorem put_f {k : Nat} {l : List Int} (hl : Byte l) (hlen : l.length < 9000) (hk : l.length + 3 ≤ k) : mark_Put.f k l = some (mbytes (mkm zero l)) := by
  unfold mark_Put.f
  rw [mark_of hl hlen hk]
  simp only [Option.bind_some]
  rw [parts_f (mk_small zero_small l)]
  rfl
theorem bytes_map_inj : ∀ {l m : List Int}, Byte l → Byte m → l.map (fun n => UInt8.ofNat n.toNat) = m.map (fun n => UInt8.ofNat n.toNat) → l = m
  | [], [], _, _, _ => rfl
  | [], _ :: _, _, _, h => by simp at h
  | _ :: _, [], _, _, h => by simp at h
  | a :: l, b :: m, hl, hm, h => by
    simp only [List.map_cons, List.cons.injEq] at h
    have ha := hl a (List.mem_cons_self ..)
    have hb := hm b (List.mem_cons_self ..)
    have e : (UInt8.ofNat a.toNat).toNat = (UInt8.ofNat b.toNat).toNat := by rw [h.1]
    simp only [UInt8.toNat_ofNat'] at e
    have e' : a = b := by omega
    rw [e', bytes_map_inj (fun x hx => hl x (List.mem_cons_of_mem _ hx)) (fun x hx => hm x (List.mem_cons_of_mem _ hx)) h.2]
theorem equal_f {l m : List Int} (hl : Byte l) (hm : Byte m) : bytes_Equal.f l m = some (decide (l = m)) := by
  unfold bytes_Equal.f
  rw [strOfNums_toList, strOfNums_toList]
  congr 1
  by_cases h : l = m
  · subst h; simp
  · rw [decide_eq_false h]
    have : bytesOf l ≠ bytesOf m := fun e => h (bytes_map_inj hl hm e)
    simpa using this
theorem check_f {k : Nat} {l m : List Int} (hl : Byte l) (hm : Byte m) (hlen : l.length < 9000) (hk : l.length + 3 ≤ k) : mark_Check.f k l m = some (decide (mbytes (mkm zero l) = m)) := by
  unfold mark_Check.f
  rw [put_f hl hlen hk]
  simp only [Option.bind_some]
  rw [equal_f (bytes_byte _) hm]
  rfl
theorem live_f {k : Nat} (hk : 10 ≤ k) : hanaperlaw04_live.f k = some true := by
  unfold hanaperlaw04_live.f
  have b0 : Byte [0] := fun x hx => by simp at hx; omega
  have b1 : Byte [0, 0] := fun x hx => by simp at hx; omega
  have b2 : Byte [0, 0, 0, 0] := fun x hx => by simp at hx; omega
  have b3 : Byte [] := fun x hx => by cases hx
  rw [mark_of b0 (by simp) (by simp; omega)]
  simp only [Option.bind_some]
  rw [is_f (p := 1) (q := 0) (mk_small zero_small [0]) rfl rfl]
  simp only [Option.bind_some, if_true]
  rw [mark_of b1 (by simp) (by simp; omega)]
  simp only [Option.bind_some]
  rw [is_f (p := 5) (q := 1) (mk_small zero_small [0, 0]) rfl rfl]
  simp only [Option.bind_some, if_true]
  rw [check_f b3 b2 (by simp) (by simp; omega)]
  rfl
end MarkJoinsP
open MarkJoinsP
theorem rest_f (n : Int) : hanaperref03_Rest.f n = some (n % 8191) := by
  unfold hanaperref03_Rest.f
  split
  · rename_i h; rw [tmod_neg n h]
  · rename_i h; rw [tmod_pos n (by omega)]
theorem of_f (a b : Int) : hanaperref03_Of.f a b = some (a % 8191, b % 8191) := by
  unfold hanaperref03_Of.f
  rw [rest_f, rest_f]; rfl
theorem rmul_f {x y : Z} (hx : Small x) (hy : Small y) : hanaperref03_Mul.f x.re x.im y.re y.im = some ((gmul x y).re, (gmul x y).im) := by
  obtain ⟨h1, h2, h3, h4⟩ := hx
  obtain ⟨k1, k2, k3, k4⟩ := hy
  have m1 := mul_bd h1 h2 k1 k2
  have m2 := mul_bd h3 h4 k3 k4
  have m3 := mul_bd h1 h2 k3 k4
  have m4 := mul_bd h3 h4 k1 k2
  unfold hanaperref03_Mul.f
  rw [w64 (n := x.re * y.re) (by omega) (by omega), w64 (n := x.im * y.im) (by omega) (by omega), w64 (n := x.re * y.im) (by omega) (by omega), w64 (n := x.im * y.re) (by omega) (by omega), w64 (by omega) (by omega), w64 (by omega) (by omega), of_f]; rfl
theorem radd_f {x y : Z} (hx : Small x) (hy : Small y) : hanaperref03_Add.f x.re x.im y.re y.im = some ((gadd x y).re, (gadd x y).im) := by
  obtain ⟨h1, h2, h3, h4⟩ := hx
  obtain ⟨k1, k2, k3, k4⟩ := hy
  unfold hanaperref03_Add.f
  rw [w64 (by omega) (by omega), w64 (by omega) (by omega), of_f]; rfl
theorem ref_step (p : List Int) (K : Nat) (z : Z) (i : Nat) (hz : Small z) (hlt : i < p.length) (hb : 0 ≤ rd p (i : Int) ∧ rd p (i : Int) < 256) (hn : p.length < 9000) :
    hanaperref04_Of.l0 (K + 1) p (i : Int) z.re z.im = hanaperref04_Of.l0 K p ((i + 1 : Nat) : Int) (gadd (gmul z base) (red ⟨rd p (i : Int) + 1, 0⟩)).re (gadd (gmul z base) (red ⟨rd p (i : Int) + 1, 0⟩)).im := by
  have eb : hanaperref04_Base.f = some (base.re, base.im) := rfl
  have eq0 : ((rd p (i : Int) + 1) % 8191, (0 : Int) % 8191) = ((red ⟨rd p (i : Int) + 1, 0⟩).re, (red ⟨rd p (i : Int) + 1, 0⟩).im) := rfl
  rw [hanaperref04_Of.l0, if_pos (by omega), eb]
  simp only [Option.bind_some]
  rw [rmul_f hz base_small]
  simp only [Option.bind_some]
  rw [if_pos (by omega), w64 (n := rd p (i : Int)) (by omega) (by omega), w64 (n := rd p (i : Int) + 1) (by omega) (by omega), of_f, eq0]
  simp only [Option.bind_some]
  rw [radd_f (x := gmul z base) (y := red ⟨rd p (i : Int) + 1, 0⟩) (red_small _) (red_small _)]
  simp only [Option.bind_some]
  rw [w64 (n := (i : Int) + 1) (by omega) (by omega)]
  rfl
theorem ref_end (p : List Int) (K : Nat) (z : Z) (i : Nat) (hi : i = p.length) : hanaperref04_Of.l0 (K + 1) p (i : Int) z.re z.im = some (z.re, z.im) := by
  rw [hanaperref04_Of.l0, if_neg (by omega)]
theorem ref_of_l (p : List Int) (hp : Byte p) (hlen : p.length < 9000) (d : Nat) : ∀ (K : Nat) (z : Z) (i : Nat), Small z → i + d = p.length →
    hanaperref04_Of.l0 (K + 1 + d) p (i : Int) z.re z.im = some ((mkm z (p.drop i)).re, (mkm z (p.drop i)).im) := by
  induction d with
  | zero =>
    intro K z i hz hi
    rw [List.drop_of_length_le (by omega), mkm_nil]
    exact ref_end p K z i (by omega)
  | succ d ih =>
    intro K z i hz hi
    have hlt : i < p.length := by omega
    have e := ref_step p (K + 1 + d) z i hz hlt (rd_byte hp hlt) hlen
    have e2 := ih K (gadd (gmul z base) (red ⟨rd p (i : Int) + 1, 0⟩)) (i + 1) (red_small _) (by omega)
    rw [rd_drop hlt, mkm_cons]
    exact e.trans e2
theorem ref_of {k : Nat} {l : List Int} (hl : Byte l) (hlen : l.length < 9000) (hk : l.length + 3 ≤ k) : hanaperref04_Of.f k l = some ((mkm zero l).re, (mkm zero l).im) := by
  obtain ⟨K, rfl⟩ : ∃ K, k = K + 1 + l.length := ⟨k - l.length - 1, by omega⟩
  unfold hanaperref04_Of.f
  exact ref_of_l l hl hlen l.length K zero 0 zero_small (by omega)
theorem rpow_l (k : Nat) : ∀ (n : Nat) (x a : Z), n < 9223372036854775808 → n < 2 ^ k → Small x → Small a → hanaperref03_power.l0 (k + 1) n a.re a.im x.re x.im = some ((pw x a n).re, (pw x a n).im) := by
  induction k with
  | zero =>
    intro n x a _ hn _ _
    obtain rfl : n = 0 := by simpa using hn
    rw [hanaperref03_power.l0, if_neg (by simp), pw_zero]
  | succ k ih =>
    intro n x a hb hn hx ha
    by_cases h0 : n = 0
    · subst h0
      rw [hanaperref03_power.l0, if_neg (by simp), pw_zero]
    · have hq : wrap64 (Int.tdiv (n : Int) 2) = ((n / 2 : Nat) : Int) := by
        rw [Int.tdiv_eq_ediv_of_nonneg (by omega), w64 (by omega) (by omega)]; omega
      have hr : Int.tmod (n : Int) 2 = ((n % 2 : Nat) : Int) := by rw [Int.tmod_eq_emod_of_nonneg (by omega)]; omega
      have hn2 : n / 2 < 2 ^ k := by rw [Nat.pow_succ] at hn; omega
      rw [hanaperref03_power.l0, if_pos (by omega), hr, hq]
      by_cases h1 : n % 2 = 1
      · rw [if_pos (by omega), rmul_f hx ha]; simp only [Option.bind_some]
        rw [rmul_f ha ha]; simp only [Option.bind_some]
        rw [ih (n / 2) (gmul x a) (gmul a a) (by omega) hn2 (red_small _) (red_small _), pw_odd x a n h1]
      · rw [if_neg (by omega), rmul_f ha ha]; simp only [Option.bind_some]
        rw [ih (n / 2) x (gmul a a) (by omega) hn2 hx (red_small _), pw_even x a n h0 h1]
theorem rpower_f {k : Nat} (hk : 62 ≤ k) {a : Z} (h : Small a) (n : Nat) (hn : n < 2 ^ 60) : hanaperref03_power.f k a.re a.im n = some ((pw one a n).re, (pw one a n).im) := by
  unfold hanaperref03_power.f
  obtain ⟨K, rfl⟩ : ∃ K, k = K + 1 := ⟨k - 1, by omega⟩
  exact rpow_l K n one a (by omega) (Nat.lt_of_lt_of_le hn (Nat.pow_le_pow_right (by omega) (by omega))) one_small h
theorem rinv_f {k : Nat} (hk : 62 ≤ k) {a : Z} (h : Small a) : hanaperref03_Inv.f k a.re a.im = some ((pw one a 67092479).re, (pw one a 67092479).im) := by
  unfold hanaperref03_Inv.f
  have := rpower_f hk h 67092479 (by omega)
  rw [show (67092479 : Int) = ((67092479 : Nat) : Int) from rfl, this]; rfl
theorem inv_all {a : Z} (h : Small a) : pw one a 67092479 = if a = zero then zero else ginv a := by
  split
  · rename_i e; rw [e]; exact pw_zero_base _ (by omega)
  · rename_i e; exact (ginv_eq h e).symm
theorem rPow_f {k : Nat} (hk : 62 ≤ k) {a : Z} (h : Small a) (n : Int) (h1 : -1099511627776 ≤ n) (h2 : n ≤ 1099511627776) : hanaperref03_Pow.f k a.re a.im n = some ((gpow a n).re, (gpow a n).im) := by
  unfold hanaperref03_Pow.f gpow
  by_cases h0 : 0 ≤ n
  · obtain ⟨m, rfl⟩ := Int.eq_ofNat_of_zero_le h0
    rw [if_neg (by omega), if_pos h0, rpower_f hk h m (by omega)]
    rfl
  · rw [if_pos (by omega), if_neg h0, rinv_f hk h]
    obtain ⟨m, hm⟩ := Int.eq_ofNat_of_zero_le (show 0 ≤ -n by omega)
    simp only [Option.bind_some]
    rw [w64 (by omega) (by omega), hm, rpower_f hk (pw_small _ _ _ one_small) m (by omega), inv_all h]
    simp only [Option.bind_some, Int.toNat_natCast]
    split
    · rw [pw_zero_base m (by omega)]
    · rfl
theorem mark_of2 {k : Nat} {l m : List Int} (hl : Byte l) (hm : Byte m) (h1 : l.length < 9000) (h2 : m.length < 9000) (hk : l.length + m.length + 6 ≤ k) : mark_Of.f k [l, m] = some (mkm (mkm zero l) m) := by
  obtain ⟨K, rfl⟩ : ∃ K, k = K + 1 + 1 + m.length + 1 + 1 + l.length + 1 := ⟨k - l.length - m.length - 5, by omega⟩
  unfold mark_Of.f
  have e1 : gauss_Of.f 0 0 = some zero := rfl
  rw [e1, base_f]
  simp only [Option.bind_some]
  rw [mark_Of.l0, if_pos (by simp), if_pos (by omega), if_pos (by simp)]
  have e3 : rd_L1 [l, m] (0 : Int) = l := rfl
  have e4 : rd_L1 [l, m] (1 : Int) = m := rfl
  rw [e3]
  have g1 := of_l1 [l, m] 0 (([l, m] : List (List Int)).length : Int) l hl h1 l.length (K + 1 + 1 + m.length + 1) zero 0 zero_small (by omega)
  rw [show ((0 : Nat) : Int) = 0 from rfl] at g1
  rw [g1, w64 (n := (0 : Int) + 1) (by omega) (by omega), show (0 : Int) + 1 = 1 from rfl, mark_Of.l0, if_pos (by simp), if_pos (by omega), if_pos (by simp), e4]
  have g2 := of_l1 [l, m] 1 (([l, m] : List (List Int)).length : Int) m hm h2 m.length (K + 1) (mkm zero (l.drop 0)) 0 (mk_small zero_small _) (by omega)
  rw [show ((0 : Nat) : Int) = 0 from rfl] at g2
  rw [g2, w64 (n := (1 : Int) + 1) (by omega) (by omega), mark_Of.l0, if_neg (by simp)]
  rfl
theorem copy_f {l : List Int} (h : l.length < 9000) : hanaperref01_Copy.f l = some l := by
  unfold hanaperref01_Copy.f
  simp only [Option.bind_some]
  rw [if_pos (by simp; omega)]
  rfl
/-- What the reference joins. -/
def jn (x y : Z) (n : Int) : Z := if n < 0 then zero else gadd (gmul x (pw one base n.toNat)) y
theorem jn_small (x y : Z) (n : Int) : Small (jn x y n) := by
  unfold jn
  split
  · exact zero_small
  · exact red_small _
theorem join_f {x y : Z} (hx : Small x) (hy : Small y) (n : Int) (h2 : n ≤ 1099511627776) : mark_Join.f x y n = some (jn x y n) := by
  unfold mark_Join.f jn
  by_cases h : n < 0
  · rw [if_pos h, if_pos h]; rfl
  · rw [if_neg h, if_neg h, base_f]
    simp only [Option.bind_some]
    have p : gauss_Pow.f base n = some (pw one base n.toNat) := by
      unfold gauss_Pow.f gpow
      rw [if_pos ⟨base_small, by omega, by omega⟩, if_pos (by omega)]
    rw [p]
    simp only [Option.bind_some]
    rw [mul_f hx (pw_small _ _ _ one_small)]
    simp only [Option.bind_some]
    rw [add_f (x := gmul x (pw one base n.toNat)) (red_small _) hy]
    rfl
theorem tail_f {k : Nat} (hk : 4500 ≤ k) (a b : List Int) (ha : Byte a) (hb : Byte b) (h1 : a.length ≤ 2000) (h2 : b.length ≤ 2000) (n : Int) (hn : n ≤ 1099511627776) (p q : Int) (hp : (jn (mkm zero a) (mkm zero b) n).re = p) (hq : (jn (mkm zero a) (mkm zero b) n).im = q) :
    hanaperlaw04_MarkJoins.j1 (k + 1) a b n (mkm zero a) (mkm zero b) (mkm zero (a ++ b)) p q = some true := by
  have sa := mk_small zero_small a
  have sb := mk_small zero_small b
  have sab := mk_small zero_small (a ++ b)
  rw [hanaperlaw04_MarkJoins.j1, join_f sa sb _ (by omega)]
  simp only [Option.bind_some]
  rw [parts_f sab]
  simp only [Option.bind_some]
  have ej : jn (mkm zero a) (mkm zero b) (b.length : Int) = mkm zero (a ++ b) := by
    unfold jn
    rw [if_neg (by omega), Int.toNat_natCast, mk_join]
  rw [ej, is_f sab rfl rfl]
  simp only [Option.bind_some, if_true]
  rw [mark_of2 ha hb (by omega) (by omega) (by omega), ← mk_append]
  simp only [Option.bind_some]
  rw [is_f sab rfl rfl]
  simp only [Option.bind_some, if_true]
  rw [join_f sa sb n hn]
  simp only [Option.bind_some]
  rw [is_f (jn_small _ _ _) hp hq]
  simp only [Option.bind_some, if_true]
  rw [live_f (by omega)]; rfl
theorem MarkJoins : hanaperlaw04_MarkJoins.Pure := by
  intro a b n ha0 hb0 _
  obtain ⟨k, hk⟩ : ∃ k : Nat, k = 4500 := ⟨_, rfl⟩
  have hk := Nat.le_of_eq hk.symm
  have ha := byte_of ha0.2.2
  have hb := byte_of hb0.2.2
  refine ⟨k + 1 + 1, ?_⟩
  have hlive : hanaperlaw04_MarkJoins.j0 (k + 1 + 1) a b n true = some true := by
    rw [hanaperlaw04_MarkJoins.j0, if_pos rfl, live_f (by omega)]; rfl
  unfold hanaperlaw04_MarkJoins.f
  by_cases h1 : (a.length : Int) > 2000
  · rw [if_pos h1]; exact hlive
  rw [if_neg h1]
  by_cases h2 : (b.length : Int) > 2000
  · rw [if_pos h2]; exact hlive
  rw [if_neg h2]
  by_cases h3 : n > 1099511627776
  · rw [decide_eq_true h3]; exact hlive
  have hab : Byte (a ++ b) := fun x hx => by
    rcases List.mem_append.1 hx with g | g
    · exact ha x g
    · exact hb x g
  have sa := mk_small zero_small a
  have sb := mk_small zero_small b
  rw [decide_eq_false h3, hanaperlaw04_MarkJoins.j0, if_neg (by decide), mark_of ha (by omega) (by omega)]
  simp only [Option.bind_some]
  rw [mark_of hb (by omega) (by omega)]
  simp only [Option.bind_some]
  rw [copy_f (by omega)]
  simp only [Option.bind_some]
  rw [if_pos (by omega), copy_f (by simp; omega)]
  simp only [Option.bind_some]
  rw [mark_of hab (by simp; omega) (by simp; omega)]
  simp only [Option.bind_some]
  by_cases h4 : n ≥ 0
  · have eb : hanaperref04_Base.f = some (base.re, base.im) := rfl
    have hj : jn (mkm zero a) (mkm zero b) n = gadd (gmul (mkm zero a) (gpow base n)) (mkm zero b) := by
      unfold jn gpow
      rw [if_neg (by omega), if_pos h4]
    have hgs : Small (gpow base n) := gpow_small base n
    have hgp : hanaperref03_Pow.f (k + 1) base.re base.im n = some ((gpow base n).re, (gpow base n).im) := rPow_f (by omega) base_small n (by omega) (by omega)
    have ht := tail_f hk a b ha hb (by omega) (by omega) n (by omega) _ _ rfl rfl
    rw [hj] at ht
    generalize gpow base n = g at *
    clear hj
    have hra := ref_of (k := k + 1) ha (by omega) (by omega)
    have hrb := ref_of (k := k + 1) hb (by omega) (by omega)
    generalize mkm zero a = x at *
    generalize mkm zero b = y at *
    have hm := rmul_f sa hgs
    have hd := radd_f (x := gmul x g) (red_small _) sb
    generalize gmul x g = xg at *
    generalize gadd xg y = s at *
    generalize base = bs at *
    rw [if_pos h4, hra, Option.bind_some, eb, Option.bind_some, hgp, Option.bind_some, hm, Option.bind_some, hrb, Option.bind_some, hd, Option.bind_some]
    exact ht
  · rw [if_neg h4]
    refine tail_f hk a b ha hb (by omega) (by omega) n (by omega) _ _ ?_ ?_
    · unfold jn; rw [if_pos (by omega)]; rfl
    · unfold jn; rw [if_pos (by omega)]; rfl
end Go.Proofs.Ytdpcfamgmicboaa.Pure
