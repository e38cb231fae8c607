/- Contracts of the package stamp's functions, next part: the order of points, rows of points against each other, corner. -/
import Derived.Test.YtdpcfamgmicboadStampB
namespace Go.Proofs.Ytdpcfamgmicboad
open Go.RowKit Go.Flt Go.Proofs.YtdpcfamgmicboadW.PrintWords
attribute [local go_sem] run_neg_float run_store_complex run_store_float
/-- A whole number against another: -1, 0, 1. -/
def cmpI (a b : Int) : Int := if a < b then -1 else if a > b then 1 else 0
theorem order_rel {x y : Nat} {a b : Int} (h : F x a) (g : F y b) (ha : a.natAbs < 2 ^ 53) (hb : b.natAbs < 2 ^ 53) : FloatKind.f64.format.order x y = some (compare a b) := Flt.order h g ha hb
theorem order_self {x : Nat} {a : Int} (h : F x a) (ha : a.natAbs < 2 ^ 53) : FloatKind.f64.format.order x x = some .eq := by
  rw [order_rel h h ha ha]; simp [compare, compareOfLessAndEq]
set_option maxHeartbeats 4000000 in
theorem isNaN_any (x : Nat) (a : Int) (h : F x a) (ha : a.natAbs < 2 ^ 53) (w : World) :
    Calls Try.prog 41 #[.float .f64 x] w fun e w' => e = .returned (.bool false) ∧ w = w' := by
  have ho : (FloatKind.f64.format.order x x != some Ordering.eq) = false := by rw [order_self h ha]; rfl
  go_enter Try.func41, Try.ntmps41
  go_wp2
  go_ret
  exact ⟨rfl, rfl⟩
set_option maxHeartbeats 4000000 in
theorem cmpf_any (x y : Nat) (a b : Int) (h : F x a) (g : F y b) (ha : a.natAbs < 2 ^ 53) (hb : b.natAbs < 2 ^ 53) (w : World) :
    Calls Try.prog 40 #[.float .f64 x, .float .f64 y] w fun e w' => e = .returned (.int .i64 (cmpI a b)) ∧ w = w' := by
  have ho := order_rel h g ha hb
  have hc : compare a b = (if a < b then .lt else if a = b then .eq else .gt) := rfl
  rw [hc] at ho
  clear hc
  unfold cmpI
  by_cases h1 : a < b
  · rw [if_pos h1] at ho ⊢
    go_enter Try.func40, Try.ntmps40
    go_wp2_with (first | (go_at_call 41; refine (isNaN_any x a h ha _).mono ?_; rintro e w' ⟨rfl, rfl⟩) | (go_at_call 41; refine (isNaN_any y b g hb _).mono ?_; rintro e w' ⟨rfl, rfl⟩))
    go_ret
    exact ⟨rfl, rfl⟩
  · rw [if_neg h1] at ho ⊢
    by_cases h2 : a = b
    · rw [if_pos h2] at ho
      rw [if_neg (by omega)]
      clear h1 h2
      go_enter Try.func40, Try.ntmps40
      go_wp2_with (first | (go_at_call 41; refine (isNaN_any x a h ha _).mono ?_; rintro e w' ⟨rfl, rfl⟩) | (go_at_call 41; refine (isNaN_any y b g hb _).mono ?_; rintro e w' ⟨rfl, rfl⟩))
      go_ret
      exact ⟨rfl, rfl⟩
    · rw [if_neg h2] at ho
      rw [if_pos (by omega)]
      clear h1 h2
      go_enter Try.func40, Try.ntmps40
      go_wp2_with (first | (go_at_call 41; refine (isNaN_any x a h ha _).mono ?_; rintro e w' ⟨rfl, rfl⟩) | (go_at_call 41; refine (isNaN_any y b g hb _).mono ?_; rintro e w' ⟨rfl, rfl⟩))
      go_ret
      exact ⟨rfl, rfl⟩
/-- The order of two points: by their first parts, then by their second. -/
def cmpz (x y : CX) : Int := if cmpI x.re y.re ≠ 0 then cmpI x.re y.re else cmpI x.im y.im
set_option maxHeartbeats 4000000 in
theorem or_any (x y r : Int) (hr : Hid (r = if x ≠ 0 then x else y)) (g : Nat) (w : World) (h0 : w.cell? ⟨g, 0, none⟩ = some (.int .i64 x)) (h1 : w.cell? ⟨g, 1, none⟩ = some (.int .i64 y)) :
    Calls Try.prog 39 #[.slice (some ⟨g, 0, none⟩) 2 2] w fun e w' => e = .returned (.int .i64 r) ∧ w = w' := by
  go_enter Try.func39, Try.ntmps39
  go_wp2
  go_loop [8] (fun v8 => ∃ i : Nat, i ≤ 2 ∧ v8 = .int .i64 i ∧ Aside0 (1 ≤ i → x = 0) ∧ Aside0 (2 ≤ i → y = 0)) (fun v8 => 2 - (intOf v8).toNat)
  case atStart => exact ⟨0, by omega, rfl, ⟨fun h => by omega⟩, ⟨fun h => by omega⟩⟩
  case round =>
    obtain ⟨i, hi, rfl, HX, HY⟩ := hrel
    have h3 : i = 0 ∨ i = 1 ∨ i = 2 := by omega
    rcases h3 with rfl | rfl | rfl
    · by_cases hx : x = 0
      · have HX0 := Lib.hid hx
        have hx1 : (x != 0) = false := by rw [hx]; rfl
        clear hx
        go_wp2
        exact ⟨⟨1, by omega, rfl, ⟨fun _ => HX0.out⟩, ⟨fun h => by omega⟩⟩, by simp [intOf]⟩
      · have HX0 := Lib.hid hx
        have hx1 : (x != 0) = true := bne_iff_ne.2 hx
        clear hx
        go_wp2
        go_ret
        exact ⟨ret_i (by rw [hr.out, if_pos HX0.out]), rfl⟩
    · by_cases hy : y = 0
      · have HY0 := Lib.hid hy
        have hy1 : (y != 0) = false := by rw [hy]; rfl
        clear hy
        go_wp2
        exact ⟨⟨2, by omega, rfl, ⟨fun _ => HX.out (by omega)⟩, ⟨fun h => HY0.out⟩⟩, by simp [intOf]⟩
      · have hy1 : (y != 0) = true := bne_iff_ne.2 hy
        clear hy
        go_wp2
        go_ret
        exact ⟨ret_i (by rw [hr.out, if_neg (by simp [HX.out (by omega)])]), rfl⟩
    · go_wp2
      go_ret
      exact ⟨ret_i (by rw [hr.out, HX.out (by omega), HY.out (by omega)]; rfl), rfl⟩
set_option maxHeartbeats 400000 in
theorem order_bits (b1 b2 c1 c2 : Nat) (p q r : Int) (hr : Hid (r = if p ≠ 0 then p else q)) (C1 : Hid (∀ w, Calls Try.prog 40 #[.float .f64 b1, .float .f64 c1] w fun e w' => e = .returned (.int .i64 p) ∧ w = w')) (C2 : Hid (∀ w, Calls Try.prog 40 #[.float .f64 b2, .float .f64 c2] w fun e w' => e = .returned (.int .i64 q) ∧ w = w')) (w : World) :
    Calls Try.prog 35 #[.complex .f64 b1 b2, .complex .f64 c1 c2] w fun e w' => e = .returned (.int .i64 r) ∧ Below w.heap.size w w' := by
  go_enter Try.func35, Try.ntmps35
  go_wp2_with fail
  refine (C1.out _).mono ?_
  rintro e w' ⟨rfl, rfl⟩
  go_wp2_with fail
  refine (C2.out _).mono ?_
  rintro e w' ⟨rfl, rfl⟩
  go_wp2_with fail
  refine (or_any p q r hr w.heap.size _ (by simp) (by simp)).mono ?_
  rintro e w' ⟨rfl, rfl⟩
  go_wp2
  go_ret
  exact ⟨rfl, below_alloc (Below.refl _ _) _⟩
theorem order_any (b c : Nat × Nat) (x y : CX) (hb : rel b x) (hc : rel c y) (hx : sm 1000000000000 x) (hy : sm 1000000000000 y) (w : World) :
    Calls Try.prog 35 #[.complex .f64 b.1 b.2, .complex .f64 c.1 c.2] w fun e w' => e = .returned (.int .i64 (cmpz x y)) ∧ Below w.heap.size w w' := by
  have hx1 := hx.1; have hx2 := hx.2; have hy1 := hy.1; have hy2 := hy.2
  exact order_bits b.1 b.2 c.1 c.2 _ _ _ (Lib.hid rfl) (Lib.hid fun w => cmpf_any b.1 c.1 _ _ hb.1 hc.1 (by omega) (by omega) w) (Lib.hid fun w => cmpf_any b.2 c.2 _ _ hb.2 hc.2 (by omega) (by omega) w) w
end Go.Proofs.Ytdpcfamgmicboad
