/- The plain law of GaussPowers: every number's inverse and its powers are the reference's; for every pair of whole numbers and every power. -/
import Derived.Test.YtdpcfamgmicboabStatGaussPowers
namespace Go.Proofs.Ytdpcfamgmicboab.Pure
open Go.RowKit Go.Proofs.Ytdpcfamgmicboab.PGaussPowers Go.Proofs.YtdpcfamgmicboabW.PrintWords Go.GaussM Go.GaussM.Z
namespace GaussPowersP
theorem w64 {n : Int} (h1 : -9223372036854775808 ≤ n) (h2 : n ≤ 9223372036854775807) : wrap64 n = n := by unfold wrap64; omega
theorem rest_f (n : Int) : hanaperref03_Rest.f n = some (n % 8191) := by
  unfold hanaperref03_Rest.f
  split
  · rename_i h; rw [tmod_neg n h]
  · rename_i h; rw [tmod_pos n (by omega)]
theorem of_f (a b : Int) : hanaperref03_Of.f a b = some (a % 8191, b % 8191) := by
  unfold hanaperref03_Of.f
  rw [rest_f, rest_f]; rfl
theorem lawof_f (a b : Int) : hanaperlaw03_of.f a b = some (red ⟨a, b⟩, a % 8191, b % 8191) := by
  unfold hanaperlaw03_of.f gauss_Of.f
  rw [of_f]; rfl
theorem parts_f {z : Z} (h : Small z) : gauss_Parts.f z = some (z.re, z.im) := by unfold gauss_Parts.f; rw [if_pos h]
theorem is_f {z : Z} {p q : Int} (h : Small z) (hp : z.re = p) (hq : z.im = q) : hanaperlaw03_Is.f z p q = some true := by
  unfold hanaperlaw03_Is.f
  rw [parts_f h]
  simp [hp, hq]
theorem mul_f {x y : Z} (h : Small x) (k : Small y) : gauss_Mul.f x y = some (gmul x y) := by unfold gauss_Mul.f; rw [if_pos ⟨h, k⟩]
theorem inv_f {x : Z} (h : Small x) (hz : x ≠ zero) : gauss_Inv.f x = some (ginv x, true) := by
  unfold gauss_Inv.f; rw [if_pos h, if_neg (fun g => hz ((gnorm_zero h).1 g))]
theorem inv_f0 : gauss_Inv.f zero = some (zero, false) := by
  unfold gauss_Inv.f; rw [if_pos (show Small zero from ⟨by simp [zero], by simp [zero], by simp [zero], by simp [zero]⟩), if_pos (show gnorm zero = 0 from rfl)]
theorem live_f : hanaperlaw03_live.f = some true := by
  have h2 : Small ⟨2, 0⟩ := ⟨by decide, by decide, by decide, by decide⟩
  have h4 : Small ⟨4096, 0⟩ := ⟨by decide, by decide, by decide, by decide⟩
  have hi : ginv ⟨2, 0⟩ = ⟨4096, 0⟩ := ginv_unique h2 (fun e => by cases e) h4 rfl
  unfold hanaperlaw03_live.f
  have e1 : gauss_Of.f 2 0 = some ⟨2, 0⟩ := rfl
  have e2 : gauss_Of.f 4 1 = some ⟨4, 1⟩ := rfl
  have e3 : gauss_Of.f 4 (-1) = some ⟨4, 8190⟩ := rfl
  have e4 : gauss_Mul.f ⟨4, 1⟩ ⟨4, 8190⟩ = some ⟨17, 0⟩ := rfl
  have e5 : hanaperlaw03_Is.f ⟨17, 0⟩ 17 0 = some true := is_f ⟨by decide, by decide, by decide, by decide⟩ rfl rfl
  have e6 : hanaperlaw03_Is.f ⟨4096, 0⟩ 4096 0 = some true := is_f h4 rfl rfl
  rw [e1]; simp only [Option.bind_some]
  rw [inv_f h2 (fun e => by cases e), hi]; simp only [Option.bind_some]
  rw [e2, e3]; simp only [Option.bind_some]
  rw [e4]; simp only [Option.bind_some]
  rw [e5]; simp only [Option.bind_some, if_true]
  rw [e6]; rfl
theorem rmul_f {x y : Z} (hx : Small x) (hy : Small y) : hanaperref03_Mul.f x.re x.im y.re y.im = some ((gmul x y).re, (gmul x y).im) := by
  obtain ⟨h1, h2, h3, h4⟩ := hx
  obtain ⟨k1, k2, k3, k4⟩ := hy
  have m1 := mul_bd h1 h2 k1 k2
  have m2 := mul_bd h3 h4 k3 k4
  have m3 := mul_bd h1 h2 k3 k4
  have m4 := mul_bd h3 h4 k1 k2
  unfold hanaperref03_Mul.f
  rw [w64 (n := x.re * y.re) (by omega) (by omega), w64 (n := x.im * y.im) (by omega) (by omega), w64 (n := x.re * y.im) (by omega) (by omega), w64 (n := x.im * y.re) (by omega) (by omega), w64 (by omega) (by omega), w64 (by omega) (by omega), of_f]; rfl
theorem rpow_l (k : Nat) : ∀ (n : Nat) (x a : Z), n < 9223372036854775808 → n < 2 ^ k → Small x → Small a → hanaperref03_power.l0 (k + 1) n a.re a.im x.re x.im = some ((pw x a n).re, (pw x a n).im) := by
  induction k with
  | zero =>
    intro n x a _ hn _ _
    obtain rfl : n = 0 := by simpa using hn
    rw [hanaperref03_power.l0, if_neg (by simp), pw_zero]
  | succ k ih =>
    intro n x a hb hn hx ha
    by_cases h0 : n = 0
    · subst h0
      rw [hanaperref03_power.l0, if_neg (by simp), pw_zero]
    · have hq : wrap64 (Int.tdiv (n : Int) 2) = ((n / 2 : Nat) : Int) := by
        rw [Int.tdiv_eq_ediv_of_nonneg (by omega), w64 (by omega) (by omega)]; omega
      have hr : Int.tmod (n : Int) 2 = ((n % 2 : Nat) : Int) := by rw [Int.tmod_eq_emod_of_nonneg (by omega)]; omega
      have hn2 : n / 2 < 2 ^ k := by rw [Nat.pow_succ] at hn; omega
      rw [hanaperref03_power.l0, if_pos (by omega), hr, hq]
      by_cases h1 : n % 2 = 1
      · rw [if_pos (by omega), rmul_f hx ha]; simp only [Option.bind_some]
        rw [rmul_f ha ha]; simp only [Option.bind_some]
        rw [ih (n / 2) (gmul x a) (gmul a a) (by omega) hn2 (red_small _) (red_small _), pw_odd x a n h1]
      · rw [if_neg (by omega), rmul_f ha ha]; simp only [Option.bind_some]
        rw [ih (n / 2) x (gmul a a) (by omega) hn2 hx (red_small _), pw_even x a n h0 h1]
theorem rpower_f {a : Z} (h : Small a) (n : Nat) (hn : n < 2 ^ 60) : hanaperref03_power.f 100 a.re a.im n = some ((pw one a n).re, (pw one a n).im) := by
  unfold hanaperref03_power.f
  exact rpow_l 99 n one a (by omega) (Nat.lt_of_lt_of_le hn (Nat.pow_le_pow_right (by omega) (by omega))) one_small h
theorem rinv_f {a : Z} (h : Small a) : hanaperref03_Inv.f 100 a.re a.im = some ((pw one a 67092479).re, (pw one a 67092479).im) := by
  unfold hanaperref03_Inv.f
  have := rpower_f h 67092479 (by omega)
  rw [show (67092479 : Int) = ((67092479 : Nat) : Int) from rfl, this]; rfl
theorem inv_all {a : Z} (h : Small a) : pw one a 67092479 = if a = zero then zero else ginv a := by
  split
  · rename_i e; rw [e]; exact pw_zero_base _ (by omega)
  · rename_i e; exact (ginv_eq h e).symm
theorem rPow_f {a : Z} (h : Small a) (n : Int) (h1 : -1099511627776 ≤ n) (h2 : n ≤ 1099511627776) : hanaperref03_Pow.f 100 a.re a.im n = some ((gpow a n).re, (gpow a n).im) := by
  unfold hanaperref03_Pow.f gpow
  by_cases h0 : 0 ≤ n
  · obtain ⟨m, rfl⟩ := Int.eq_ofNat_of_zero_le h0
    rw [if_neg (by omega), if_pos h0, rpower_f h m (by omega)]
    rfl
  · rw [if_pos (by omega), if_neg h0, rinv_f h]
    obtain ⟨m, hm⟩ := Int.eq_ofNat_of_zero_le (show 0 ≤ -n by omega)
    simp only [Option.bind_some]
    rw [w64 (by omega) (by omega), hm, rpower_f (pw_small _ _ _ one_small) m (by omega), inv_all h]
    simp only [Option.bind_some, Int.toNat_natCast]
    split
    · rw [pw_zero_base m (by omega)]
    · rfl
end GaussPowersP
open GaussPowersP
theorem GaussPowers : hanaperlaw03_GaussPowers.Pure := by
  intro x0 n _ _
  refine ⟨101, ?_⟩
  unfold hanaperlaw03_GaussPowers.f
  by_cases h1 : n < -1099511627776
  · rw [if_pos h1, hanaperlaw03_GaussPowers.j0, if_pos rfl, live_f]; rfl
  rw [if_neg h1]
  by_cases h2 : n > 1099511627776
  · rw [decide_eq_true h2, hanaperlaw03_GaussPowers.j0, if_pos rfl, live_f]; rfl
  rw [decide_eq_false h2, hanaperlaw03_GaussPowers.j0, if_neg (by decide), lawof_f]
  simp only [Option.bind_some]
  have hx : Small (red ⟨x0.f0, x0.f1⟩) := red_small _
  have e0 : x0.f0 % 8191 = (red ⟨x0.f0, x0.f1⟩).re := rfl
  have e1 : x0.f1 % 8191 = (red ⟨x0.f0, x0.f1⟩).im := rfl
  rw [e0, e1]
  generalize red ⟨x0.f0, x0.f1⟩ = x at *
  have p1 : gauss_Pow.f x n = some (gpow x n) := by unfold gauss_Pow.f; rw [if_pos ⟨hx, by omega, by omega⟩]
  have key : ∀ (i : Z) (b : Bool), gauss_Inv.f x = some (i, b) → b = (!(x.re == 0) || (!(x.im == 0))) → Small i → pw one x 67092479 = i →
      ((gauss_Inv.f x).bind fun bt152 => (if (bt152.2 == (!(x.re == 0) || (!(x.im == 0)))) = true then ((hanaperref03_Inv.f 100 x.re x.im).bind fun bt154 => ((hanaperlaw03_Is.f bt152.1 bt154.1 bt154.2).bind fun t156 => (if t156 = true then ((gauss_Pow.f x n).bind fun t157 => ((hanaperref03_Pow.f 100 x.re x.im n).bind fun bt158 => ((hanaperlaw03_Is.f t157 bt158.1 bt158.2).bind fun t160 => (if t160 = true then ((hanaperlaw03_live.f).bind fun t161 => (some t161)) else (some false))))) else (some false)))) else (some false))) = some true := by
    intro i b hi hb hs hp
    rw [hi]; simp only [Option.bind_some]
    rw [hb, if_pos (by simp), rinv_f hx, hp]; simp only [Option.bind_some]
    rw [is_f hs rfl rfl]; simp only [Option.bind_some, if_true]
    rw [p1, rPow_f hx n (by omega) (by omega)]; simp only [Option.bind_some]
    rw [is_f (gpow_small x n) rfl rfl]; simp only [Option.bind_some, if_true]
    rw [live_f]; rfl
  by_cases hz : x = zero
  · refine key zero false ?_ ?_ ⟨by simp [zero], by simp [zero], by simp [zero], by simp [zero]⟩ ?_
    · rw [hz]; exact inv_f0
    · rw [hz]; rfl
    · rw [hz]; exact pw_zero_base _ (by omega)
  · refine key (ginv x) true (inv_f hx hz) ?_ (red_small _) (ginv_eq hx hz).symm
    by_cases hr : x.re = 0
    · have hm : x.im ≠ 0 := fun e => hz (ext' hr e)
      simp [hr, hm]
    · simp [hr]
end Go.Proofs.Ytdpcfamgmicboab.Pure
