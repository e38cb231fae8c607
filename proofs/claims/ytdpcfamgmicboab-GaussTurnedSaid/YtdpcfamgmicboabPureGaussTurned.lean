/- The plain law of GaussTurned: the power by 8191 is the number turned about, and powers of a product are products of powers; for every two pairs of whole numbers and every power. -/
import Derived.Test.YtdpcfamgmicboabStatGaussTurned
namespace Go.Proofs.Ytdpcfamgmicboab.Pure
open Go.RowKit Go.Proofs.Ytdpcfamgmicboab.PGaussTurned Go.Proofs.YtdpcfamgmicboabW.PrintWords Go.GaussM Go.GaussM.Z
namespace GaussTurnedP
theorem w64 {n : Int} (h1 : -9223372036854775808 ≤ n) (h2 : n ≤ 9223372036854775807) : wrap64 n = n := by unfold wrap64; omega
theorem rest_f (n : Int) : hanaperref03_Rest.f n = some (n % 8191) := by
  unfold hanaperref03_Rest.f
  split
  · rename_i h; rw [tmod_neg n h]
  · rename_i h; rw [tmod_pos n (by omega)]
theorem of_f (a b : Int) : hanaperref03_Of.f a b = some (a % 8191, b % 8191) := by
  unfold hanaperref03_Of.f
  rw [rest_f, rest_f]; rfl
theorem lawof_f (a b : Int) : hanaperlaw03_of.f a b = some (red ⟨a, b⟩, a % 8191, b % 8191) := by
  unfold hanaperlaw03_of.f gauss_Of.f
  rw [of_f]; rfl
theorem parts_f {z : Z} (h : Small z) : gauss_Parts.f z = some (z.re, z.im) := by unfold gauss_Parts.f; rw [if_pos h]
theorem is_f {z : Z} {p q : Int} (h : Small z) (hp : z.re = p) (hq : z.im = q) : hanaperlaw03_Is.f z p q = some true := by
  unfold hanaperlaw03_Is.f
  rw [parts_f h]
  simp [hp, hq]
theorem mul_f {x y : Z} (h : Small x) (k : Small y) : gauss_Mul.f x y = some (gmul x y) := by unfold gauss_Mul.f; rw [if_pos ⟨h, k⟩]
theorem inv_f {x : Z} (h : Small x) (hz : x ≠ zero) : gauss_Inv.f x = some (ginv x, true) := by
  unfold gauss_Inv.f; rw [if_pos h, if_neg (fun g => hz ((gnorm_zero h).1 g))]
theorem inv_f0 : gauss_Inv.f zero = some (zero, false) := by
  unfold gauss_Inv.f; rw [if_pos (show Small zero from ⟨by simp [zero], by simp [zero], by simp [zero], by simp [zero]⟩), if_pos (show gnorm zero = 0 from rfl)]
theorem live_f : hanaperlaw03_live.f = some true := by
  have h2 : Small ⟨2, 0⟩ := ⟨by decide, by decide, by decide, by decide⟩
  have h4 : Small ⟨4096, 0⟩ := ⟨by decide, by decide, by decide, by decide⟩
  have hi : ginv ⟨2, 0⟩ = ⟨4096, 0⟩ := ginv_unique h2 (fun e => by cases e) h4 rfl
  unfold hanaperlaw03_live.f
  have e1 : gauss_Of.f 2 0 = some ⟨2, 0⟩ := rfl
  have e2 : gauss_Of.f 4 1 = some ⟨4, 1⟩ := rfl
  have e3 : gauss_Of.f 4 (-1) = some ⟨4, 8190⟩ := rfl
  have e4 : gauss_Mul.f ⟨4, 1⟩ ⟨4, 8190⟩ = some ⟨17, 0⟩ := rfl
  have e5 : hanaperlaw03_Is.f ⟨17, 0⟩ 17 0 = some true := is_f ⟨by decide, by decide, by decide, by decide⟩ rfl rfl
  have e6 : hanaperlaw03_Is.f ⟨4096, 0⟩ 4096 0 = some true := is_f h4 rfl rfl
  rw [e1]; simp only [Option.bind_some]
  rw [inv_f h2 (fun e => by cases e), hi]; simp only [Option.bind_some]
  rw [e2, e3]; simp only [Option.bind_some]
  rw [e4]; simp only [Option.bind_some]
  rw [e5]; simp only [Option.bind_some, if_true]
  rw [e6]; rfl
theorem pow_f {x : Z} (h : Small x) (n : Int) (h0 : 0 ≤ n) (h1 : n ≤ 1099511627776) : gauss_Pow.f x n = some (pw one x n.toNat) := by
  unfold gauss_Pow.f gpow
  rw [if_pos ⟨h, by omega, by omega⟩, if_pos h0]
end GaussTurnedP
open GaussTurnedP
theorem GaussTurned : hanaperlaw03_GaussTurned.Pure := by
  intro x0 x1 n _ _ _
  refine ⟨1, ?_⟩
  unfold hanaperlaw03_GaussTurned.f
  by_cases h1 : n < 0
  · rw [if_pos h1, hanaperlaw03_GaussTurned.j0, if_pos rfl, live_f]; rfl
  rw [if_neg h1]
  by_cases h2 : n > 1099511627776
  · rw [decide_eq_true h2, hanaperlaw03_GaussTurned.j0, if_pos rfl, live_f]; rfl
  rw [decide_eq_false h2, hanaperlaw03_GaussTurned.j0, if_neg (by decide), lawof_f, lawof_f]
  simp only [Option.bind_some]
  have hx : Small (red ⟨x0.f0, x0.f1⟩) := red_small _
  have hy : Small (red ⟨x1.f0, x1.f1⟩) := red_small _
  generalize red ⟨x0.f0, x0.f1⟩ = x at *
  generalize red ⟨x1.f0, x1.f1⟩ = y at *
  have hp : ∀ z m, Small (pw one z m) := fun z m => pw_small _ _ _ one_small
  rw [pow_f hx 8191 (by omega) (by omega)]; simp only [Option.bind_some]
  rw [show (8191 : Int).toNat = 8191 from rfl, pw_turn, parts_f (z := gconj x) (red_small _)]; simp only [Option.bind_some]
  have d1 : gauss_Conj.f x = some (gconj x) := by unfold gauss_Conj.f; rw [if_pos hx]
  rw [d1]; simp only [Option.bind_some]
  rw [parts_f (z := gconj x) (red_small _)]; simp only [Option.bind_some]
  rw [mul_f hx hy]; simp only [Option.bind_some]
  rw [pow_f (x := gmul x y) (red_small _) n (by omega) (by omega)]; simp only [Option.bind_some]
  rw [parts_f (hp _ _)]; simp only [Option.bind_some]
  rw [pow_f hx n (by omega) (by omega), pow_f hy n (by omega) (by omega)]; simp only [Option.bind_some]
  rw [mul_f (hp _ _) (hp _ _)]; simp only [Option.bind_some]
  rw [parts_f (z := gmul _ _) (red_small _), pw_mul]; simp only [Option.bind_some, if_true]
  rw [live_f]; rfl
end Go.Proofs.Ytdpcfamgmicboab.Pure
