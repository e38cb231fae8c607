/- The plain law of GaussField: the numbers are a field: products spread over sums, may be put together in any order, what is not 0 has an inverse, and a difference and its second number make the first; for every three pairs of whole numbers. -/
import Derived.Test.YtdpcfamgmicboabStatGaussField
namespace Go.Proofs.Ytdpcfamgmicboab.Pure
open Go.RowKit Go.Proofs.Ytdpcfamgmicboab.PGaussField Go.Proofs.YtdpcfamgmicboabW.PrintWords Go.GaussM Go.GaussM.Z
namespace GaussFieldP
theorem w64 {n : Int} (h1 : -9223372036854775808 ≤ n) (h2 : n ≤ 9223372036854775807) : wrap64 n = n := by unfold wrap64; omega
theorem rest_f (n : Int) : hanaperref03_Rest.f n = some (n % 8191) := by
  unfold hanaperref03_Rest.f
  split
  · rename_i h; rw [tmod_neg n h]
  · rename_i h; rw [tmod_pos n (by omega)]
theorem of_f (a b : Int) : hanaperref03_Of.f a b = some (a % 8191, b % 8191) := by
  unfold hanaperref03_Of.f
  rw [rest_f, rest_f]; rfl
theorem lawof_f (a b : Int) : hanaperlaw03_of.f a b = some (red ⟨a, b⟩, a % 8191, b % 8191) := by
  unfold hanaperlaw03_of.f gauss_Of.f
  rw [of_f]; rfl
theorem parts_f {z : Z} (h : Small z) : gauss_Parts.f z = some (z.re, z.im) := by unfold gauss_Parts.f; rw [if_pos h]
theorem is_f {z : Z} {p q : Int} (h : Small z) (hp : z.re = p) (hq : z.im = q) : hanaperlaw03_Is.f z p q = some true := by
  unfold hanaperlaw03_Is.f
  rw [parts_f h]
  simp [hp, hq]
theorem mul_f {x y : Z} (h : Small x) (k : Small y) : gauss_Mul.f x y = some (gmul x y) := by unfold gauss_Mul.f; rw [if_pos ⟨h, k⟩]
theorem inv_f {x : Z} (h : Small x) (hz : x ≠ zero) : gauss_Inv.f x = some (ginv x, true) := by
  unfold gauss_Inv.f; rw [if_pos h, if_neg (fun g => hz ((gnorm_zero h).1 g))]
theorem inv_f0 : gauss_Inv.f zero = some (zero, false) := by
  unfold gauss_Inv.f; rw [if_pos (show Small zero from ⟨by simp [zero], by simp [zero], by simp [zero], by simp [zero]⟩), if_pos (show gnorm zero = 0 from rfl)]
theorem live_f : hanaperlaw03_live.f = some true := by
  have h2 : Small ⟨2, 0⟩ := ⟨by decide, by decide, by decide, by decide⟩
  have h4 : Small ⟨4096, 0⟩ := ⟨by decide, by decide, by decide, by decide⟩
  have hi : ginv ⟨2, 0⟩ = ⟨4096, 0⟩ := ginv_unique h2 (fun e => by cases e) h4 rfl
  unfold hanaperlaw03_live.f
  have e1 : gauss_Of.f 2 0 = some ⟨2, 0⟩ := rfl
  have e2 : gauss_Of.f 4 1 = some ⟨4, 1⟩ := rfl
  have e3 : gauss_Of.f 4 (-1) = some ⟨4, 8190⟩ := rfl
  have e4 : gauss_Mul.f ⟨4, 1⟩ ⟨4, 8190⟩ = some ⟨17, 0⟩ := rfl
  have e5 : hanaperlaw03_Is.f ⟨17, 0⟩ 17 0 = some true := is_f ⟨by decide, by decide, by decide, by decide⟩ rfl rfl
  have e6 : hanaperlaw03_Is.f ⟨4096, 0⟩ 4096 0 = some true := is_f h4 rfl rfl
  rw [e1]; simp only [Option.bind_some]
  rw [inv_f h2 (fun e => by cases e), hi]; simp only [Option.bind_some]
  rw [e2, e3]; simp only [Option.bind_some]
  rw [e4]; simp only [Option.bind_some]
  rw [e5]; simp only [Option.bind_some, if_true]
  rw [e6]; rfl
theorem add_f {x y : Z} (h : Small x) (k : Small y) : gauss_Add.f x y = some (gadd x y) := by unfold gauss_Add.f; rw [if_pos ⟨h, k⟩]
theorem sub_f {x y : Z} (h : Small x) (k : Small y) : gauss_Sub.f x y = some (gsub x y) := by unfold gauss_Sub.f; rw [if_pos ⟨h, k⟩]
theorem j1_f (k : Nat) {a b : Z} (ha : Small a) (hb : Small b) : hanaperlaw03_GaussField.j1 (k + 1) a b a.re a.im false = some true := by
  rw [hanaperlaw03_GaussField.j1, if_neg (by decide), sub_f ha hb, Option.bind_some, add_f (x := gsub a b) (red_small _) hb, Option.bind_some, g_sub_add ha, parts_f ha, Option.bind_some, if_pos rfl, if_pos rfl, live_f]
  rfl
theorem j0_f (k : Nat) {a b : Z} (ha : Small a) (hb : Small b) : hanaperlaw03_GaussField.j0 (k + 1 + 1) a b false 1 0 = some true := by
  rw [hanaperlaw03_GaussField.j0, if_neg (by decide), parts_f ha, Option.bind_some]
  by_cases hz : a = zero
  · subst hz
    rw [inv_f0, Option.bind_some]
    dsimp only
    rw [if_pos (show zero.re = 0 from rfl), if_neg (by decide), if_neg (by decide)]
    exact j1_f k ha hb
  · rw [inv_f ha hz, Option.bind_some]
    dsimp only
    have hm : gauss_Mul.f a (ginv a) = some one := by rw [mul_f (y := ginv a) ha (red_small _), ginv_mul ha hz]
    have hi : hanaperlaw03_Is.f one 1 0 = some true := is_f one_small rfl rfl
    by_cases hr : a.re = 0
    · have hm0 : a.im ≠ 0 := fun e => hz (ext' hr e)
      rw [if_pos hr, if_neg (by simp [hm0]), if_pos rfl, hm, Option.bind_some, hi, Option.bind_some]
      exact j1_f k ha hb
    · rw [if_neg hr, if_neg (show ¬ ((true != true) = true) by decide), if_pos rfl, hm, Option.bind_some, hi, Option.bind_some]
      exact j1_f k ha hb
end GaussFieldP
open GaussFieldP
theorem GaussField : hanaperlaw03_GaussField.Pure := by
  intro x0 x1 x2 _ _ _
  refine ⟨0 + 1 + 1, ?_⟩
  unfold hanaperlaw03_GaussField.f
  have ha : Small (red ⟨x0.f0, x0.f1⟩) := red_small _
  have hb : Small (red ⟨x1.f0, x1.f1⟩) := red_small _
  have hc : Small (red ⟨x2.f0, x2.f1⟩) := red_small _
  rw [lawof_f, lawof_f, lawof_f, Option.bind_some, Option.bind_some, Option.bind_some]
  dsimp only
  generalize red ⟨x0.f0, x0.f1⟩ = a at *
  generalize red ⟨x1.f0, x1.f1⟩ = b at *
  generalize red ⟨x2.f0, x2.f1⟩ = c at *
  have hs : ∀ x y, Small (gmul x y) := fun _ _ => red_small _
  have hs' : ∀ x y, Small (gadd x y) := fun _ _ => red_small _
  rw [add_f hb hc, Option.bind_some, mul_f ha (hs' b c), Option.bind_some, parts_f (hs _ _), Option.bind_some, mul_f ha hb, Option.bind_some, mul_f ha hc, Option.bind_some, add_f (hs a b) (hs a c), Option.bind_some, parts_f (hs' _ _), Option.bind_some]
  rw [Option.bind_some, mul_f (hs a b) hc, Option.bind_some, parts_f (hs _ _), Option.bind_some, mul_f hc hb, Option.bind_some, mul_f ha (hs c b), Option.bind_some, parts_f (hs _ _), Option.bind_some]
  dsimp only
  rw [g_dist, if_pos rfl, if_pos rfl, g_assoc, if_pos rfl]
  rw [show ((gmul a (gmul c b)).im != (gmul a (gmul c b)).im) = false by simp]
  exact j0_f 0 ha hb
end Go.Proofs.Ytdpcfamgmicboab.Pure
