/- The plain law of GaussAdds: every two numbers' sum, difference, product, the number turned about and the norm are the reference's; for every two pairs of whole numbers. -/
import Derived.Test.YtdpcfamgmicboabStatGaussAdds
namespace Go.Proofs.Ytdpcfamgmicboab.Pure
open Go.RowKit Go.Proofs.Ytdpcfamgmicboab.PGaussAdds Go.Proofs.YtdpcfamgmicboabW.PrintWords Go.GaussM Go.GaussM.Z
namespace GaussAddsP
theorem w64 {n : Int} (h1 : -9223372036854775808 ≤ n) (h2 : n ≤ 9223372036854775807) : wrap64 n = n := by unfold wrap64; omega
theorem rest_f (n : Int) : hanaperref03_Rest.f n = some (n % 8191) := by
  unfold hanaperref03_Rest.f
  split
  · rename_i h; rw [tmod_neg n h]
  · rename_i h; rw [tmod_pos n (by omega)]
theorem of_f (a b : Int) : hanaperref03_Of.f a b = some (a % 8191, b % 8191) := by
  unfold hanaperref03_Of.f
  rw [rest_f, rest_f]; rfl
theorem lawof_f (a b : Int) : hanaperlaw03_of.f a b = some (red ⟨a, b⟩, a % 8191, b % 8191) := by
  unfold hanaperlaw03_of.f gauss_Of.f
  rw [of_f]; rfl
theorem parts_f {z : Z} (h : Small z) : gauss_Parts.f z = some (z.re, z.im) := by unfold gauss_Parts.f; rw [if_pos h]
theorem is_f {z : Z} {p q : Int} (h : Small z) (hp : z.re = p) (hq : z.im = q) : hanaperlaw03_Is.f z p q = some true := by
  unfold hanaperlaw03_Is.f
  rw [parts_f h]
  simp [hp, hq]
theorem mul_f {x y : Z} (h : Small x) (k : Small y) : gauss_Mul.f x y = some (gmul x y) := by unfold gauss_Mul.f; rw [if_pos ⟨h, k⟩]
theorem inv_f {x : Z} (h : Small x) (hz : x ≠ zero) : gauss_Inv.f x = some (ginv x, true) := by
  unfold gauss_Inv.f; rw [if_pos h, if_neg (fun g => hz ((gnorm_zero h).1 g))]
theorem inv_f0 : gauss_Inv.f zero = some (zero, false) := by
  unfold gauss_Inv.f; rw [if_pos (show Small zero from ⟨by simp [zero], by simp [zero], by simp [zero], by simp [zero]⟩), if_pos (show gnorm zero = 0 from rfl)]
theorem live_f : hanaperlaw03_live.f = some true := by
  have h2 : Small ⟨2, 0⟩ := ⟨by decide, by decide, by decide, by decide⟩
  have h4 : Small ⟨4096, 0⟩ := ⟨by decide, by decide, by decide, by decide⟩
  have hi : ginv ⟨2, 0⟩ = ⟨4096, 0⟩ := ginv_unique h2 (fun e => by cases e) h4 rfl
  unfold hanaperlaw03_live.f
  have e1 : gauss_Of.f 2 0 = some ⟨2, 0⟩ := rfl
  have e2 : gauss_Of.f 4 1 = some ⟨4, 1⟩ := rfl
  have e3 : gauss_Of.f 4 (-1) = some ⟨4, 8190⟩ := rfl
  have e4 : gauss_Mul.f ⟨4, 1⟩ ⟨4, 8190⟩ = some ⟨17, 0⟩ := rfl
  have e5 : hanaperlaw03_Is.f ⟨17, 0⟩ 17 0 = some true := is_f ⟨by decide, by decide, by decide, by decide⟩ rfl rfl
  have e6 : hanaperlaw03_Is.f ⟨4096, 0⟩ 4096 0 = some true := is_f h4 rfl rfl
  rw [e1]; simp only [Option.bind_some]
  rw [inv_f h2 (fun e => by cases e), hi]; simp only [Option.bind_some]
  rw [e2, e3]; simp only [Option.bind_some]
  rw [e4]; simp only [Option.bind_some]
  rw [e5]; simp only [Option.bind_some, if_true]
  rw [e6]; rfl

end GaussAddsP
open GaussAddsP
theorem mul_bd' {a b : Int} (ha : 0 ≤ a) (ha' : a < 8191) (hb : 0 ≤ b) (hb' : b < 8191) : 0 ≤ a * b ∧ a * b ≤ 67076100 := mul_bd ha ha' hb hb'
theorem GaussAdds : hanaperlaw03_GaussAdds.Pure := by
  intro x0 x1 _ _
  unfold hanaperlaw03_GaussAdds.f
  rw [lawof_f, lawof_f]
  simp only [Option.bind_some]
  have hx : Small (red ⟨x0.f0, x0.f1⟩) := red_small _
  have hy : Small (red ⟨x1.f0, x1.f1⟩) := red_small _
  have e0 : x0.f0 % 8191 = (red ⟨x0.f0, x0.f1⟩).re := rfl
  have e1 : x0.f1 % 8191 = (red ⟨x0.f0, x0.f1⟩).im := rfl
  have e2 : x1.f0 % 8191 = (red ⟨x1.f0, x1.f1⟩).re := rfl
  have e3 : x1.f1 % 8191 = (red ⟨x1.f0, x1.f1⟩).im := rfl
  rw [e0, e1, e2, e3]
  generalize red ⟨x0.f0, x0.f1⟩ = x at *
  generalize red ⟨x1.f0, x1.f1⟩ = y at *
  have k := hx
  have l := hy
  obtain ⟨h1, h2, h3, h4⟩ := k
  obtain ⟨k1, k2, k3, k4⟩ := l
  have m1 := mul_bd h1 h2 k1 k2
  have m2 := mul_bd h3 h4 k3 k4
  have m3 := mul_bd h1 h2 k3 k4
  have m4 := mul_bd h3 h4 k1 k2
  have m5 := mul_bd h1 h2 h1 h2
  have m6 := mul_bd h3 h4 h3 h4
  rw [is_f hx rfl rfl]
  simp only [Option.bind_some, if_true]
  have a1 : gauss_Add.f x y = some (gadd x y) := by unfold gauss_Add.f; rw [if_pos ⟨hx, hy⟩]
  have a2 : hanaperref03_Add.f x.re x.im y.re y.im = some ((gadd x y).re, (gadd x y).im) := by
    unfold hanaperref03_Add.f
    rw [w64 (by omega) (by omega), w64 (by omega) (by omega), of_f]; rfl
  have b1 : gauss_Sub.f x y = some (gsub x y) := by unfold gauss_Sub.f; rw [if_pos ⟨hx, hy⟩]
  have b2 : hanaperref03_Sub.f x.re x.im y.re y.im = some ((gsub x y).re, (gsub x y).im) := by
    unfold hanaperref03_Sub.f
    rw [w64 (by omega) (by omega), w64 (by omega) (by omega), of_f]; rfl
  have c2 : hanaperref03_Mul.f x.re x.im y.re y.im = some ((gmul x y).re, (gmul x y).im) := by
    unfold hanaperref03_Mul.f
    rw [w64 (n := x.re * y.re) (by omega) (by omega), w64 (n := x.im * y.im) (by omega) (by omega), w64 (n := x.re * y.im) (by omega) (by omega), w64 (n := x.im * y.re) (by omega) (by omega), w64 (by omega) (by omega), w64 (by omega) (by omega), of_f]; rfl
  have d1 : gauss_Conj.f x = some (gconj x) := by unfold gauss_Conj.f; rw [if_pos hx]
  have d2 : hanaperref03_Conj.f x.re x.im = some ((gconj x).re, (gconj x).im) := by
    unfold hanaperref03_Conj.f
    rw [w64 (by omega) (by omega), of_f]; rfl
  have n1 : gauss_Norm.f x = some (gnorm x) := by unfold gauss_Norm.f; rw [if_pos hx]
  have n2 : hanaperref03_Norm.f x.re x.im = some (gnorm x) := by
    unfold hanaperref03_Norm.f
    rw [w64 (n := x.re * x.re) (by omega) (by omega), w64 (n := x.im * x.im) (by omega) (by omega), w64 (by omega) (by omega), rest_f]; rfl
  rw [a1, a2]; simp only [Option.bind_some]
  rw [is_f (z := gadd x y) (red_small _) rfl rfl]; simp only [Option.bind_some, if_true]
  rw [b1, b2]; simp only [Option.bind_some]
  rw [is_f (z := gsub x y) (red_small _) rfl rfl]; simp only [Option.bind_some, if_true]
  rw [mul_f hx hy, c2]; simp only [Option.bind_some]
  rw [is_f (z := gmul x y) (red_small _) rfl rfl]; simp only [Option.bind_some, if_true]
  rw [d1, d2]; simp only [Option.bind_some]
  rw [is_f (z := gconj x) (red_small _) rfl rfl]; simp only [Option.bind_some, if_true]
  rw [n1, n2]; simp only [Option.bind_some, if_true]
  rw [live_f]; rfl
end Go.Proofs.Ytdpcfamgmicboab.Pure
