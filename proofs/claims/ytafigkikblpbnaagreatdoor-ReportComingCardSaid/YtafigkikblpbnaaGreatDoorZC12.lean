/- What the document's scope matches. Depths, and lists in order; no condition beyond each theorem its own. -/
import Derived.Test.YtafigkikblpbnaaGreatDoorZC11
import Derived.Test.YtafigkikblpbnaaGreatDoorZC05
namespace Go.Proofs.YtafigkikblpbnaaGreatDoor.PG
open Go.RowKit Go.Proofs.YtafigkikblpbnaaGreatDoorW.PrintWords Go.Proofs.YtafigkikblpbnaaGreatDoorW.PrintLast Go.Proofs.YtafigkikblpbnaaGreatDoorW.PrintMore
set_option linter.unusedVariables false
set_option linter.unusedSimpArgs false
set_option maxRecDepth 100000

def MatchR (d : Nat) : Prop := ∀ (x : S76) (r : S48) (A : Option Addr) (c : Nat) (W : World), dp d x → Kd.C k76 W A x.f4.length x.f4 → x.f4.length ≤ c →
  Calls Tryz.prog 37 #[.agg #[.int .i64 x.f0, .string x.f1, .int .i64 x.f2, .int .i64 x.f3, .slice A x.f4.length c], .agg #[.string r.f0, .string r.f1, .string r.f2, .string r.f3, .int .i64 r.f4, .int .i64 r.f5]] W fun e W' => e = .returned (.bool (mt d x r)) ∧ Below W.heap.size W W'

theorem matchR_op1 (nm : ByteArray) (fr tt : Int) (ks : List S76) (r : S48) (A : Option Addr) (c : Nat) (W : World) : Calls Tryz.prog 37 #[.agg #[.int .i64 1, .string nm, .int .i64 fr, .int .i64 tt, .slice A ks.length c], .agg #[.string r.f0, .string r.f1, .string r.f2, .string r.f3, .int .i64 r.f4, .int .i64 r.f5]] W fun e W' => e = .returned (.bool (true)) ∧ Below W.heap.size W W' := by
  go_enter Tryz.func37, Tryz.ntmps37
  go_wp2
  all_goals (go_ret; exact ⟨by first | rfl | (simp_all; done) | (simp_all; omega), below_alloc (below_alloc (Below.refl _ _) _) _⟩)

theorem matchR_op2 (nm : ByteArray) (fr tt : Int) (ks : List S76) (r : S48) (A : Option Addr) (c : Nat) (W : World) : Calls Tryz.prog 37 #[.agg #[.int .i64 2, .string nm, .int .i64 fr, .int .i64 tt, .slice A ks.length c], .agg #[.string r.f0, .string r.f1, .string r.f2, .string r.f3, .int .i64 r.f4, .int .i64 r.f5]] W fun e W' => e = .returned (.bool (r.f1.toList == nm.toList)) ∧ Below W.heap.size W W' := by
  go_enter Tryz.func37, Tryz.ntmps37
  go_wp2
  all_goals (go_ret; exact ⟨by first | rfl | (simp_all; done) | (simp_all; omega), below_alloc (below_alloc (Below.refl _ _) _) _⟩)

theorem matchR_op3 (nm : ByteArray) (fr tt : Int) (ks : List S76) (r : S48) (A : Option Addr) (c : Nat) (W : World) : Calls Tryz.prog 37 #[.agg #[.int .i64 3, .string nm, .int .i64 fr, .int .i64 tt, .slice A ks.length c], .agg #[.string r.f0, .string r.f1, .string r.f2, .string r.f3, .int .i64 r.f4, .int .i64 r.f5]] W fun e W' => e = .returned (.bool (r.f2.toList == nm.toList)) ∧ Below W.heap.size W W' := by
  go_enter Tryz.func37, Tryz.ntmps37
  go_wp2
  all_goals (go_ret; exact ⟨by first | rfl | (simp_all; done) | (simp_all; omega), below_alloc (below_alloc (Below.refl _ _) _) _⟩)

theorem matchR_op4 (nm : ByteArray) (fr tt : Int) (ks : List S76) (r : S48) (A : Option Addr) (c : Nat) (W : World) : Calls Tryz.prog 37 #[.agg #[.int .i64 4, .string nm, .int .i64 fr, .int .i64 tt, .slice A ks.length c], .agg #[.string r.f0, .string r.f1, .string r.f2, .string r.f3, .int .i64 r.f4, .int .i64 r.f5]] W fun e W' => e = .returned (.bool (r.f3.toList == nm.toList)) ∧ Below W.heap.size W W' := by
  go_enter Tryz.func37, Tryz.ntmps37
  go_wp2
  all_goals (go_ret; exact ⟨by first | rfl | (simp_all; done) | (simp_all; omega), below_alloc (below_alloc (Below.refl _ _) _) _⟩)

theorem matchR_op5 (nm : ByteArray) (fr tt : Int) (ks : List S76) (r : S48) (A : Option Addr) (c : Nat) (W : World) : Calls Tryz.prog 37 #[.agg #[.int .i64 5, .string nm, .int .i64 fr, .int .i64 tt, .slice A ks.length c], .agg #[.string r.f0, .string r.f1, .string r.f2, .string r.f3, .int .i64 r.f4, .int .i64 r.f5]] W fun e W' => e = .returned (.bool (decide (r.f4 ≥ fr) && decide (r.f4 ≤ tt))) ∧ Below W.heap.size W W' := by
  go_enter Tryz.func37, Tryz.ntmps37
  go_wp2
  all_goals (go_ret; exact ⟨by first | rfl | (simp_all; done) | (simp_all; omega), below_alloc (below_alloc (Below.refl _ _) _) _⟩)

theorem matchR_else (o : Int) (h1 : o ≠ 1) (h2 : o ≠ 2) (h3 : o ≠ 3) (h4 : o ≠ 4) (h5 : o ≠ 5) (h6 : o ≠ 6) (h7 : o ≠ 7) (h8 : o ≠ 8) (nm : ByteArray) (fr tt : Int) (ks : List S76) (r : S48) (A : Option Addr) (c : Nat) (W : World) : Calls Tryz.prog 37 #[.agg #[.int .i64 o, .string nm, .int .i64 fr, .int .i64 tt, .slice A ks.length c], .agg #[.string r.f0, .string r.f1, .string r.f2, .string r.f3, .int .i64 r.f4, .int .i64 r.f5]] W fun e W' => e = .returned (.bool false) ∧ Below W.heap.size W W' := by
  have hm := fun w => Lib.hid (show Calls Tryz.prog 62 #[.int .i64 o] w fun e w' => e = .returned (.bool false) ∧ w' = w by
    have := many_eq o w
    rwa [decide_eq_false (show ¬ (o = 6 ∨ o = 7) by omega)] at this)
  have b1 : (o == 1) = false := by simp [h1]
  have b2 : (o == 2) = false := by simp [h2]
  have b3 : (o == 3) = false := by simp [h3]
  have b4 : (o == 4) = false := by simp [h4]
  have b5 : (o == 5) = false := by simp [h5]
  have b8 : (o == 8) = false := by simp [h8]
  clear h1 h2 h3 h4 h5 h6 h7 h8
  go_enter Tryz.func37, Tryz.ntmps37
  go_wp2_with (go_at_call 62; refine (hm _).out.mono ?_; rintro e w2 ⟨rfl, rfl⟩)
  go_ret
  exact ⟨rfl, below_alloc (below_alloc (Below.refl _ _) _) _⟩

set_option maxHeartbeats 4000000 in
theorem matchR_op7 (d : Nat) (IH : MatchR d) (nm : ByteArray) (fr tt : Int) (ks : List S76) (hd : ∀ y ∈ ks, dp d y) (r : S48) (A : Option Addr) (c : Nat) (W : World) (hC : Kd.C k76 W A ks.length ks) (hl : ks.length ≤ c) : Calls Tryz.prog 37 #[.agg #[.int .i64 7, .string nm, .int .i64 fr, .int .i64 tt, .slice A ks.length c], .agg #[.string r.f0, .string r.f1, .string r.f2, .string r.f3, .int .i64 r.f4, .int .i64 r.f5]] W fun e W' => e = .returned (.bool (ks.any (fun y => mt d y r))) ∧ Below W.heap.size W W' := by
  have HB := Lib.hid (show Below W.heap.size W ((W.alloc (.cells #[.int .i64 7, .string nm, .int .i64 fr, .int .i64 tt, .slice A ks.length c] 76 (0, 0))).alloc (.cells #[.string r.f0, .string r.f1, .string r.f2, .string r.f3, .int .i64 r.f4, .int .i64 r.f5] 48 (0, 0))) from below_alloc (below_alloc (Below.refl _ _) _) _)
  have hz1 : (W.alloc (.cells #[.int .i64 7, .string nm, .int .i64 fr, .int .i64 tt, .slice A ks.length c] 76 (0, 0))).heap.size = W.heap.size + 1 := by show (W.heap.push _).size = _; rw [Array.size_push]
  have HYX := Lib.hid ((Below.block (below_alloc (Below.refl _ (W.alloc (.cells #[.int .i64 7, .string nm, .int .i64 fr, .int .i64 tt, .slice A ks.length c] 76 (0, 0)))) (.cells #[.string r.f0, .string r.f1, .string r.f2, .string r.f3, .int .i64 r.f4, .int .i64 r.f5] 48 (0, 0))) W.heap.size (blk_lt (new_blk W (.cells #[.int .i64 7, .string nm, .int .i64 fr, .int .i64 tt, .slice A ks.length c] 76 (0, 0))))).trans (new_blk W (.cells #[.int .i64 7, .string nm, .int .i64 fr, .int .i64 tt, .slice A ks.length c] 76 (0, 0))))
  have hy2 := new_blk (W.alloc (.cells #[.int .i64 7, .string nm, .int .i64 fr, .int .i64 tt, .slice A ks.length c] 76 (0, 0))) (.cells #[.string r.f0, .string r.f1, .string r.f2, .string r.f3, .int .i64 r.f4, .int .i64 r.f5] 48 (0, 0))
  rw [hz1] at hy2
  have HYR := Lib.hid hy2
  have HC3 := Lib.hid (Kd.C_below hC HB.out)
  have hm : ks.length ≤ 9223372036854775807 := hC.2.1
  clear hz1 hy2 hC
  have hmn := fun w => Lib.hid (show Calls Tryz.prog 62 #[.int .i64 7] w fun e w' => e = .returned (.bool true) ∧ w' = w from many_eq 7 w)
  have HD := Lib.hid hd
  have HIH := Lib.hid IH
  clear hd IH
  generalize hR : (ks.any (fun y => mt d y r)) = R
  have HR := Lib.hid hR
  clear hR
  go_enter Tryz.func37, Tryz.ntmps37
  go_wp2_with (go_at_call 62; refine (hmn _).out.mono ?_; rintro e w2 ⟨rfl, rfl⟩)
  generalize ((W.alloc (.cells #[.int .i64 7, .string nm, .int .i64 fr, .int .i64 tt, .slice A ks.length c] 76 (0, 0))).alloc (.cells #[.string r.f0, .string r.f1, .string r.f2, .string r.f3, .int .i64 r.f4, .int .i64 r.f5] 48 (0, 0))) = W1 at *
  go_loopw [5] (fun v5 wr => ∃ k : Nat, v5 = .int .i64 k ∧ k ≤ ks.length ∧ Aside0 (ks.any (fun y => mt d y r) = (ks.drop k).any (fun y => mt d y r)) ∧ Aside0 (Below W1.heap.size W1 wr)) (fun v5 _ => ks.length - (intOf v5).toNat)
  case atStart => exact ⟨0, rfl, Nat.zero_le _, ⟨by rw [List.drop_zero]⟩, ⟨Below.refl _ _⟩⟩
  case round =>
    obtain ⟨k, rfl, hk, HI, HBW⟩ := hrel
    have HYX2 := Lib.hid ((HBW.out.block W.heap.size (blk_lt HYX.out)).trans HYX.out)
    have HYR2 := Lib.hid ((HBW.out.block (W.heap.size + 1) (blk_lt HYR.out)).trans HYR.out)
    have q0 : wr.cell? ⟨W.heap.size, 0, none⟩ = some (.int .i64 7) := (blk_cell HYX2.out 0).trans rfl
    have q4 : wr.cell? ⟨W.heap.size, 4, none⟩ = some (.slice A ks.length c) := (blk_cell HYX2.out 4).trans rfl
    have p0 : wr.cell? ⟨W.heap.size + 1, 0, none⟩ = some (.string r.f0) := (blk_cell HYR2.out 0).trans rfl
    have p1 : wr.cell? ⟨W.heap.size + 1, 1, none⟩ = some (.string r.f1) := (blk_cell HYR2.out 1).trans rfl
    have p2 : wr.cell? ⟨W.heap.size + 1, 2, none⟩ = some (.string r.f2) := (blk_cell HYR2.out 2).trans rfl
    have p3 : wr.cell? ⟨W.heap.size + 1, 3, none⟩ = some (.string r.f3) := (blk_cell HYR2.out 3).trans rfl
    have p4 : wr.cell? ⟨W.heap.size + 1, 4, none⟩ = some (.int .i64 r.f4) := (blk_cell HYR2.out 4).trans rfl
    have p5 : wr.cell? ⟨W.heap.size + 1, 5, none⟩ = some (.int .i64 r.f5) := (blk_cell HYR2.out 5).trans rfl
    by_cases hlt : k < ks.length
    · have hlt2 : (k : Int) < (ks.length : Int) := by omega
      obtain ⟨ad, A4, c4, e, g0, g1, g2, g3, g4, hl4, hC4⟩ := at_T76 (Kd.C_below HC3.out HBW.out) (k : Int) (by omega) (by omega)
      subst e
      simp only [Int.toNat_natCast] at g0 g1 g2 g3 g4
      have hdy := HD.out _ (rd_mem52 hlt)
      have HDR := Lib.hid (show ks.drop k = rd_T76 ks (k : Int) :: ks.drop (k + 1) from drop_idxS1 hlt)
      generalize rd_T76 ks (k : Int) = y at *
      have HL := fun w' (h : (Aside0 (Below wr.heap.size wr w') ∧ w'.cell? ⟨W.heap.size, 4, none⟩ = some (.slice (some ad) ks.length c) ∧ w'.cell? ⟨W.heap.size, 0, none⟩ = some (.int .i64 7) ∧ w'.cell? ⟨W.heap.size + 1, 0, none⟩ = some (.string r.f0) ∧ w'.cell? ⟨W.heap.size + 1, 1, none⟩ = some (.string r.f1) ∧ w'.cell? ⟨W.heap.size + 1, 2, none⟩ = some (.string r.f2) ∧ w'.cell? ⟨W.heap.size + 1, 3, none⟩ = some (.string r.f3) ∧ w'.cell? ⟨W.heap.size + 1, 4, none⟩ = some (.int .i64 r.f4) ∧ w'.cell? ⟨W.heap.size + 1, 5, none⟩ = some (.int .i64 r.f5) ∧ w'.cell? (ad.add (k * 5)) = some (.int .i64 y.f0) ∧ w'.cell? ⟨(ad.add (k * 5)).block, (ad.add (k * 5)).off + 1, none⟩ = some (.string y.f1) ∧ w'.cell? ⟨(ad.add (k * 5)).block, (ad.add (k * 5)).off + 2, none⟩ = some (.int .i64 y.f2) ∧ w'.cell? ⟨(ad.add (k * 5)).block, (ad.add (k * 5)).off + 3, none⟩ = some (.int .i64 y.f3) ∧ w'.cell? ⟨(ad.add (k * 5)).block, (ad.add (k * 5)).off + 4, none⟩ = some (.slice A4 y.f4.length c4))) => Lib.hid (HIH.out y r A4 c4 w' hdy (Kd.C_below hC4 h.1.out) hl4)
      have HKEEP := Lib.hid (show ∀ w1 w2 : World, (Aside0 (Below wr.heap.size wr w1) ∧ w1.cell? ⟨W.heap.size, 4, none⟩ = some (.slice (some ad) ks.length c) ∧ w1.cell? ⟨W.heap.size, 0, none⟩ = some (.int .i64 7) ∧ w1.cell? ⟨W.heap.size + 1, 0, none⟩ = some (.string r.f0) ∧ w1.cell? ⟨W.heap.size + 1, 1, none⟩ = some (.string r.f1) ∧ w1.cell? ⟨W.heap.size + 1, 2, none⟩ = some (.string r.f2) ∧ w1.cell? ⟨W.heap.size + 1, 3, none⟩ = some (.string r.f3) ∧ w1.cell? ⟨W.heap.size + 1, 4, none⟩ = some (.int .i64 r.f4) ∧ w1.cell? ⟨W.heap.size + 1, 5, none⟩ = some (.int .i64 r.f5) ∧ w1.cell? (ad.add (k * 5)) = some (.int .i64 y.f0) ∧ w1.cell? ⟨(ad.add (k * 5)).block, (ad.add (k * 5)).off + 1, none⟩ = some (.string y.f1) ∧ w1.cell? ⟨(ad.add (k * 5)).block, (ad.add (k * 5)).off + 2, none⟩ = some (.int .i64 y.f2) ∧ w1.cell? ⟨(ad.add (k * 5)).block, (ad.add (k * 5)).off + 3, none⟩ = some (.int .i64 y.f3) ∧ w1.cell? ⟨(ad.add (k * 5)).block, (ad.add (k * 5)).off + 4, none⟩ = some (.slice A4 y.f4.length c4)) → Below w1.heap.size w1 w2 → (Aside0 (Below wr.heap.size wr w2) ∧ w2.cell? ⟨W.heap.size, 4, none⟩ = some (.slice (some ad) ks.length c) ∧ w2.cell? ⟨W.heap.size, 0, none⟩ = some (.int .i64 7) ∧ w2.cell? ⟨W.heap.size + 1, 0, none⟩ = some (.string r.f0) ∧ w2.cell? ⟨W.heap.size + 1, 1, none⟩ = some (.string r.f1) ∧ w2.cell? ⟨W.heap.size + 1, 2, none⟩ = some (.string r.f2) ∧ w2.cell? ⟨W.heap.size + 1, 3, none⟩ = some (.string r.f3) ∧ w2.cell? ⟨W.heap.size + 1, 4, none⟩ = some (.int .i64 r.f4) ∧ w2.cell? ⟨W.heap.size + 1, 5, none⟩ = some (.int .i64 r.f5) ∧ w2.cell? (ad.add (k * 5)) = some (.int .i64 y.f0) ∧ w2.cell? ⟨(ad.add (k * 5)).block, (ad.add (k * 5)).off + 1, none⟩ = some (.string y.f1) ∧ w2.cell? ⟨(ad.add (k * 5)).block, (ad.add (k * 5)).off + 2, none⟩ = some (.int .i64 y.f2) ∧ w2.cell? ⟨(ad.add (k * 5)).block, (ad.add (k * 5)).off + 3, none⟩ = some (.int .i64 y.f3) ∧ w2.cell? ⟨(ad.add (k * 5)).block, (ad.add (k * 5)).off + 4, none⟩ = some (.slice A4 y.f4.length c4)) from fun w1 w2 h hb => ⟨⟨below_tr h.1.out hb⟩, below_cell hb h.2.1, below_cell hb h.2.2.1, below_cell hb h.2.2.2.1, below_cell hb h.2.2.2.2.1, below_cell hb h.2.2.2.2.2.1, below_cell hb h.2.2.2.2.2.2.1, below_cell hb h.2.2.2.2.2.2.2.1, below_cell hb h.2.2.2.2.2.2.2.2.1, below_cell hb h.2.2.2.2.2.2.2.2.2.1, below_cell hb h.2.2.2.2.2.2.2.2.2.2.1, below_cell hb h.2.2.2.2.2.2.2.2.2.2.2.1, below_cell hb h.2.2.2.2.2.2.2.2.2.2.2.2.1, below_cell hb h.2.2.2.2.2.2.2.2.2.2.2.2.2⟩)
      have HS0 := Lib.hid (show (Aside0 (Below wr.heap.size wr wr.drew) ∧ wr.drew.cell? ⟨W.heap.size, 4, none⟩ = some (.slice (some ad) ks.length c) ∧ wr.drew.cell? ⟨W.heap.size, 0, none⟩ = some (.int .i64 7) ∧ wr.drew.cell? ⟨W.heap.size + 1, 0, none⟩ = some (.string r.f0) ∧ wr.drew.cell? ⟨W.heap.size + 1, 1, none⟩ = some (.string r.f1) ∧ wr.drew.cell? ⟨W.heap.size + 1, 2, none⟩ = some (.string r.f2) ∧ wr.drew.cell? ⟨W.heap.size + 1, 3, none⟩ = some (.string r.f3) ∧ wr.drew.cell? ⟨W.heap.size + 1, 4, none⟩ = some (.int .i64 r.f4) ∧ wr.drew.cell? ⟨W.heap.size + 1, 5, none⟩ = some (.int .i64 r.f5) ∧ wr.drew.cell? (ad.add (k * 5)) = some (.int .i64 y.f0) ∧ wr.drew.cell? ⟨(ad.add (k * 5)).block, (ad.add (k * 5)).off + 1, none⟩ = some (.string y.f1) ∧ wr.drew.cell? ⟨(ad.add (k * 5)).block, (ad.add (k * 5)).off + 2, none⟩ = some (.int .i64 y.f2) ∧ wr.drew.cell? ⟨(ad.add (k * 5)).block, (ad.add (k * 5)).off + 3, none⟩ = some (.int .i64 y.f3) ∧ wr.drew.cell? ⟨(ad.add (k * 5)).block, (ad.add (k * 5)).off + 4, none⟩ = some (.slice A4 y.f4.length c4)) from ⟨⟨below_drew (Below.refl _ _)⟩, q4, q0, p0, p1, p2, p3, p4, p5, g0, g1, g2, g3, g4⟩)
      clear hC4 hl4 hdy
      generalize hq : mt d y r = q at *
      have HQ := Lib.hid hq
      clear hq
      go_wp2_with fail
      go_region_held3 (fun w' => (Aside0 (Below wr.heap.size wr w') ∧ w'.cell? ⟨W.heap.size, 4, none⟩ = some (.slice (some ad) ks.length c) ∧ w'.cell? ⟨W.heap.size, 0, none⟩ = some (.int .i64 7) ∧ w'.cell? ⟨W.heap.size + 1, 0, none⟩ = some (.string r.f0) ∧ w'.cell? ⟨W.heap.size + 1, 1, none⟩ = some (.string r.f1) ∧ w'.cell? ⟨W.heap.size + 1, 2, none⟩ = some (.string r.f2) ∧ w'.cell? ⟨W.heap.size + 1, 3, none⟩ = some (.string r.f3) ∧ w'.cell? ⟨W.heap.size + 1, 4, none⟩ = some (.int .i64 r.f4) ∧ w'.cell? ⟨W.heap.size + 1, 5, none⟩ = some (.int .i64 r.f5) ∧ w'.cell? (ad.add (k * 5)) = some (.int .i64 y.f0) ∧ w'.cell? ⟨(ad.add (k * 5)).block, (ad.add (k * 5)).off + 1, none⟩ = some (.string y.f1) ∧ w'.cell? ⟨(ad.add (k * 5)).block, (ad.add (k * 5)).off + 2, none⟩ = some (.int .i64 y.f2) ∧ w'.cell? ⟨(ad.add (k * 5)).block, (ad.add (k * 5)).off + 3, none⟩ = some (.int .i64 y.f3) ∧ w'.cell? ⟨(ad.add (k * 5)).block, (ad.add (k * 5)).off + 4, none⟩ = some (.slice A4 y.f4.length c4))) (first | assumption | with_reducible exact HS0.out | with_reducible exact HKEEP.out _ _ (by assumption) hb) (first | (go_at_call 37; refine (HL _ (by assumption)).out.mono ?_; rintro e w3 ⟨rfl, hb⟩))
      have HBX := Lib.hid (below_tr HBW.out (Aside0.out (And.left (by assumption))))
      have HXQ := Lib.hid (show (Aside0 (Below wr.heap.size wr w3) ∧ w3.cell? ⟨W.heap.size, 4, none⟩ = some (.slice (some ad) ks.length c) ∧ w3.cell? ⟨W.heap.size, 0, none⟩ = some (.int .i64 7) ∧ w3.cell? ⟨W.heap.size + 1, 0, none⟩ = some (.string r.f0) ∧ w3.cell? ⟨W.heap.size + 1, 1, none⟩ = some (.string r.f1) ∧ w3.cell? ⟨W.heap.size + 1, 2, none⟩ = some (.string r.f2) ∧ w3.cell? ⟨W.heap.size + 1, 3, none⟩ = some (.string r.f3) ∧ w3.cell? ⟨W.heap.size + 1, 4, none⟩ = some (.int .i64 r.f4) ∧ w3.cell? ⟨W.heap.size + 1, 5, none⟩ = some (.int .i64 r.f5) ∧ w3.cell? (ad.add (k * 5)) = some (.int .i64 y.f0) ∧ w3.cell? ⟨(ad.add (k * 5)).block, (ad.add (k * 5)).off + 1, none⟩ = some (.string y.f1) ∧ w3.cell? ⟨(ad.add (k * 5)).block, (ad.add (k * 5)).off + 2, none⟩ = some (.int .i64 y.f2) ∧ w3.cell? ⟨(ad.add (k * 5)).block, (ad.add (k * 5)).off + 3, none⟩ = some (.int .i64 y.f3) ∧ w3.cell? ⟨(ad.add (k * 5)).block, (ad.add (k * 5)).off + 4, none⟩ = some (.slice A4 y.f4.length c4)) from by assumption)
      have t0 := HXQ.out.2.2.1
      cases q
      · go_wp2
        all_goals first
          | (go_ret; exact ⟨ret_b (by rw [← HR.out, HI.out, HDR.out, List.any_cons, HQ.out]; simp), below_tr HB.out HBX.out⟩)
          | (go_roundw
             case rel => exact ⟨k + 1, by go_num, by omega, ⟨by rw [HI.out, HDR.out, List.any_cons, HQ.out]; simp⟩, ⟨HBX.out⟩⟩
             case measure => simp [intOf]; omega)
      · go_wp2
        all_goals first
          | (go_ret; exact ⟨ret_b (by rw [← HR.out, HI.out, HDR.out, List.any_cons, HQ.out]; simp), below_tr HB.out HBX.out⟩)
          | (go_roundw
             case rel => exact ⟨k + 1, by go_num, by omega, ⟨by rw [HI.out, HDR.out, List.any_cons, HQ.out]; simp⟩, ⟨HBX.out⟩⟩
             case measure => simp [intOf]; omega)
    · have HE := Lib.hid (show R = false from by rw [← HR.out, HI.out, List.drop_of_length_le (by omega)]; rfl)
      go_wp2
      go_ret
      exact ⟨ret_b HE.out.symm, below_tr HB.out HBW.out⟩

set_option maxHeartbeats 4000000 in
theorem matchR_op6 (d : Nat) (IH : MatchR d) (nm : ByteArray) (fr tt : Int) (ks : List S76) (hd : ∀ y ∈ ks, dp d y) (r : S48) (A : Option Addr) (c : Nat) (W : World) (hC : Kd.C k76 W A ks.length ks) (hl : ks.length ≤ c) : Calls Tryz.prog 37 #[.agg #[.int .i64 6, .string nm, .int .i64 fr, .int .i64 tt, .slice A ks.length c], .agg #[.string r.f0, .string r.f1, .string r.f2, .string r.f3, .int .i64 r.f4, .int .i64 r.f5]] W fun e W' => e = .returned (.bool (!(ks.any (fun y => !mt d y r)))) ∧ Below W.heap.size W W' := by
  have HB := Lib.hid (show Below W.heap.size W ((W.alloc (.cells #[.int .i64 6, .string nm, .int .i64 fr, .int .i64 tt, .slice A ks.length c] 76 (0, 0))).alloc (.cells #[.string r.f0, .string r.f1, .string r.f2, .string r.f3, .int .i64 r.f4, .int .i64 r.f5] 48 (0, 0))) from below_alloc (below_alloc (Below.refl _ _) _) _)
  have hz1 : (W.alloc (.cells #[.int .i64 6, .string nm, .int .i64 fr, .int .i64 tt, .slice A ks.length c] 76 (0, 0))).heap.size = W.heap.size + 1 := by show (W.heap.push _).size = _; rw [Array.size_push]
  have HYX := Lib.hid ((Below.block (below_alloc (Below.refl _ (W.alloc (.cells #[.int .i64 6, .string nm, .int .i64 fr, .int .i64 tt, .slice A ks.length c] 76 (0, 0)))) (.cells #[.string r.f0, .string r.f1, .string r.f2, .string r.f3, .int .i64 r.f4, .int .i64 r.f5] 48 (0, 0))) W.heap.size (blk_lt (new_blk W (.cells #[.int .i64 6, .string nm, .int .i64 fr, .int .i64 tt, .slice A ks.length c] 76 (0, 0))))).trans (new_blk W (.cells #[.int .i64 6, .string nm, .int .i64 fr, .int .i64 tt, .slice A ks.length c] 76 (0, 0))))
  have hy2 := new_blk (W.alloc (.cells #[.int .i64 6, .string nm, .int .i64 fr, .int .i64 tt, .slice A ks.length c] 76 (0, 0))) (.cells #[.string r.f0, .string r.f1, .string r.f2, .string r.f3, .int .i64 r.f4, .int .i64 r.f5] 48 (0, 0))
  rw [hz1] at hy2
  have HYR := Lib.hid hy2
  have HC3 := Lib.hid (Kd.C_below hC HB.out)
  have hm : ks.length ≤ 9223372036854775807 := hC.2.1
  clear hz1 hy2 hC
  have hmn := fun w => Lib.hid (show Calls Tryz.prog 62 #[.int .i64 6] w fun e w' => e = .returned (.bool true) ∧ w' = w from many_eq 6 w)
  have HD := Lib.hid hd
  have HIH := Lib.hid IH
  clear hd IH
  generalize hR : (!(ks.any (fun y => !mt d y r))) = R
  have HR := Lib.hid hR
  clear hR
  go_enter Tryz.func37, Tryz.ntmps37
  go_wp2_with (go_at_call 62; refine (hmn _).out.mono ?_; rintro e w2 ⟨rfl, rfl⟩)
  generalize ((W.alloc (.cells #[.int .i64 6, .string nm, .int .i64 fr, .int .i64 tt, .slice A ks.length c] 76 (0, 0))).alloc (.cells #[.string r.f0, .string r.f1, .string r.f2, .string r.f3, .int .i64 r.f4, .int .i64 r.f5] 48 (0, 0))) = W1 at *
  go_loopw [5] (fun v5 wr => ∃ k : Nat, v5 = .int .i64 k ∧ k ≤ ks.length ∧ Aside0 (ks.any (fun y => !mt d y r) = (ks.drop k).any (fun y => !mt d y r)) ∧ Aside0 (Below W1.heap.size W1 wr)) (fun v5 _ => ks.length - (intOf v5).toNat)
  case atStart => exact ⟨0, rfl, Nat.zero_le _, ⟨by rw [List.drop_zero]⟩, ⟨Below.refl _ _⟩⟩
  case round =>
    obtain ⟨k, rfl, hk, HI, HBW⟩ := hrel
    have HYX2 := Lib.hid ((HBW.out.block W.heap.size (blk_lt HYX.out)).trans HYX.out)
    have HYR2 := Lib.hid ((HBW.out.block (W.heap.size + 1) (blk_lt HYR.out)).trans HYR.out)
    have q0 : wr.cell? ⟨W.heap.size, 0, none⟩ = some (.int .i64 6) := (blk_cell HYX2.out 0).trans rfl
    have q4 : wr.cell? ⟨W.heap.size, 4, none⟩ = some (.slice A ks.length c) := (blk_cell HYX2.out 4).trans rfl
    have p0 : wr.cell? ⟨W.heap.size + 1, 0, none⟩ = some (.string r.f0) := (blk_cell HYR2.out 0).trans rfl
    have p1 : wr.cell? ⟨W.heap.size + 1, 1, none⟩ = some (.string r.f1) := (blk_cell HYR2.out 1).trans rfl
    have p2 : wr.cell? ⟨W.heap.size + 1, 2, none⟩ = some (.string r.f2) := (blk_cell HYR2.out 2).trans rfl
    have p3 : wr.cell? ⟨W.heap.size + 1, 3, none⟩ = some (.string r.f3) := (blk_cell HYR2.out 3).trans rfl
    have p4 : wr.cell? ⟨W.heap.size + 1, 4, none⟩ = some (.int .i64 r.f4) := (blk_cell HYR2.out 4).trans rfl
    have p5 : wr.cell? ⟨W.heap.size + 1, 5, none⟩ = some (.int .i64 r.f5) := (blk_cell HYR2.out 5).trans rfl
    by_cases hlt : k < ks.length
    · have hlt2 : (k : Int) < (ks.length : Int) := by omega
      obtain ⟨ad, A4, c4, e, g0, g1, g2, g3, g4, hl4, hC4⟩ := at_T76 (Kd.C_below HC3.out HBW.out) (k : Int) (by omega) (by omega)
      subst e
      simp only [Int.toNat_natCast] at g0 g1 g2 g3 g4
      have hdy := HD.out _ (rd_mem52 hlt)
      have HDR := Lib.hid (show ks.drop k = rd_T76 ks (k : Int) :: ks.drop (k + 1) from drop_idxS1 hlt)
      generalize rd_T76 ks (k : Int) = y at *
      have HL := fun w' (h : (Aside0 (Below wr.heap.size wr w') ∧ w'.cell? ⟨W.heap.size, 4, none⟩ = some (.slice (some ad) ks.length c) ∧ w'.cell? ⟨W.heap.size, 0, none⟩ = some (.int .i64 6) ∧ w'.cell? ⟨W.heap.size + 1, 0, none⟩ = some (.string r.f0) ∧ w'.cell? ⟨W.heap.size + 1, 1, none⟩ = some (.string r.f1) ∧ w'.cell? ⟨W.heap.size + 1, 2, none⟩ = some (.string r.f2) ∧ w'.cell? ⟨W.heap.size + 1, 3, none⟩ = some (.string r.f3) ∧ w'.cell? ⟨W.heap.size + 1, 4, none⟩ = some (.int .i64 r.f4) ∧ w'.cell? ⟨W.heap.size + 1, 5, none⟩ = some (.int .i64 r.f5) ∧ w'.cell? (ad.add (k * 5)) = some (.int .i64 y.f0) ∧ w'.cell? ⟨(ad.add (k * 5)).block, (ad.add (k * 5)).off + 1, none⟩ = some (.string y.f1) ∧ w'.cell? ⟨(ad.add (k * 5)).block, (ad.add (k * 5)).off + 2, none⟩ = some (.int .i64 y.f2) ∧ w'.cell? ⟨(ad.add (k * 5)).block, (ad.add (k * 5)).off + 3, none⟩ = some (.int .i64 y.f3) ∧ w'.cell? ⟨(ad.add (k * 5)).block, (ad.add (k * 5)).off + 4, none⟩ = some (.slice A4 y.f4.length c4))) => Lib.hid (HIH.out y r A4 c4 w' hdy (Kd.C_below hC4 h.1.out) hl4)
      have HKEEP := Lib.hid (show ∀ w1 w2 : World, (Aside0 (Below wr.heap.size wr w1) ∧ w1.cell? ⟨W.heap.size, 4, none⟩ = some (.slice (some ad) ks.length c) ∧ w1.cell? ⟨W.heap.size, 0, none⟩ = some (.int .i64 6) ∧ w1.cell? ⟨W.heap.size + 1, 0, none⟩ = some (.string r.f0) ∧ w1.cell? ⟨W.heap.size + 1, 1, none⟩ = some (.string r.f1) ∧ w1.cell? ⟨W.heap.size + 1, 2, none⟩ = some (.string r.f2) ∧ w1.cell? ⟨W.heap.size + 1, 3, none⟩ = some (.string r.f3) ∧ w1.cell? ⟨W.heap.size + 1, 4, none⟩ = some (.int .i64 r.f4) ∧ w1.cell? ⟨W.heap.size + 1, 5, none⟩ = some (.int .i64 r.f5) ∧ w1.cell? (ad.add (k * 5)) = some (.int .i64 y.f0) ∧ w1.cell? ⟨(ad.add (k * 5)).block, (ad.add (k * 5)).off + 1, none⟩ = some (.string y.f1) ∧ w1.cell? ⟨(ad.add (k * 5)).block, (ad.add (k * 5)).off + 2, none⟩ = some (.int .i64 y.f2) ∧ w1.cell? ⟨(ad.add (k * 5)).block, (ad.add (k * 5)).off + 3, none⟩ = some (.int .i64 y.f3) ∧ w1.cell? ⟨(ad.add (k * 5)).block, (ad.add (k * 5)).off + 4, none⟩ = some (.slice A4 y.f4.length c4)) → Below w1.heap.size w1 w2 → (Aside0 (Below wr.heap.size wr w2) ∧ w2.cell? ⟨W.heap.size, 4, none⟩ = some (.slice (some ad) ks.length c) ∧ w2.cell? ⟨W.heap.size, 0, none⟩ = some (.int .i64 6) ∧ w2.cell? ⟨W.heap.size + 1, 0, none⟩ = some (.string r.f0) ∧ w2.cell? ⟨W.heap.size + 1, 1, none⟩ = some (.string r.f1) ∧ w2.cell? ⟨W.heap.size + 1, 2, none⟩ = some (.string r.f2) ∧ w2.cell? ⟨W.heap.size + 1, 3, none⟩ = some (.string r.f3) ∧ w2.cell? ⟨W.heap.size + 1, 4, none⟩ = some (.int .i64 r.f4) ∧ w2.cell? ⟨W.heap.size + 1, 5, none⟩ = some (.int .i64 r.f5) ∧ w2.cell? (ad.add (k * 5)) = some (.int .i64 y.f0) ∧ w2.cell? ⟨(ad.add (k * 5)).block, (ad.add (k * 5)).off + 1, none⟩ = some (.string y.f1) ∧ w2.cell? ⟨(ad.add (k * 5)).block, (ad.add (k * 5)).off + 2, none⟩ = some (.int .i64 y.f2) ∧ w2.cell? ⟨(ad.add (k * 5)).block, (ad.add (k * 5)).off + 3, none⟩ = some (.int .i64 y.f3) ∧ w2.cell? ⟨(ad.add (k * 5)).block, (ad.add (k * 5)).off + 4, none⟩ = some (.slice A4 y.f4.length c4)) from fun w1 w2 h hb => ⟨⟨below_tr h.1.out hb⟩, below_cell hb h.2.1, below_cell hb h.2.2.1, below_cell hb h.2.2.2.1, below_cell hb h.2.2.2.2.1, below_cell hb h.2.2.2.2.2.1, below_cell hb h.2.2.2.2.2.2.1, below_cell hb h.2.2.2.2.2.2.2.1, below_cell hb h.2.2.2.2.2.2.2.2.1, below_cell hb h.2.2.2.2.2.2.2.2.2.1, below_cell hb h.2.2.2.2.2.2.2.2.2.2.1, below_cell hb h.2.2.2.2.2.2.2.2.2.2.2.1, below_cell hb h.2.2.2.2.2.2.2.2.2.2.2.2.1, below_cell hb h.2.2.2.2.2.2.2.2.2.2.2.2.2⟩)
      have HS0 := Lib.hid (show (Aside0 (Below wr.heap.size wr wr.drew) ∧ wr.drew.cell? ⟨W.heap.size, 4, none⟩ = some (.slice (some ad) ks.length c) ∧ wr.drew.cell? ⟨W.heap.size, 0, none⟩ = some (.int .i64 6) ∧ wr.drew.cell? ⟨W.heap.size + 1, 0, none⟩ = some (.string r.f0) ∧ wr.drew.cell? ⟨W.heap.size + 1, 1, none⟩ = some (.string r.f1) ∧ wr.drew.cell? ⟨W.heap.size + 1, 2, none⟩ = some (.string r.f2) ∧ wr.drew.cell? ⟨W.heap.size + 1, 3, none⟩ = some (.string r.f3) ∧ wr.drew.cell? ⟨W.heap.size + 1, 4, none⟩ = some (.int .i64 r.f4) ∧ wr.drew.cell? ⟨W.heap.size + 1, 5, none⟩ = some (.int .i64 r.f5) ∧ wr.drew.cell? (ad.add (k * 5)) = some (.int .i64 y.f0) ∧ wr.drew.cell? ⟨(ad.add (k * 5)).block, (ad.add (k * 5)).off + 1, none⟩ = some (.string y.f1) ∧ wr.drew.cell? ⟨(ad.add (k * 5)).block, (ad.add (k * 5)).off + 2, none⟩ = some (.int .i64 y.f2) ∧ wr.drew.cell? ⟨(ad.add (k * 5)).block, (ad.add (k * 5)).off + 3, none⟩ = some (.int .i64 y.f3) ∧ wr.drew.cell? ⟨(ad.add (k * 5)).block, (ad.add (k * 5)).off + 4, none⟩ = some (.slice A4 y.f4.length c4)) from ⟨⟨below_drew (Below.refl _ _)⟩, q4, q0, p0, p1, p2, p3, p4, p5, g0, g1, g2, g3, g4⟩)
      clear hC4 hl4 hdy
      generalize hq : mt d y r = q at *
      have HQ := Lib.hid hq
      clear hq
      go_wp2_with fail
      go_region_held3 (fun w' => (Aside0 (Below wr.heap.size wr w') ∧ w'.cell? ⟨W.heap.size, 4, none⟩ = some (.slice (some ad) ks.length c) ∧ w'.cell? ⟨W.heap.size, 0, none⟩ = some (.int .i64 6) ∧ w'.cell? ⟨W.heap.size + 1, 0, none⟩ = some (.string r.f0) ∧ w'.cell? ⟨W.heap.size + 1, 1, none⟩ = some (.string r.f1) ∧ w'.cell? ⟨W.heap.size + 1, 2, none⟩ = some (.string r.f2) ∧ w'.cell? ⟨W.heap.size + 1, 3, none⟩ = some (.string r.f3) ∧ w'.cell? ⟨W.heap.size + 1, 4, none⟩ = some (.int .i64 r.f4) ∧ w'.cell? ⟨W.heap.size + 1, 5, none⟩ = some (.int .i64 r.f5) ∧ w'.cell? (ad.add (k * 5)) = some (.int .i64 y.f0) ∧ w'.cell? ⟨(ad.add (k * 5)).block, (ad.add (k * 5)).off + 1, none⟩ = some (.string y.f1) ∧ w'.cell? ⟨(ad.add (k * 5)).block, (ad.add (k * 5)).off + 2, none⟩ = some (.int .i64 y.f2) ∧ w'.cell? ⟨(ad.add (k * 5)).block, (ad.add (k * 5)).off + 3, none⟩ = some (.int .i64 y.f3) ∧ w'.cell? ⟨(ad.add (k * 5)).block, (ad.add (k * 5)).off + 4, none⟩ = some (.slice A4 y.f4.length c4))) (first | assumption | with_reducible exact HS0.out | with_reducible exact HKEEP.out _ _ (by assumption) hb) (first | (go_at_call 37; refine (HL _ (by assumption)).out.mono ?_; rintro e w3 ⟨rfl, hb⟩))
      have HBX := Lib.hid (below_tr HBW.out (Aside0.out (And.left (by assumption))))
      have HXQ := Lib.hid (show (Aside0 (Below wr.heap.size wr w3) ∧ w3.cell? ⟨W.heap.size, 4, none⟩ = some (.slice (some ad) ks.length c) ∧ w3.cell? ⟨W.heap.size, 0, none⟩ = some (.int .i64 6) ∧ w3.cell? ⟨W.heap.size + 1, 0, none⟩ = some (.string r.f0) ∧ w3.cell? ⟨W.heap.size + 1, 1, none⟩ = some (.string r.f1) ∧ w3.cell? ⟨W.heap.size + 1, 2, none⟩ = some (.string r.f2) ∧ w3.cell? ⟨W.heap.size + 1, 3, none⟩ = some (.string r.f3) ∧ w3.cell? ⟨W.heap.size + 1, 4, none⟩ = some (.int .i64 r.f4) ∧ w3.cell? ⟨W.heap.size + 1, 5, none⟩ = some (.int .i64 r.f5) ∧ w3.cell? (ad.add (k * 5)) = some (.int .i64 y.f0) ∧ w3.cell? ⟨(ad.add (k * 5)).block, (ad.add (k * 5)).off + 1, none⟩ = some (.string y.f1) ∧ w3.cell? ⟨(ad.add (k * 5)).block, (ad.add (k * 5)).off + 2, none⟩ = some (.int .i64 y.f2) ∧ w3.cell? ⟨(ad.add (k * 5)).block, (ad.add (k * 5)).off + 3, none⟩ = some (.int .i64 y.f3) ∧ w3.cell? ⟨(ad.add (k * 5)).block, (ad.add (k * 5)).off + 4, none⟩ = some (.slice A4 y.f4.length c4)) from by assumption)
      have t0 := HXQ.out.2.2.1
      cases q
      · go_wp2
        all_goals first
          | (go_ret; exact ⟨ret_b (by rw [← HR.out, HI.out, HDR.out, List.any_cons, HQ.out]; simp), below_tr HB.out HBX.out⟩)
          | (go_roundw
             case rel => exact ⟨k + 1, by go_num, by omega, ⟨by rw [HI.out, HDR.out, List.any_cons, HQ.out]; simp⟩, ⟨HBX.out⟩⟩
             case measure => simp [intOf]; omega)
      · go_wp2
        all_goals first
          | (go_ret; exact ⟨ret_b (by rw [← HR.out, HI.out, HDR.out, List.any_cons, HQ.out]; simp), below_tr HB.out HBX.out⟩)
          | (go_roundw
             case rel => exact ⟨k + 1, by go_num, by omega, ⟨by rw [HI.out, HDR.out, List.any_cons, HQ.out]; simp⟩, ⟨HBX.out⟩⟩
             case measure => simp [intOf]; omega)
    · have HE := Lib.hid (show R = true from by rw [← HR.out, HI.out, List.drop_of_length_le (by omega)]; rfl)
      go_wp2
      go_ret
      exact ⟨ret_b HE.out.symm, below_tr HB.out HBW.out⟩

set_option maxHeartbeats 4000000 in
theorem matchR_op8 (d : Nat) (IH : MatchR d) (nm : ByteArray) (fr tt : Int) (ks : List S76) (hd : ∀ y ∈ ks, dp d y) (r : S48) (A : Option Addr) (c : Nat) (W : World) (hC : Kd.C k76 W A ks.length ks) (hl : ks.length ≤ c) : Calls Tryz.prog 37 #[.agg #[.int .i64 8, .string nm, .int .i64 fr, .int .i64 tt, .slice A ks.length c], .agg #[.string r.f0, .string r.f1, .string r.f2, .string r.f3, .int .i64 r.f4, .int .i64 r.f5]] W fun e W' => e = .returned (.bool (if ks.length = 0 then true else !mt d (rd_T76 ks 0) r)) ∧ Below W.heap.size W W' := by
  have HB := Lib.hid (show Below W.heap.size W ((W.alloc (.cells #[.int .i64 8, .string nm, .int .i64 fr, .int .i64 tt, .slice A ks.length c] 76 (0, 0))).alloc (.cells #[.string r.f0, .string r.f1, .string r.f2, .string r.f3, .int .i64 r.f4, .int .i64 r.f5] 48 (0, 0))) from below_alloc (below_alloc (Below.refl _ _) _) _)
  have hz1 : (W.alloc (.cells #[.int .i64 8, .string nm, .int .i64 fr, .int .i64 tt, .slice A ks.length c] 76 (0, 0))).heap.size = W.heap.size + 1 := by show (W.heap.push _).size = _; rw [Array.size_push]
  have HYX := Lib.hid ((Below.block (below_alloc (Below.refl _ (W.alloc (.cells #[.int .i64 8, .string nm, .int .i64 fr, .int .i64 tt, .slice A ks.length c] 76 (0, 0)))) (.cells #[.string r.f0, .string r.f1, .string r.f2, .string r.f3, .int .i64 r.f4, .int .i64 r.f5] 48 (0, 0))) W.heap.size (blk_lt (new_blk W (.cells #[.int .i64 8, .string nm, .int .i64 fr, .int .i64 tt, .slice A ks.length c] 76 (0, 0))))).trans (new_blk W (.cells #[.int .i64 8, .string nm, .int .i64 fr, .int .i64 tt, .slice A ks.length c] 76 (0, 0))))
  have hy2 := new_blk (W.alloc (.cells #[.int .i64 8, .string nm, .int .i64 fr, .int .i64 tt, .slice A ks.length c] 76 (0, 0))) (.cells #[.string r.f0, .string r.f1, .string r.f2, .string r.f3, .int .i64 r.f4, .int .i64 r.f5] 48 (0, 0))
  rw [hz1] at hy2
  have HYR := Lib.hid hy2
  have HC3 := Lib.hid (Kd.C_below hC HB.out)
  have hm : ks.length ≤ 9223372036854775807 := hC.2.1
  clear hz1 hy2 hC
  by_cases h0 : ks.length = 0
  · rw [if_pos h0]
    have h0' : ((ks.length : Int) == 0) = true := by simp [h0]
    clear hd IH h0
    go_enter Tryz.func37, Tryz.ntmps37
    go_wp2_with fail
    go_quiet (fail)
    go_wp2
    go_ret
    exact ⟨rfl, pw_below_drewN HB.out _⟩
  · rw [if_neg h0]
    have hk0 : 0 < ks.length := by omega
    have h0' : ((ks.length : Int) == 0) = false := by simp [h0]
    have hk1 : (0 : Int) < (ks.length : Int) := by omega
    have HYX2 := HYX
    have HYR2 := HYR
    have q0 : ((W.alloc (.cells #[.int .i64 8, .string nm, .int .i64 fr, .int .i64 tt, .slice A ks.length c] 76 (0, 0))).alloc (.cells #[.string r.f0, .string r.f1, .string r.f2, .string r.f3, .int .i64 r.f4, .int .i64 r.f5] 48 (0, 0))).cell? ⟨W.heap.size, 0, none⟩ = some (.int .i64 8) := (blk_cell HYX2.out 0).trans rfl
    have q4 : ((W.alloc (.cells #[.int .i64 8, .string nm, .int .i64 fr, .int .i64 tt, .slice A ks.length c] 76 (0, 0))).alloc (.cells #[.string r.f0, .string r.f1, .string r.f2, .string r.f3, .int .i64 r.f4, .int .i64 r.f5] 48 (0, 0))).cell? ⟨W.heap.size, 4, none⟩ = some (.slice A ks.length c) := (blk_cell HYX2.out 4).trans rfl
    have p0 : ((W.alloc (.cells #[.int .i64 8, .string nm, .int .i64 fr, .int .i64 tt, .slice A ks.length c] 76 (0, 0))).alloc (.cells #[.string r.f0, .string r.f1, .string r.f2, .string r.f3, .int .i64 r.f4, .int .i64 r.f5] 48 (0, 0))).cell? ⟨W.heap.size + 1, 0, none⟩ = some (.string r.f0) := (blk_cell HYR2.out 0).trans rfl
    have p1 : ((W.alloc (.cells #[.int .i64 8, .string nm, .int .i64 fr, .int .i64 tt, .slice A ks.length c] 76 (0, 0))).alloc (.cells #[.string r.f0, .string r.f1, .string r.f2, .string r.f3, .int .i64 r.f4, .int .i64 r.f5] 48 (0, 0))).cell? ⟨W.heap.size + 1, 1, none⟩ = some (.string r.f1) := (blk_cell HYR2.out 1).trans rfl
    have p2 : ((W.alloc (.cells #[.int .i64 8, .string nm, .int .i64 fr, .int .i64 tt, .slice A ks.length c] 76 (0, 0))).alloc (.cells #[.string r.f0, .string r.f1, .string r.f2, .string r.f3, .int .i64 r.f4, .int .i64 r.f5] 48 (0, 0))).cell? ⟨W.heap.size + 1, 2, none⟩ = some (.string r.f2) := (blk_cell HYR2.out 2).trans rfl
    have p3 : ((W.alloc (.cells #[.int .i64 8, .string nm, .int .i64 fr, .int .i64 tt, .slice A ks.length c] 76 (0, 0))).alloc (.cells #[.string r.f0, .string r.f1, .string r.f2, .string r.f3, .int .i64 r.f4, .int .i64 r.f5] 48 (0, 0))).cell? ⟨W.heap.size + 1, 3, none⟩ = some (.string r.f3) := (blk_cell HYR2.out 3).trans rfl
    have p4 : ((W.alloc (.cells #[.int .i64 8, .string nm, .int .i64 fr, .int .i64 tt, .slice A ks.length c] 76 (0, 0))).alloc (.cells #[.string r.f0, .string r.f1, .string r.f2, .string r.f3, .int .i64 r.f4, .int .i64 r.f5] 48 (0, 0))).cell? ⟨W.heap.size + 1, 4, none⟩ = some (.int .i64 r.f4) := (blk_cell HYR2.out 4).trans rfl
    have p5 : ((W.alloc (.cells #[.int .i64 8, .string nm, .int .i64 fr, .int .i64 tt, .slice A ks.length c] 76 (0, 0))).alloc (.cells #[.string r.f0, .string r.f1, .string r.f2, .string r.f3, .int .i64 r.f4, .int .i64 r.f5] 48 (0, 0))).cell? ⟨W.heap.size + 1, 5, none⟩ = some (.int .i64 r.f5) := (blk_cell HYR2.out 5).trans rfl
    obtain ⟨ad, A4, c4, e, g0, g1, g2, g3, g4, hl4, hC4⟩ := at_T76 HC3.out 0 (by omega) (by omega)
    subst e
    rw [show (0 : Int).toNat * 5 = 0 from rfl, show ad.add 0 = ad by obtain ⟨b, o, s⟩ := ad; unfold Addr.add; cases s <;> simp] at g0 g1 g2 g3 g4
    have hdy := hd _ (rd_mem52 hk0)
    rw [show ((0 : Nat) : Int) = 0 from rfl] at hdy
    generalize rd_T76 ks 0 = y at *
    have HIH := Lib.hid IH
    clear hd IH h0
    go_enter Tryz.func37, Tryz.ntmps37
    go_wp2_with fail
    generalize ((W.alloc (.cells #[.int .i64 8, .string nm, .int .i64 fr, .int .i64 tt, .slice (some ad) ks.length c] 76 (0, 0))).alloc (.cells #[.string r.f0, .string r.f1, .string r.f2, .string r.f3, .int .i64 r.f4, .int .i64 r.f5] 48 (0, 0))) = W4 at *
    have HL := fun w' (h : (Aside0 (Below W4.heap.size W4 w') ∧ w'.cell? ⟨W.heap.size, 4, none⟩ = some (.slice (some ad) ks.length c) ∧ w'.cell? ⟨W.heap.size, 0, none⟩ = some (.int .i64 8) ∧ w'.cell? ⟨W.heap.size + 1, 0, none⟩ = some (.string r.f0) ∧ w'.cell? ⟨W.heap.size + 1, 1, none⟩ = some (.string r.f1) ∧ w'.cell? ⟨W.heap.size + 1, 2, none⟩ = some (.string r.f2) ∧ w'.cell? ⟨W.heap.size + 1, 3, none⟩ = some (.string r.f3) ∧ w'.cell? ⟨W.heap.size + 1, 4, none⟩ = some (.int .i64 r.f4) ∧ w'.cell? ⟨W.heap.size + 1, 5, none⟩ = some (.int .i64 r.f5) ∧ w'.cell? ad = some (.int .i64 y.f0) ∧ w'.cell? ⟨ad.block, ad.off + 1, none⟩ = some (.string y.f1) ∧ w'.cell? ⟨ad.block, ad.off + 2, none⟩ = some (.int .i64 y.f2) ∧ w'.cell? ⟨ad.block, ad.off + 3, none⟩ = some (.int .i64 y.f3) ∧ w'.cell? ⟨ad.block, ad.off + 4, none⟩ = some (.slice A4 y.f4.length c4))) => Lib.hid (HIH.out y r A4 c4 w' hdy (Kd.C_below hC4 h.1.out) hl4)
    have HKEEP := Lib.hid (show ∀ w1 w2 : World, (Aside0 (Below W4.heap.size W4 w1) ∧ w1.cell? ⟨W.heap.size, 4, none⟩ = some (.slice (some ad) ks.length c) ∧ w1.cell? ⟨W.heap.size, 0, none⟩ = some (.int .i64 8) ∧ w1.cell? ⟨W.heap.size + 1, 0, none⟩ = some (.string r.f0) ∧ w1.cell? ⟨W.heap.size + 1, 1, none⟩ = some (.string r.f1) ∧ w1.cell? ⟨W.heap.size + 1, 2, none⟩ = some (.string r.f2) ∧ w1.cell? ⟨W.heap.size + 1, 3, none⟩ = some (.string r.f3) ∧ w1.cell? ⟨W.heap.size + 1, 4, none⟩ = some (.int .i64 r.f4) ∧ w1.cell? ⟨W.heap.size + 1, 5, none⟩ = some (.int .i64 r.f5) ∧ w1.cell? ad = some (.int .i64 y.f0) ∧ w1.cell? ⟨ad.block, ad.off + 1, none⟩ = some (.string y.f1) ∧ w1.cell? ⟨ad.block, ad.off + 2, none⟩ = some (.int .i64 y.f2) ∧ w1.cell? ⟨ad.block, ad.off + 3, none⟩ = some (.int .i64 y.f3) ∧ w1.cell? ⟨ad.block, ad.off + 4, none⟩ = some (.slice A4 y.f4.length c4)) → Below w1.heap.size w1 w2 → (Aside0 (Below W4.heap.size W4 w2) ∧ w2.cell? ⟨W.heap.size, 4, none⟩ = some (.slice (some ad) ks.length c) ∧ w2.cell? ⟨W.heap.size, 0, none⟩ = some (.int .i64 8) ∧ w2.cell? ⟨W.heap.size + 1, 0, none⟩ = some (.string r.f0) ∧ w2.cell? ⟨W.heap.size + 1, 1, none⟩ = some (.string r.f1) ∧ w2.cell? ⟨W.heap.size + 1, 2, none⟩ = some (.string r.f2) ∧ w2.cell? ⟨W.heap.size + 1, 3, none⟩ = some (.string r.f3) ∧ w2.cell? ⟨W.heap.size + 1, 4, none⟩ = some (.int .i64 r.f4) ∧ w2.cell? ⟨W.heap.size + 1, 5, none⟩ = some (.int .i64 r.f5) ∧ w2.cell? ad = some (.int .i64 y.f0) ∧ w2.cell? ⟨ad.block, ad.off + 1, none⟩ = some (.string y.f1) ∧ w2.cell? ⟨ad.block, ad.off + 2, none⟩ = some (.int .i64 y.f2) ∧ w2.cell? ⟨ad.block, ad.off + 3, none⟩ = some (.int .i64 y.f3) ∧ w2.cell? ⟨ad.block, ad.off + 4, none⟩ = some (.slice A4 y.f4.length c4)) from fun w1 w2 h hb => ⟨⟨below_tr h.1.out hb⟩, below_cell hb h.2.1, below_cell hb h.2.2.1, below_cell hb h.2.2.2.1, below_cell hb h.2.2.2.2.1, below_cell hb h.2.2.2.2.2.1, below_cell hb h.2.2.2.2.2.2.1, below_cell hb h.2.2.2.2.2.2.2.1, below_cell hb h.2.2.2.2.2.2.2.2.1, below_cell hb h.2.2.2.2.2.2.2.2.2.1, below_cell hb h.2.2.2.2.2.2.2.2.2.2.1, below_cell hb h.2.2.2.2.2.2.2.2.2.2.2.1, below_cell hb h.2.2.2.2.2.2.2.2.2.2.2.2.1, below_cell hb h.2.2.2.2.2.2.2.2.2.2.2.2.2⟩)
    have HS0 := Lib.hid (show (Aside0 (Below W4.heap.size W4 W4.drew) ∧ W4.drew.cell? ⟨W.heap.size, 4, none⟩ = some (.slice (some ad) ks.length c) ∧ W4.drew.cell? ⟨W.heap.size, 0, none⟩ = some (.int .i64 8) ∧ W4.drew.cell? ⟨W.heap.size + 1, 0, none⟩ = some (.string r.f0) ∧ W4.drew.cell? ⟨W.heap.size + 1, 1, none⟩ = some (.string r.f1) ∧ W4.drew.cell? ⟨W.heap.size + 1, 2, none⟩ = some (.string r.f2) ∧ W4.drew.cell? ⟨W.heap.size + 1, 3, none⟩ = some (.string r.f3) ∧ W4.drew.cell? ⟨W.heap.size + 1, 4, none⟩ = some (.int .i64 r.f4) ∧ W4.drew.cell? ⟨W.heap.size + 1, 5, none⟩ = some (.int .i64 r.f5) ∧ W4.drew.cell? ad = some (.int .i64 y.f0) ∧ W4.drew.cell? ⟨ad.block, ad.off + 1, none⟩ = some (.string y.f1) ∧ W4.drew.cell? ⟨ad.block, ad.off + 2, none⟩ = some (.int .i64 y.f2) ∧ W4.drew.cell? ⟨ad.block, ad.off + 3, none⟩ = some (.int .i64 y.f3) ∧ W4.drew.cell? ⟨ad.block, ad.off + 4, none⟩ = some (.slice A4 y.f4.length c4)) from ⟨⟨below_drew (Below.refl _ _)⟩, q4, q0, p0, p1, p2, p3, p4, p5, g0, g1, g2, g3, g4⟩)
    clear hC4 hl4 hdy
    go_region_held3 (fun w' => (Aside0 (Below W4.heap.size W4 w') ∧ w'.cell? ⟨W.heap.size, 4, none⟩ = some (.slice (some ad) ks.length c) ∧ w'.cell? ⟨W.heap.size, 0, none⟩ = some (.int .i64 8) ∧ w'.cell? ⟨W.heap.size + 1, 0, none⟩ = some (.string r.f0) ∧ w'.cell? ⟨W.heap.size + 1, 1, none⟩ = some (.string r.f1) ∧ w'.cell? ⟨W.heap.size + 1, 2, none⟩ = some (.string r.f2) ∧ w'.cell? ⟨W.heap.size + 1, 3, none⟩ = some (.string r.f3) ∧ w'.cell? ⟨W.heap.size + 1, 4, none⟩ = some (.int .i64 r.f4) ∧ w'.cell? ⟨W.heap.size + 1, 5, none⟩ = some (.int .i64 r.f5) ∧ w'.cell? ad = some (.int .i64 y.f0) ∧ w'.cell? ⟨ad.block, ad.off + 1, none⟩ = some (.string y.f1) ∧ w'.cell? ⟨ad.block, ad.off + 2, none⟩ = some (.int .i64 y.f2) ∧ w'.cell? ⟨ad.block, ad.off + 3, none⟩ = some (.int .i64 y.f3) ∧ w'.cell? ⟨ad.block, ad.off + 4, none⟩ = some (.slice A4 y.f4.length c4))) (first | assumption | with_reducible exact HS0.out | with_reducible exact HKEEP.out _ _ (by assumption) hb) (first | (go_at_call 37; refine (HL _ (by assumption)).out.mono ?_; rintro e w3 ⟨rfl, hb⟩))
    have HBX := Lib.hid (below_tr HB.out (Aside0.out (And.left (by assumption))))
    go_wp2
    go_ret
    exact ⟨rfl, HBX.out⟩
/-- What the document's scope matches. -/
theorem matchR_any : ∀ d, MatchR d
  | 0 => fun x r A c W hd => absurd hd id
  | d + 1 => by
    intro x r A c W hd hC hl
    obtain ⟨o, nm, fr, tt, ks⟩ := x
    have hd' : ∀ y ∈ ks, dp d y := hd
    simp only at hC hl
    show Calls Tryz.prog 37 #[.agg #[.int .i64 o, .string nm, .int .i64 fr, .int .i64 tt, .slice A ks.length c], .agg #[.string r.f0, .string r.f1, .string r.f2, .string r.f3, .int .i64 r.f4, .int .i64 r.f5]] W fun e W' => e = .returned (.bool (if o = 1 then true else if o = 2 then (r.f1.toList == nm.toList) else if o = 3 then (r.f2.toList == nm.toList) else if o = 4 then (r.f3.toList == nm.toList)
      else if o = 5 then (decide (r.f4 ≥ fr) && decide (r.f4 ≤ tt)) else if o = 7 then ks.any (fun y => mt d y r) else if o = 6 then !(ks.any (fun y => !mt d y r))
      else if o = 8 then (if ks.length = 0 then true else !mt d (rd_T76 ks 0) r) else false)) ∧ Below W.heap.size W W'
    by_cases h1 : o = 1
    · rw [if_pos h1]; subst h1; exact matchR_op1 nm fr tt ks r A c W
    by_cases h2 : o = 2
    · rw [if_neg h1, if_pos h2]; subst h2; exact matchR_op2 nm fr tt ks r A c W
    by_cases h3 : o = 3
    · rw [if_neg h1, if_neg h2, if_pos h3]; subst h3; exact matchR_op3 nm fr tt ks r A c W
    by_cases h4 : o = 4
    · rw [if_neg h1, if_neg h2, if_neg h3, if_pos h4]; subst h4; exact matchR_op4 nm fr tt ks r A c W
    by_cases h5 : o = 5
    · rw [if_neg h1, if_neg h2, if_neg h3, if_neg h4, if_pos h5]; subst h5; exact matchR_op5 nm fr tt ks r A c W
    by_cases h7 : o = 7
    · rw [if_neg h1, if_neg h2, if_neg h3, if_neg h4, if_neg h5, if_pos h7]; subst h7; exact matchR_op7 d (matchR_any d) nm fr tt ks hd' r A c W hC hl
    by_cases h6 : o = 6
    · rw [if_neg h1, if_neg h2, if_neg h3, if_neg h4, if_neg h5, if_neg h7, if_pos h6]; subst h6; exact matchR_op6 d (matchR_any d) nm fr tt ks hd' r A c W hC hl
    by_cases h8 : o = 8
    · rw [if_neg h1, if_neg h2, if_neg h3, if_neg h4, if_neg h5, if_neg h7, if_neg h6, if_pos h8]; subst h8; exact matchR_op8 d (matchR_any d) nm fr tt ks hd' r A c W hC hl
    rw [if_neg h1, if_neg h2, if_neg h3, if_neg h4, if_neg h5, if_neg h7, if_neg h6, if_neg h8]
    exact matchR_else o h1 h2 h3 h4 h5 h6 h7 h8 nm fr tt ks r A c W
end Go.Proofs.YtafigkikblpbnaaGreatDoor.PG
namespace Go.Proofs.YtafigkikblpbnaaGreatDoor.PG
open Go.RowKit Go.Proofs.YtafigkikblpbnaaGreatDoorW.PrintWords Go.Proofs.YtafigkikblpbnaaGreatDoorW.PrintLast Go.Proofs.YtafigkikblpbnaaGreatDoorW.PrintMore
set_option linter.unusedVariables false
set_option linter.unusedSimpArgs false
set_option maxRecDepth 100000
theorem dp_all : ∀ (l : List S76), (∀ y ∈ l, ∃ d, dp d y) → ∃ d, ∀ y ∈ l, dp d y
  | [], _ => ⟨0, fun y hy => by cases hy⟩
  | x :: l, h => by
    obtain ⟨d1, h1⟩ := h x (List.mem_cons.2 (.inl rfl))
    obtain ⟨d2, h2⟩ := dp_all l (fun y hy => h y (List.mem_cons.2 (.inr hy)))
    refine ⟨max d1 d2, fun y hy => ?_⟩
    rcases List.mem_cons.1 hy with rfl | hy
    · exact dp_up _ _ _ (Nat.le_max_left _ _) h1
    · exact dp_up _ _ _ (Nat.le_max_right _ _) (h2 y hy)
/-- Every scope has a depth. -/
theorem ex_dp (x : S76) : ∃ d, dp d x := by
  obtain ⟨o, nm, fr, tt, ks⟩ := x
  obtain ⟨d, hd⟩ := dp_all ks (fun y hy => ex_dp y)
  exact ⟨d + 1, hd⟩
termination_by SizeOf.sizeOf x
decreasing_by
  have := List.sizeOf_lt_of_mem hy
  simp_wf
  omega
theorem ex_dpH (l : List S78) : ∃ d, ∀ x ∈ l, dp d x.f1 := by
  obtain ⟨d, hd⟩ := dp_all (l.map (·.f1)) (fun y hy => ex_dp y)
  exact ⟨d, fun x hx => hd _ (List.mem_map.2 ⟨x, hx, rfl⟩)⟩
/-- A record is held. -/
def heldP (d : Nat) (l : List S78) (r : S48) : Bool := l.any fun x => x.f2 && mt d x.f1 r
end Go.Proofs.YtafigkikblpbnaaGreatDoor.PG
