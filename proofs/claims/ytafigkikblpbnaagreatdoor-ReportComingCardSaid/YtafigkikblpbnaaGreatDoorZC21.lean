/- The reference's Coming: the dates in order. Sizes of a state: the function answers; no condition beyond each theorem its own. -/
import Derived.Test.YtafigkikblpbnaaGreatDoorZC20
import Derived.Test.YtafigkikblpbnaaGreatDoorZC04
namespace Go.Proofs.YtafigkikblpbnaaGreatDoor.PG
open Go.RowKit Go.Proofs.YtafigkikblpbnaaGreatDoorW.PrintWords Go.Proofs.YtafigkikblpbnaaGreatDoorW.PrintLast Go.Proofs.YtafigkikblpbnaaGreatDoorW.PrintMore
set_option linter.unusedVariables false
set_option linter.unusedSimpArgs false
set_option maxRecDepth 100000
theorem tab9_11 : rtab .any (opsOf Tryz.f9 11) = (true, [([], []), ([0], [0]), ([], []), ([], []), ([3], [3]), ([], []), ([4, 5], [4, 5]), ([6], [6]), ([1, 2, 7], [1, 2, 7]), ([8], [8]), ([9], [9]), ([9], [9]), ([9], [9]), ([10, 8, 0, 1, 2, 3, 4, 5, 6, 7, 8, 9, 10], [10]), ([11, 13, 0, 1, 2, 3, 4, 5, 6, 7, 8, 9, 10, 11, 13], [11]), ([12, 14, 0, 1, 2, 3, 4, 5, 6, 7, 8, 9, 10, 11, 12, 13, 14], [12])]) := by kernel_rfl
theorem tab9_13 : rtab .any (opsOf Tryz.f9 13) = (true, [([], []), ([0], [0]), ([1], [1]), ([], []), ([], []), ([4], [4]), ([3, 5], [3, 5]), ([6], [6]), ([2, 7], [2, 7]), ([8], [8]), ([], []), ([10], [10]), ([9, 11], [9, 11]), ([12, 1, 0, 1, 2, 3, 4, 5, 6, 7, 8, 9, 10, 11, 12], [12])]) := by kernel_rfl
theorem tab9_19 : rtab .any (opsOf Tryz.f9 19) = (true, [([], []), ([], []), ([1], [1]), ([], []), ([], []), ([], []), ([], []), ([5, 6], [5, 6]), ([7], [7]), ([], []), ([], []), ([10], [10]), ([9, 11], [9, 11]), ([12], [12]), ([0, 2, 0, 1, 2, 5, 6, 7, 8, 13], [0, 2]), ([14, 8, 0, 1, 2, 5, 6, 7, 8, 13], [8, 14]), ([3, 4, 0, 1, 2, 3, 4, 5, 6, 7, 8, 9, 10, 11, 12, 13, 14, 15], [3, 4]), ([16, 13, 15, 0, 1, 2, 3, 4, 5, 6, 7, 8, 9, 10, 11, 12, 13, 14, 15], [13, 16])]) := by kernel_rfl
theorem tab9_20 : rtab .any (opsOf Tryz.f9 20) = (true, [([], []), ([], []), ([1], [1]), ([], []), ([], []), ([], []), ([], []), ([5, 6], [5, 6]), ([7], [7]), ([], []), ([], []), ([10], [10]), ([9, 11], [9, 11]), ([12], [12]), ([0, 2, 0, 1, 2, 5, 6, 7, 8, 13], [0, 2]), ([14, 8, 0, 1, 2, 5, 6, 7, 8, 13], [8, 14]), ([3, 4, 0, 1, 2, 3, 4, 5, 6, 7, 8, 9, 10, 11, 12, 13, 14, 15], [3, 4]), ([16, 13, 15, 0, 1, 2, 3, 4, 5, 6, 7, 8, 9, 10, 11, 12, 13, 14, 15], [13, 16])]) := by kernel_rfl

set_option maxHeartbeats 8000000 in
/-- the reference's Coming. -/
theorem ComingR_any (d : Nat) (s : S31) (dy : Int) (h0d : 0 ≤ dy) (h1d : dy ≤ 1048576) (hck : 0 ≤ s.f0 ∧ s.f0 ≤ 1099511627776) (A2 A3 A4 A5 A6 A7 A8 : Option Addr) (c2 c3 c4 c5 c6 c7 c8 : Nat) (W : World) (hs : Rs W s A2 A3 A4 A5 A6 A7 A8 c2 c3 c4 c5 c6 c7 c8) (hA : Ask d s) (hac : ∀ x ∈ s.f2, 1 ≤ x.f2 ∧ x.f2 ≤ 3) (hz : ∀ r ∈ s.f5, r.f0.size ≤ 140737488351232) (h5 : s.f5.length ≤ 24) :
    Calls Tryz.prog 9 #[.agg #[.int .i64 s.f0, .int .u64 s.f1, .slice A2 s.f2.length c2, .slice A3 s.f3.length c3, .slice A4 s.f4.length c4, .slice A5 s.f5.length c5, .slice A6 s.f6.length c6, .slice A7 s.f7.length c7, .slice A8 s.f8.length c8, .int .i64 s.f9], .int .i64 dy] W (RCm (cmL d s dy s.f5.length) W) := by
  have HB1 := Lib.hid (show Below W.heap.size W (W.alloc (.cells #[.int .i64 s.f0, .int .u64 s.f1, .slice A2 s.f2.length c2, .slice A3 s.f3.length c3, .slice A4 s.f4.length c4, .slice A5 s.f5.length c5, .slice A6 s.f6.length c6, .slice A7 s.f7.length c7, .slice A8 s.f8.length c8, .int .i64 s.f9] 31 (0, 0))) from below_alloc (Below.refl _ _) _)
  have HY1 := Lib.hid (new_blk W (.cells #[.int .i64 s.f0, .int .u64 s.f1, .slice A2 s.f2.length c2, .slice A3 s.f3.length c3, .slice A4 s.f4.length c4, .slice A5 s.f5.length c5, .slice A6 s.f6.length c6, .slice A7 s.f7.length c7, .slice A8 s.f8.length c8, .int .i64 s.f9] 31 (0, 0)))
  have HS1 := Lib.hid (hs.below HB1.out)
  have HZ1 := Lib.hid (show (W.alloc (.cells #[.int .i64 s.f0, .int .u64 s.f1, .slice A2 s.f2.length c2, .slice A3 s.f3.length c3, .slice A4 s.f4.length c4, .slice A5 s.f5.length c5, .slice A6 s.f6.length c6, .slice A7 s.f7.length c7, .slice A8 s.f8.length c8, .int .i64 s.f9] 31 (0, 0))).heap.size = W.heap.size + 1 by show (W.heap.push _).size = _; rw [Array.size_push])
  have HA := Lib.hid hA
  have HAC := Lib.hid hac
  have HZ := Lib.hid hz
  have h52 : (s.f5.length : Int) ≤ 24 := by omega
  have d1 : ¬ dy < 0 := by omega
  have d2 : ¬ 1048576 < dy := by omega
  clear hs hA hac hz
  go_enter Tryz.func9, Tryz.ntmps9
  go_wp2
  generalize (W.alloc (.cells #[.int .i64 s.f0, .int .u64 s.f1, .slice A2 s.f2.length c2, .slice A3 s.f3.length c3, .slice A4 s.f4.length c4, .slice A5 s.f5.length c5, .slice A6 s.f6.length c6, .slice A7 s.f7.length c7, .slice A8 s.f8.length c8, .int .i64 s.f9] 31 (0, 0))) = W1_ at *
  go_loopw [6, 7, 8] (fun v6 v7 v8 wr => ∃ (k : Nat) (ys : List Dt), v8 = .int .i64 k ∧ k ≤ s.f5.length ∧ Aside0 (Kd.R (Kd.int .i64) 3 wr W1_.heap.size (fun _ => True) v6 (ys.map (·.t))) ∧ Aside0 (Kd.R Kd.string 9 wr W1_.heap.size (fun _ => True) v7 (ys.map (·.x))) ∧ Aside0 (PS (cmL d s dy k) ys) ∧ Aside0 (Below W1_.heap.size W1_ wr)) (fun _ _ v8 _ => s.f5.length - (intOf v8).toNat)
  case atStart => exact ⟨0, [], rfl, Nat.zero_le _, ⟨Kd.R_nil _ _ _ _ _⟩, ⟨Kd.R_nil _ _ _ _ _⟩, ⟨PS.nil⟩, ⟨Below.refl _ _⟩⟩
  case round =>
    obtain ⟨k, ys, rfl, hk, HR6, HR7, HPS, HB⟩ := hrel
    have HYR := Lib.hid ((HB.out.block W.heap.size (by have := HZ1.out; omega)).trans HY1.out)
    have HSR := Lib.hid (HS1.out.below HB.out)
    have HNL := Lib.hid (Nat.le_trans (cmL_len d s dy k) h5)
    have q5 : wr.cell? ⟨W.heap.size, 5, none⟩ = some (.slice A5 s.f5.length c5) := (blk_cell HYR.out 5).trans rfl
    by_cases hlt : k < s.f5.length
    · have hlt2 : (k : Int) < (s.f5.length : Int) := by omega
      obtain ⟨ad, e, h0, h1, h2, h3, h4, h5_⟩ := at_T48 HSR.out.g5 (k : Int) (by omega) (by omega)
      simp only [Int.toNat_natCast] at h0 h1 h2 h3 h4 h5_
      have hzz := (HZ.out _ (rd_mem48 hlt))
      have HCN := Lib.hid (cmL_none (d := d) (dy := dy) hlt)
      have HCS := Lib.hid (fun p => cmL_some (d := d) (dy := dy) (p := p) hlt)
      obtain ⟨y, hy⟩ : ∃ y, rd_T48 s.f5 (k : Int) = y := ⟨_, rfl⟩
      rw [hy] at h0 h1 h2 h3 h4 h5_ hzz HCN HCS
      clear hy
      obtain ⟨r0, r1, r2, r3, r4, r5⟩ := y
      dsimp only at h0 h1 h2 h3 h4 h5_ hzz
      subst e
      obtain ⟨w3, hw3⟩ : ∃ w3, wr.alloc (.cells #[.string r0, .string r1, .string r2, .string r3, .int .i64 r4, .int .i64 r5] 48 (0, 0)) = w3 := ⟨_, rfl⟩
      have HB3 := Lib.hid (show Below wr.heap.size wr w3 by rw [← hw3]; exact below_alloc (Below.refl _ _) _)
      have HX3 := Lib.hid (show w3.heap[wr.heap.size]? = some (.cells #[.string r0, .string r1, .string r2, .string r3, .int .i64 r4, .int .i64 r5] 48 (0, 0)) by rw [← hw3]; exact new_blk wr _)
      have HY3 := Lib.hid ((HB3.out.block W.heap.size (blk_lt HYR.out)).trans HYR.out)
      have HS3 := Lib.hid (HSR.out.below HB3.out)
      have HCC := Lib.hid (Case_eq s A2 A3 A4 (some ad) A6 A7 A8 c2 c3 c4 c5 c6 c7 c8 r1 w3 HS3.out)
      have HDT := Lib.hid (show dtP d s ⟨r0, r1, r2, r3, r4, r5⟩ = (if r5 = 1 ∧ 0 ≤ csI s ⟨r0, r1, r2, r3, r4, r5⟩ then (if (dueL s.f2 ⟨r0, r1, r2, r3, r4, r5⟩ (rd_T61 s.f3 (csI s ⟨r0, r1, r2, r3, r4, r5⟩))).2.2 = true then some ((dueL s.f2 ⟨r0, r1, r2, r3, r4, r5⟩ (rd_T61 s.f3 (csI s ⟨r0, r1, r2, r3, r4, r5⟩))).1, lnD d s ⟨r0, r1, r2, r3, r4, r5⟩ (dueL s.f2 ⟨r0, r1, r2, r3, r4, r5⟩ (rd_T61 s.f3 (csI s ⟨r0, r1, r2, r3, r4, r5⟩)))) else none) else none) from rfl)
      have HCI := Lib.hid (show csI s ⟨r0, r1, r2, r3, r4, r5⟩ = ix (nm59 r1) s.f3 0 from rfl)
      have HCD := Lib.hid (show cmD d s dy ⟨r0, r1, r2, r3, r4, r5⟩ = (dtP d s ⟨r0, r1, r2, r3, r4, r5⟩).bind fun p => if s.f0 < p.1 ∧ p.1 - s.f0 ≤ dy then some p else none from rfl)
      have HRG := Lib.hid (ix_range (nm59 r1) s.f3 0)
      generalize dtP d s ⟨r0, r1, r2, r3, r4, r5⟩ = o at *
      generalize cmD d s dy ⟨r0, r1, r2, r3, r4, r5⟩ = oc at *
      have HW3 := Lib.hid hw3
      have p0 : ((wr.alloc (.cells #[.string r0, .string r1, .string r2, .string r3, .int .i64 r4, .int .i64 r5] 48 (0, 0)))).cell? ⟨W.heap.size, 0, none⟩ = some (.int .i64 s.f0) := (blk_cell (show (wr.alloc (.cells #[.string r0, .string r1, .string r2, .string r3, .int .i64 r4, .int .i64 r5] 48 (0, 0))).heap[W.heap.size]? = some (.cells #[.int .i64 s.f0, .int .u64 s.f1, .slice A2 s.f2.length c2, .slice A3 s.f3.length c3, .slice A4 s.f4.length c4, .slice (some ad) s.f5.length c5, .slice A6 s.f6.length c6, .slice A7 s.f7.length c7, .slice A8 s.f8.length c8, .int .i64 s.f9] 31 (0, 0)) by rw [HW3.out]; exact HY3.out) 0).trans rfl
      have p1 : ((wr.alloc (.cells #[.string r0, .string r1, .string r2, .string r3, .int .i64 r4, .int .i64 r5] 48 (0, 0)))).cell? ⟨W.heap.size, 1, none⟩ = some (.int .u64 s.f1) := (blk_cell (show (wr.alloc (.cells #[.string r0, .string r1, .string r2, .string r3, .int .i64 r4, .int .i64 r5] 48 (0, 0))).heap[W.heap.size]? = some (.cells #[.int .i64 s.f0, .int .u64 s.f1, .slice A2 s.f2.length c2, .slice A3 s.f3.length c3, .slice A4 s.f4.length c4, .slice (some ad) s.f5.length c5, .slice A6 s.f6.length c6, .slice A7 s.f7.length c7, .slice A8 s.f8.length c8, .int .i64 s.f9] 31 (0, 0)) by rw [HW3.out]; exact HY3.out) 1).trans rfl
      have p2 : ((wr.alloc (.cells #[.string r0, .string r1, .string r2, .string r3, .int .i64 r4, .int .i64 r5] 48 (0, 0)))).cell? ⟨W.heap.size, 2, none⟩ = some (.slice A2 s.f2.length c2) := (blk_cell (show (wr.alloc (.cells #[.string r0, .string r1, .string r2, .string r3, .int .i64 r4, .int .i64 r5] 48 (0, 0))).heap[W.heap.size]? = some (.cells #[.int .i64 s.f0, .int .u64 s.f1, .slice A2 s.f2.length c2, .slice A3 s.f3.length c3, .slice A4 s.f4.length c4, .slice (some ad) s.f5.length c5, .slice A6 s.f6.length c6, .slice A7 s.f7.length c7, .slice A8 s.f8.length c8, .int .i64 s.f9] 31 (0, 0)) by rw [HW3.out]; exact HY3.out) 2).trans rfl
      have p3 : ((wr.alloc (.cells #[.string r0, .string r1, .string r2, .string r3, .int .i64 r4, .int .i64 r5] 48 (0, 0)))).cell? ⟨W.heap.size, 3, none⟩ = some (.slice A3 s.f3.length c3) := (blk_cell (show (wr.alloc (.cells #[.string r0, .string r1, .string r2, .string r3, .int .i64 r4, .int .i64 r5] 48 (0, 0))).heap[W.heap.size]? = some (.cells #[.int .i64 s.f0, .int .u64 s.f1, .slice A2 s.f2.length c2, .slice A3 s.f3.length c3, .slice A4 s.f4.length c4, .slice (some ad) s.f5.length c5, .slice A6 s.f6.length c6, .slice A7 s.f7.length c7, .slice A8 s.f8.length c8, .int .i64 s.f9] 31 (0, 0)) by rw [HW3.out]; exact HY3.out) 3).trans rfl
      have p4 : ((wr.alloc (.cells #[.string r0, .string r1, .string r2, .string r3, .int .i64 r4, .int .i64 r5] 48 (0, 0)))).cell? ⟨W.heap.size, 4, none⟩ = some (.slice A4 s.f4.length c4) := (blk_cell (show (wr.alloc (.cells #[.string r0, .string r1, .string r2, .string r3, .int .i64 r4, .int .i64 r5] 48 (0, 0))).heap[W.heap.size]? = some (.cells #[.int .i64 s.f0, .int .u64 s.f1, .slice A2 s.f2.length c2, .slice A3 s.f3.length c3, .slice A4 s.f4.length c4, .slice (some ad) s.f5.length c5, .slice A6 s.f6.length c6, .slice A7 s.f7.length c7, .slice A8 s.f8.length c8, .int .i64 s.f9] 31 (0, 0)) by rw [HW3.out]; exact HY3.out) 4).trans rfl
      have p5 : ((wr.alloc (.cells #[.string r0, .string r1, .string r2, .string r3, .int .i64 r4, .int .i64 r5] 48 (0, 0)))).cell? ⟨W.heap.size, 5, none⟩ = some (.slice (some ad) s.f5.length c5) := (blk_cell (show (wr.alloc (.cells #[.string r0, .string r1, .string r2, .string r3, .int .i64 r4, .int .i64 r5] 48 (0, 0))).heap[W.heap.size]? = some (.cells #[.int .i64 s.f0, .int .u64 s.f1, .slice A2 s.f2.length c2, .slice A3 s.f3.length c3, .slice A4 s.f4.length c4, .slice (some ad) s.f5.length c5, .slice A6 s.f6.length c6, .slice A7 s.f7.length c7, .slice A8 s.f8.length c8, .int .i64 s.f9] 31 (0, 0)) by rw [HW3.out]; exact HY3.out) 5).trans rfl
      have p6 : ((wr.alloc (.cells #[.string r0, .string r1, .string r2, .string r3, .int .i64 r4, .int .i64 r5] 48 (0, 0)))).cell? ⟨W.heap.size, 6, none⟩ = some (.slice A6 s.f6.length c6) := (blk_cell (show (wr.alloc (.cells #[.string r0, .string r1, .string r2, .string r3, .int .i64 r4, .int .i64 r5] 48 (0, 0))).heap[W.heap.size]? = some (.cells #[.int .i64 s.f0, .int .u64 s.f1, .slice A2 s.f2.length c2, .slice A3 s.f3.length c3, .slice A4 s.f4.length c4, .slice (some ad) s.f5.length c5, .slice A6 s.f6.length c6, .slice A7 s.f7.length c7, .slice A8 s.f8.length c8, .int .i64 s.f9] 31 (0, 0)) by rw [HW3.out]; exact HY3.out) 6).trans rfl
      have p7 : ((wr.alloc (.cells #[.string r0, .string r1, .string r2, .string r3, .int .i64 r4, .int .i64 r5] 48 (0, 0)))).cell? ⟨W.heap.size, 7, none⟩ = some (.slice A7 s.f7.length c7) := (blk_cell (show (wr.alloc (.cells #[.string r0, .string r1, .string r2, .string r3, .int .i64 r4, .int .i64 r5] 48 (0, 0))).heap[W.heap.size]? = some (.cells #[.int .i64 s.f0, .int .u64 s.f1, .slice A2 s.f2.length c2, .slice A3 s.f3.length c3, .slice A4 s.f4.length c4, .slice (some ad) s.f5.length c5, .slice A6 s.f6.length c6, .slice A7 s.f7.length c7, .slice A8 s.f8.length c8, .int .i64 s.f9] 31 (0, 0)) by rw [HW3.out]; exact HY3.out) 7).trans rfl
      have p8 : ((wr.alloc (.cells #[.string r0, .string r1, .string r2, .string r3, .int .i64 r4, .int .i64 r5] 48 (0, 0)))).cell? ⟨W.heap.size, 8, none⟩ = some (.slice A8 s.f8.length c8) := (blk_cell (show (wr.alloc (.cells #[.string r0, .string r1, .string r2, .string r3, .int .i64 r4, .int .i64 r5] 48 (0, 0))).heap[W.heap.size]? = some (.cells #[.int .i64 s.f0, .int .u64 s.f1, .slice A2 s.f2.length c2, .slice A3 s.f3.length c3, .slice A4 s.f4.length c4, .slice (some ad) s.f5.length c5, .slice A6 s.f6.length c6, .slice A7 s.f7.length c7, .slice A8 s.f8.length c8, .int .i64 s.f9] 31 (0, 0)) by rw [HW3.out]; exact HY3.out) 8).trans rfl
      have p9 : ((wr.alloc (.cells #[.string r0, .string r1, .string r2, .string r3, .int .i64 r4, .int .i64 r5] 48 (0, 0)))).cell? ⟨W.heap.size, 9, none⟩ = some (.int .i64 s.f9) := (blk_cell (show (wr.alloc (.cells #[.string r0, .string r1, .string r2, .string r3, .int .i64 r4, .int .i64 r5] 48 (0, 0))).heap[W.heap.size]? = some (.cells #[.int .i64 s.f0, .int .u64 s.f1, .slice A2 s.f2.length c2, .slice A3 s.f3.length c3, .slice A4 s.f4.length c4, .slice (some ad) s.f5.length c5, .slice A6 s.f6.length c6, .slice A7 s.f7.length c7, .slice A8 s.f8.length c8, .int .i64 s.f9] 31 (0, 0)) by rw [HW3.out]; exact HY3.out) 9).trans rfl
      have x0 : (wr.alloc (.cells #[.string r0, .string r1, .string r2, .string r3, .int .i64 r4, .int .i64 r5] 48 (0, 0))).cell? ⟨wr.heap.size, 0, none⟩ = some (.string r0) := (blk_cell (show (wr.alloc (.cells #[.string r0, .string r1, .string r2, .string r3, .int .i64 r4, .int .i64 r5] 48 (0, 0))).heap[wr.heap.size]? = some (.cells #[.string r0, .string r1, .string r2, .string r3, .int .i64 r4, .int .i64 r5] 48 (0, 0)) by rw [HW3.out]; exact HX3.out) 0).trans rfl
      have x1 : (wr.alloc (.cells #[.string r0, .string r1, .string r2, .string r3, .int .i64 r4, .int .i64 r5] 48 (0, 0))).cell? ⟨wr.heap.size, 1, none⟩ = some (.string r1) := (blk_cell (show (wr.alloc (.cells #[.string r0, .string r1, .string r2, .string r3, .int .i64 r4, .int .i64 r5] 48 (0, 0))).heap[wr.heap.size]? = some (.cells #[.string r0, .string r1, .string r2, .string r3, .int .i64 r4, .int .i64 r5] 48 (0, 0)) by rw [HW3.out]; exact HX3.out) 1).trans rfl
      have x2 : (wr.alloc (.cells #[.string r0, .string r1, .string r2, .string r3, .int .i64 r4, .int .i64 r5] 48 (0, 0))).cell? ⟨wr.heap.size, 2, none⟩ = some (.string r2) := (blk_cell (show (wr.alloc (.cells #[.string r0, .string r1, .string r2, .string r3, .int .i64 r4, .int .i64 r5] 48 (0, 0))).heap[wr.heap.size]? = some (.cells #[.string r0, .string r1, .string r2, .string r3, .int .i64 r4, .int .i64 r5] 48 (0, 0)) by rw [HW3.out]; exact HX3.out) 2).trans rfl
      have x3 : (wr.alloc (.cells #[.string r0, .string r1, .string r2, .string r3, .int .i64 r4, .int .i64 r5] 48 (0, 0))).cell? ⟨wr.heap.size, 3, none⟩ = some (.string r3) := (blk_cell (show (wr.alloc (.cells #[.string r0, .string r1, .string r2, .string r3, .int .i64 r4, .int .i64 r5] 48 (0, 0))).heap[wr.heap.size]? = some (.cells #[.string r0, .string r1, .string r2, .string r3, .int .i64 r4, .int .i64 r5] 48 (0, 0)) by rw [HW3.out]; exact HX3.out) 3).trans rfl
      have x4 : (wr.alloc (.cells #[.string r0, .string r1, .string r2, .string r3, .int .i64 r4, .int .i64 r5] 48 (0, 0))).cell? ⟨wr.heap.size, 4, none⟩ = some (.int .i64 r4) := (blk_cell (show (wr.alloc (.cells #[.string r0, .string r1, .string r2, .string r3, .int .i64 r4, .int .i64 r5] 48 (0, 0))).heap[wr.heap.size]? = some (.cells #[.string r0, .string r1, .string r2, .string r3, .int .i64 r4, .int .i64 r5] 48 (0, 0)) by rw [HW3.out]; exact HX3.out) 4).trans rfl
      have x5 : (wr.alloc (.cells #[.string r0, .string r1, .string r2, .string r3, .int .i64 r4, .int .i64 r5] 48 (0, 0))).cell? ⟨wr.heap.size, 5, none⟩ = some (.int .i64 r5) := (blk_cell (show (wr.alloc (.cells #[.string r0, .string r1, .string r2, .string r3, .int .i64 r4, .int .i64 r5] 48 (0, 0))).heap[wr.heap.size]? = some (.cells #[.string r0, .string r1, .string r2, .string r3, .int .i64 r4, .int .i64 r5] 48 (0, 0)) by rw [HW3.out]; exact HX3.out) 5).trans rfl
      clear hw3
      go_wp2_with fail
      rw [HW3.out]
      refine HCC.out.mono ?_
      rintro e w4 ⟨rfl, hb⟩
      have HBB := Lib.hid (below_tr HB3.out hb)
      have HX4 := Lib.hid ((hb.block wr.heap.size (blk_lt HX3.out)).trans HX3.out)
      have HY4 := Lib.hid ((hb.block W.heap.size (blk_lt HY3.out)).trans HY3.out)
      have HS4 := Lib.hid (HS3.out.below hb)
      clear hb HW3 HCC p0 p1 p2 p3 p4 p5 p6 p7 p8 p9 x0 x1 x2 x3 x4 x5 h0 h1 h2 h3 h4 h5_ q5
      rw [← HCI.out]
      rw [← HCI.out] at HRG
      generalize csI s ⟨r0, r1, r2, r3, r4, r5⟩ = ci at *
      have x0 : w4.cell? ⟨wr.heap.size, 0, none⟩ = some (.string r0) := (blk_cell HX4.out 0).trans rfl
      have x1 : w4.cell? ⟨wr.heap.size, 1, none⟩ = some (.string r1) := (blk_cell HX4.out 1).trans rfl
      have x2 : w4.cell? ⟨wr.heap.size, 2, none⟩ = some (.string r2) := (blk_cell HX4.out 2).trans rfl
      have x3 : w4.cell? ⟨wr.heap.size, 3, none⟩ = some (.string r3) := (blk_cell HX4.out 3).trans rfl
      have x4 : w4.cell? ⟨wr.heap.size, 4, none⟩ = some (.int .i64 r4) := (blk_cell HX4.out 4).trans rfl
      have x5 : w4.cell? ⟨wr.heap.size, 5, none⟩ = some (.int .i64 r5) := (blk_cell HX4.out 5).trans rfl
      by_cases hr5 : r5 = 1
      · have hr5b : (r5 != 1) = false := by rw [hr5]; rfl
        by_cases hci : 0 ≤ ci
        · have hci2 : ¬ ci < 0 := by omega
          have hcib : decide (ci < 0) = false := decide_eq_false hci2
          rw [if_pos ⟨hr5, hci⟩] at HDT
          obtain ⟨q, rfl⟩ : ∃ q : Nat, ci = (q : Int) := ⟨ci.toNat, by omega⟩
          have hql : q < s.f3.length := by have := HRG.out; omega
          have hql2 : (q : Int) < (s.f3.length : Int) := by omega
          obtain ⟨ad3, A9, c9, e, g0, g1, hl9, hC9⟩ := at_T61 HS4.out.g3 (q : Int) (by omega) (by omega)
          simp only [Int.toNat_natCast] at g0 g1
          have hyl := HA.out.miles _ (rd_mem59 hql)
          generalize rd_T61 s.f3 (q : Int) = y at *
          subst e
          have q2 : w4.cell? ⟨W.heap.size, 2, none⟩ = some (.slice A2 s.f2.length c2) := (blk_cell HY4.out 2).trans rfl
          have q3 : w4.cell? ⟨W.heap.size, 3, none⟩ = some (.slice (some ad3) s.f3.length c3) := (blk_cell HY4.out 3).trans rfl
          have HOF := Lib.hid (fun w' (h : Below w4.heap.size w4 w') => Lib.hid (OfR_any s.f2 ⟨r0, r1, r2, r3, r4, r5⟩ y A2 c2 A9 c9 w' (HS4.out.below h).g2 (HS4.out.below h).l2 HA.out.rules (Kd.C_below hC9 h) hl9 hyl))
          have HIN := Lib.hid (fun h => dueL_in (r := ⟨r0, r1, r2, r3, r4, r5⟩) (c := y) HA.out.rules HAC.out h)
          clear hC9 hl9 hyl
          generalize dueL s.f2 ⟨r0, r1, r2, r3, r4, r5⟩ y = v at *
          obtain ⟨t, a, kn⟩ := v
          dsimp only at HDT HIN HOF
          clear hr5
          go_wp2_with fail
          refine WL.start (n := 16) (S := fun w' => Aside0 (Below w4.heap.size w4 w') ∧ w'.cell? ⟨W.heap.size, 2, none⟩ = some (.slice A2 s.f2.length c2) ∧ w'.cell? ⟨W.heap.size, 3, none⟩ = some (.slice (some ad3) s.f3.length c3) ∧ w'.cell? ⟨wr.heap.size, 0, none⟩ = some (.string r0) ∧ w'.cell? ⟨wr.heap.size, 1, none⟩ = some (.string r1) ∧ w'.cell? ⟨wr.heap.size, 2, none⟩ = some (.string r2) ∧ w'.cell? ⟨wr.heap.size, 3, none⟩ = some (.string r3) ∧ w'.cell? ⟨wr.heap.size, 4, none⟩ = some (.int .i64 r4) ∧ w'.cell? ⟨wr.heap.size, 5, none⟩ = some (.int .i64 r5) ∧ w'.cell? (ad3.add (q * 2)) = some (.string y.f0) ∧ w'.cell? ⟨(ad3.add (q * 2)).block, (ad3.add (q * 2)).off + 1, none⟩ = some (.slice A9 y.f1.length c9)) (ds := []) [false, false, false, false, false, false, false, false, false, false, false, false, false, false, false, false] (by kernel_rfl) rfl rfl ⟨⟨below_drew (Below.refl _ _)⟩, q2, q3, x0, x1, x2, x3, x4, x5, g0, g1⟩ (fun hHeld => ?_)
          refine WL.tab tab9_11 (fun HT_ => ?_)
          refine WL.more [0, 3, 5, 1, 2, 4, 6, 7, 8, 9, 10, 11, 12, 13, 14, 15] ?_
          repeat (first
            | (refine WL.off (lb' := ?_) (ys := ?_) rfl rfl (by rfl) ?_ HT_.out ?_ (fun _ _ _ h => h) ?_ ?_; rotate_left 2; (focus dsimp only [List.set_cons_zero, List.set_cons_succ]; rfl); (focus kernel_rfl); (focus dsimp only [List.set_cons_zero, List.set_cons_succ]; rfl))
            | (refine WL.pure (lb' := ?_) (v := ?_) (ys := ?_) rfl rfl (by rfl) ?_ HT_.out ?_ (fun _ _ _ h => h) ?_ ?_ ?_; rotate_left 3; (focus dsimp only [List.set_cons_zero, List.set_cons_succ]; rfl); (focus kernel_rfl); (focus intro w'; go_simp; with_reducible rfl); (focus dsimp only [List.set_cons_zero, List.set_cons_succ]; rfl))
            | (refine WL.take (lb' := ?_) (v := ?_) (ys := ?_) rfl rfl (by rfl) ?_ HT_.out ?_ (fun _ _ _ h => h) hHeld ?_ ?_ ?_; rotate_left 3; (focus dsimp only [List.set_cons_zero, List.set_cons_succ]; rfl); (focus kernel_rfl); (focus rintro w' ⟨s0, s1, s2, s3, s4, s5, s6, s7, s8, s9, s10⟩; go_simp; with_reducible rfl); (focus dsimp only [List.set_cons_zero, List.set_cons_succ]; rfl))
            | (refine WL.one (lb' := ?_) rfl rfl ?_ HT_.out ?_ (by decide) (fun K hK => ?_); rotate_left; (focus dsimp only [List.set_cons_zero, List.set_cons_succ]; rfl); (focus kernel_rfl); first
                | (refine goes_ Tryz.func25 (by kernel_rfl) rfl #[.slice A2 s.f2.length c2, .agg #[.string r0, .string r1, .string r2, .string r3, .int .i64 r4, .int .i64 r5], .agg #[.string y.f0, .slice A9 y.f1.length c9]] (by rfl) rfl rfl (by simp only [List.map_toArray, List.map_cons, List.map_nil]; rfl) ?_; (with_reducible refine ((HOF.out _ hHeld.1.out).out).mono ?_); rintro e w5 ⟨rfl, hb⟩; refine ⟨_, rfl, ?_⟩; refine hK.out _ _ (by have h_ := hHeld.2; refine ⟨⟨below_tr hHeld.1.out hb⟩, ?_⟩; repeat (first | exact below_cell hb h_ | (refine ⟨below_cell hb h_.1, ?_⟩; replace h_ := h_.2))) (fun hHeld => ?_); clear hK K; refine WL.put (ys := ?_) ?_ ?_; rotate_left; (focus dsimp only [List.set_cons_zero, List.set_cons_succ]; rfl))))
          refine WL.done HT_.out (by kernel_rfl) ?_
          have hb5 := hHeld.1.out
          clear hHeld q2 q3 x0 x1 x2 x3 x4 x5 g0 g1
          have HBB := Lib.hid (below_tr HBB.out hb5)
          have HX5 := Lib.hid ((hb5.block wr.heap.size (blk_lt HX4.out)).trans HX4.out)
          have HY5 := Lib.hid ((hb5.block W.heap.size (blk_lt HY4.out)).trans HY4.out)
          have HS5 := Lib.hid (HS4.out.below hb5)
          clear hb5
          have q0 : w5.cell? ⟨W.heap.size, 0, none⟩ = some (.int .i64 s.f0) := (blk_cell HY5.out 0).trans rfl
          cases kn
          · have HOC := Lib.hid (HCN.out (by rw [HCD.out, HDT.out]; rfl))
            clear HCS HCN HCD HDT HIN HOF
            go_wp2
            go_roundw
            case rel => exact ⟨k + 1, ys, by go_num, by omega, ⟨Kd.R_below HR6.out HBB.out⟩, ⟨Kd.R_below HR7.out HBB.out⟩, ⟨by rw [HOC.out]; exact HPS.out⟩, ⟨below_tr HB.out HBB.out⟩⟩
            case measure => simp [intOf]; omega
          · have hin := HIN.out rfl
            have HDS := Lib.hid (show o = some (t, lnD d s ⟨r0, r1, r2, r3, r4, r5⟩ (t, a, true)) by rw [HDT.out]; exact if_pos rfl)
            have HOO := Lib.hid (show oc = if s.f0 < t ∧ t - s.f0 ≤ dy then some (t, lnD d s ⟨r0, r1, r2, r3, r4, r5⟩ (t, a, true)) else none by rw [HCD.out, HDS.out]; rfl)
            have kw : IntKind.i64.wrap (s.f0 + dy) = s.f0 + dy := by rw [IntKind.wrap_i64]; omega
            clear HCD HDT HIN HOF
            by_cases hc1 : s.f0 < t
            · by_cases hc2 : t - s.f0 ≤ dy
              · have HOC := Lib.hid (HCS.out (t, lnD d s ⟨r0, r1, r2, r3, r4, r5⟩ (t, a, true)) (by rw [HOO.out]; exact if_pos ⟨hc1, hc2⟩))
                have c1 : ¬ t ≤ s.f0 := by omega
                have c2 : ¬ s.f0 + dy < t := by omega
                clear HCS HCN HOO HDS hc2
                obtain ⟨m, rfl⟩ : ∃ m : Nat, a = (m : Int) + 1 := ⟨(a - 1).toNat, by omega⟩
                obtain ⟨tn, rfl⟩ : ∃ tn : Nat, t = (tn : Int) := ⟨t.toNat, by omega⟩
                have hm3 : m < 3 := by omega
                have hm3i : (m : Int) < 3 := by omega
                have hwm : IntKind.i64.wrap (m : Int) = (m : Int) := by rw [IntKind.wrap_i64]; omega
                have hds0 : (m : Int) + 1 - 1 = (m : Int) := by omega
                have HTE := Lib.hid (Tell_eq tn (by omega))
                have HLX := Lib.hid (show lnD d s ⟨r0, r1, r2, r3, r4, r5⟩ ((tn : Int), (m : Int) + 1, true) = (if heldP d s.f6 ⟨r0, r1, r2, r3, r4, r5⟩ = true then tellS tn ++ (⟨#[32]⟩ : ByteArray) ++ wordS ((m : Int) + 1) ++ (⟨#[32]⟩ : ByteArray) ++ r0 ++ (⟨#[32, 104, 101, 108, 100]⟩ : ByteArray) else tellS tn ++ (⟨#[32]⟩ : ByteArray) ++ wordS ((m : Int) + 1) ++ (⟨#[32]⟩ : ByteArray) ++ r0) from rfl)
                have hcw : (w5.alloc (.cells #[.string ⟨#[100, 101, 115, 116, 114, 111, 121]⟩, .string ⟨#[114, 101, 118, 105, 101, 119]⟩, .string ⟨#[107, 101, 101, 112]⟩] 9 (0, 0))).drew.cell? ⟨w5.heap.size, m, none⟩ = some (.string (wordS ((m : Int) + 1))) := by
                  have hn : (w5.alloc (.cells #[.string ⟨#[100, 101, 115, 116, 114, 111, 121]⟩, .string ⟨#[114, 101, 118, 105, 101, 119]⟩, .string ⟨#[107, 101, 101, 112]⟩] 9 (0, 0))).drew.heap[w5.heap.size]? = some (.cells #[.string ⟨#[100, 101, 115, 116, 114, 111, 121]⟩, .string ⟨#[114, 101, 118, 105, 101, 119]⟩, .string ⟨#[107, 101, 101, 112]⟩] 9 (0, 0)) := new_blk w5 (.cells #[.string ⟨#[100, 101, 115, 116, 114, 111, 121]⟩, .string ⟨#[114, 101, 118, 105, 101, 119]⟩, .string ⟨#[107, 101, 101, 112]⟩] 9 (0, 0))
                  obtain rfl | rfl | rfl : m = 0 ∨ m = 1 ∨ m = 2 := by omega
                  · exact (blk_cell hn 0).trans rfl
                  · exact (blk_cell hn 1).trans rfl
                  · exact (blk_cell hn 2).trans rfl
                have zt := tellS_size tn
                have zw := wordS_size ((m : Int) + 1)
                generalize tellS tn = tt at *
                generalize wordS ((m : Int) + 1) = ws at *
                generalize lnD d s ⟨r0, r1, r2, r3, r4, r5⟩ ((tn : Int), (m : Int) + 1, true) = LX at *
                have d3_0 : ¬ 9223372036854775807 < tt.size + 1 := by omega
                have d3_1 : ¬ 9223372036854775807 < tt.size + 1 + ws.size := by omega
                have d3_2 : ¬ 9223372036854775807 < tt.size + 1 + ws.size + 1 := by omega
                have d3_3 : ¬ 9223372036854775807 < tt.size + 1 + ws.size + 1 + r0.size := by omega
                have d3_4 : ¬ 9223372036854775807 < tt.size + 1 + ws.size + 1 + r0.size + 5 := by omega
                have x0 : w5.cell? ⟨wr.heap.size, 0, none⟩ = some (.string r0) := (blk_cell HX5.out 0).trans rfl
                go_wp2_with fail
                refine wp_mono (Q := OnN ?A ((w5.alloc (.cells #[.string ⟨#[100, 101, 115, 116, 114, 111, 121]⟩, .string ⟨#[114, 101, 118, 105, 101, 119]⟩, .string ⟨#[107, 101, 101, 112]⟩] 9 (0, 0))).drew)) ?_ ?_
                rotate_left
                · 
                  refine WL.start (n := 14) (S := fun w' => w'.cell? ⟨wr.heap.size, 0, none⟩ = some (.string r0)) (ds := []) [false, false, false, false, false, false, false, false, false, false, false, false, false, false] (by kernel_rfl) rfl rfl (x0) (fun hHeld => ?_)
                  refine WL.tab tab9_13 (fun HT_ => ?_)
                  refine WL.more [0, 4, 5, 10, 11] ?_
                  repeat (first
                    | (refine WL.off (lb' := ?_) (ys := ?_) rfl rfl (by rfl) ?_ HT_.out ?_ (fun _ _ _ h => h) ?_ ?_; rotate_left 2; (focus dsimp only [List.set_cons_zero, List.set_cons_succ]; rfl); (focus kernel_rfl); (focus dsimp only [List.set_cons_zero, List.set_cons_succ]; rfl))
                    | (refine WL.pure (lb' := ?_) (v := ?_) (ys := ?_) rfl rfl (by rfl) ?_ HT_.out ?_ (fun _ _ _ h => h) ?_ ?_ ?_; rotate_left 3; (focus dsimp only [List.set_cons_zero, List.set_cons_succ]; rfl); (focus kernel_rfl); (focus intro w'; go_simp; with_reducible rfl); (focus dsimp only [List.set_cons_zero, List.set_cons_succ]; rfl))
                    | (refine WL.take (lb' := ?_) (v := ?_) (ys := ?_) rfl rfl (by rfl) ?_ HT_.out ?_ (fun _ _ _ h => h) hHeld ?_ ?_ ?_; rotate_left 3; (focus dsimp only [List.set_cons_zero, List.set_cons_succ]; rfl); (focus kernel_rfl); (focus intro w' s0; go_simp; with_reducible rfl); (focus dsimp only [List.set_cons_zero, List.set_cons_succ]; rfl)))
                  refine WL.two (i := 1) (j := 3) (is := []) (js := []) (li := ?_) (lj := ?_) rfl rfl rfl rfl ?_ ?_ HT_.out ?_ (by decide) (by decide) (fun K hK => ?_) (fun K hK => ?_)
                  rotate_left 2
                  (focus dsimp only [List.set_cons_zero, List.set_cons_succ]; rfl)
                  (focus dsimp only [List.set_cons_zero, List.set_cons_succ]; rfl)
                  (focus kernel_rfl)
                  · refine goes_ Tryz.func26 (by kernel_rfl) rfl #[.int .i64 (tn : Nat)] (by rfl) rfl rfl (by simp only [List.map_toArray, List.map_cons, List.map_nil]; rfl) ?_
                    (with_reducible refine (HTE.out _).mono ?_)
                    rintro e w6 ⟨rfl, rfl⟩
                    refine ⟨_, rfl, ?_⟩
                    refine hK.out _ _ hHeld (fun hHeld => ?_)
                    clear hK K
                    refine WL.put (ys := ?_) ?_ ?_
                    rotate_left
                    (focus dsimp only [List.set_cons_zero, List.set_cons_succ]; rfl)
                    refine WL.more [2] ?_
                    repeat (first
                      | (refine WL.off (lb' := ?_) (ys := ?_) rfl rfl (by rfl) ?_ HT_.out ?_ (fun _ _ _ h => h) ?_ ?_; rotate_left 2; (focus dsimp only [List.set_cons_zero, List.set_cons_succ]; rfl); (focus kernel_rfl); (focus dsimp only [List.set_cons_zero, List.set_cons_succ]; rfl))
                      | (refine WL.pure (lb' := ?_) (v := ?_) (ys := ?_) rfl rfl (by rfl) ?_ HT_.out ?_ (fun _ _ _ h => h) ?_ ?_ ?_; rotate_left 3; (focus dsimp only [List.set_cons_zero, List.set_cons_succ]; rfl); (focus kernel_rfl); (focus intro w'; go_simp; with_reducible rfl); (focus dsimp only [List.set_cons_zero, List.set_cons_succ]; rfl))
                      | (refine WL.take (lb' := ?_) (v := ?_) (ys := ?_) rfl rfl (by rfl) ?_ HT_.out ?_ (fun _ _ _ h => h) hHeld ?_ ?_ ?_; rotate_left 3; (focus dsimp only [List.set_cons_zero, List.set_cons_succ]; rfl); (focus kernel_rfl); (focus intro w' s0; go_simp; with_reducible rfl); (focus dsimp only [List.set_cons_zero, List.set_cons_succ]; rfl)))
                    refine WL.more [3] ?_
                    repeat (first
                      | (refine WL.off (lb' := ?_) (ys := ?_) rfl rfl (by rfl) ?_ HT_.out ?_ (fun _ _ _ h => h) ?_ ?_; rotate_left 2; (focus dsimp only [List.set_cons_zero, List.set_cons_succ]; rfl); (focus kernel_rfl); (focus dsimp only [List.set_cons_zero, List.set_cons_succ]; rfl))
                      | (refine WL.pure (lb' := ?_) (v := ?_) (ys := ?_) rfl rfl (by rfl) ?_ HT_.out ?_ (fun _ _ _ h => h) ?_ ?_ ?_; rotate_left 3; (focus dsimp only [List.set_cons_zero, List.set_cons_succ]; rfl); (focus kernel_rfl); (focus intro w'; go_simp; with_reducible rfl); (focus dsimp only [List.set_cons_zero, List.set_cons_succ]; rfl))
                      | (refine WL.take (lb' := ?_) (v := ?_) (ys := ?_) rfl rfl (by rfl) ?_ HT_.out ?_ (fun _ _ _ h => h) hHeld ?_ ?_ ?_; rotate_left 3; (focus dsimp only [List.set_cons_zero, List.set_cons_succ]; rfl); (focus kernel_rfl); (focus intro w' s0; go_simp; with_reducible rfl); (focus dsimp only [List.set_cons_zero, List.set_cons_succ]; rfl))
                      | (refine WL.one (lb' := ?_) rfl rfl ?_ HT_.out ?_ (by decide) (fun K hK => ?_); rotate_left; (focus dsimp only [List.set_cons_zero, List.set_cons_succ]; rfl); (focus kernel_rfl); first
                          | (refine value_ (w1 := ?_) (v := ?_) (by rfl) rfl ?_ ?_; rotate_left 2; (focus go_simp; constructor; rfl; rfl); refine hK.out _ _ (below_cell (below_alloc (Below.refl _ _) _) hHeld) (fun hHeld => ?_); clear hK K; refine WL.put (ys := ?_) ?_ ?_; rotate_left; (focus dsimp only [List.set_cons_zero, List.set_cons_succ]; rfl))))
                    refine WL.more [6] ?_
                    repeat (first
                      | (refine WL.off (lb' := ?_) (ys := ?_) rfl rfl (by rfl) ?_ HT_.out ?_ (fun _ _ _ h => h) ?_ ?_; rotate_left 2; (focus dsimp only [List.set_cons_zero, List.set_cons_succ]; rfl); (focus kernel_rfl); (focus dsimp only [List.set_cons_zero, List.set_cons_succ]; rfl))
                      | (refine WL.pure (lb' := ?_) (v := ?_) (ys := ?_) rfl rfl (by rfl) ?_ HT_.out ?_ (fun _ _ _ h => h) ?_ ?_ ?_; rotate_left 3; (focus dsimp only [List.set_cons_zero, List.set_cons_succ]; rfl); (focus kernel_rfl); (focus intro w'; go_simp; with_reducible rfl); (focus dsimp only [List.set_cons_zero, List.set_cons_succ]; rfl))
                      | (refine WL.take (lb' := ?_) (v := ?_) (ys := ?_) rfl rfl (by rfl) ?_ HT_.out ?_ (fun _ _ _ h => h) hHeld ?_ ?_ ?_; rotate_left 3; (focus dsimp only [List.set_cons_zero, List.set_cons_succ]; rfl); (focus kernel_rfl); (focus intro w' s0; go_simp; with_reducible rfl); (focus dsimp only [List.set_cons_zero, List.set_cons_succ]; rfl)))
                    refine WL.more [7] ?_
                    repeat (first
                      | (refine WL.off (lb' := ?_) (ys := ?_) rfl rfl (by rfl) ?_ HT_.out ?_ (fun _ _ _ h => h) ?_ ?_; rotate_left 2; (focus dsimp only [List.set_cons_zero, List.set_cons_succ]; rfl); (focus kernel_rfl); (focus dsimp only [List.set_cons_zero, List.set_cons_succ]; rfl))
                      | (refine WL.pure (lb' := ?_) (v := ?_) (ys := ?_) rfl rfl (by rfl) ?_ HT_.out ?_ (fun _ _ _ h => h) ?_ ?_ ?_; rotate_left 3; (focus dsimp only [List.set_cons_zero, List.set_cons_succ]; rfl); (focus kernel_rfl); (focus intro w'; go_simp; with_reducible rfl); (focus dsimp only [List.set_cons_zero, List.set_cons_succ]; rfl))
                      | (refine WL.take (lb' := ?_) (v := ?_) (ys := ?_) rfl rfl (by rfl) ?_ HT_.out ?_ (fun _ _ _ h => h) hHeld ?_ ?_ ?_; rotate_left 3; (focus dsimp only [List.set_cons_zero, List.set_cons_succ]; rfl); (focus kernel_rfl); (focus intro w' s0; go_simp; with_reducible rfl); (focus dsimp only [List.set_cons_zero, List.set_cons_succ]; rfl))
                      | (refine WL.one (lb' := ?_) rfl rfl ?_ HT_.out ?_ (by decide) (fun K hK => ?_); rotate_left; (focus dsimp only [List.set_cons_zero, List.set_cons_succ]; rfl); (focus kernel_rfl); first
                          | (refine value_ (w1 := ?_) (v := ?_) (by rfl) rfl ?_ ?_; rotate_left 2; (focus go_simp; constructor; rfl; rfl); refine hK.out _ _ hHeld (fun hHeld => ?_); clear hK K; refine WL.put (ys := ?_) ?_ ?_; rotate_left; (focus dsimp only [List.set_cons_zero, List.set_cons_succ]; rfl))))
                    refine WL.more [8, 9, 12, 13] ?_
                    repeat (first
                      | (refine WL.off (lb' := ?_) (ys := ?_) rfl rfl (by rfl) ?_ HT_.out ?_ (fun _ _ _ h => h) ?_ ?_; rotate_left 2; (focus dsimp only [List.set_cons_zero, List.set_cons_succ]; rfl); (focus kernel_rfl); (focus dsimp only [List.set_cons_zero, List.set_cons_succ]; rfl))
                      | (refine WL.pure (lb' := ?_) (v := ?_) (ys := ?_) rfl rfl (by rfl) ?_ HT_.out ?_ (fun _ _ _ h => h) ?_ ?_ ?_; rotate_left 3; (focus dsimp only [List.set_cons_zero, List.set_cons_succ]; rfl); (focus kernel_rfl); (focus intro w'; go_simp; with_reducible rfl); (focus dsimp only [List.set_cons_zero, List.set_cons_succ]; rfl))
                      | (refine WL.take (lb' := ?_) (v := ?_) (ys := ?_) rfl rfl (by rfl) ?_ HT_.out ?_ (fun _ _ _ h => h) hHeld ?_ ?_ ?_; rotate_left 3; (focus dsimp only [List.set_cons_zero, List.set_cons_succ]; rfl); (focus kernel_rfl); (focus intro w' s0; go_simp; with_reducible rfl); (focus dsimp only [List.set_cons_zero, List.set_cons_succ]; rfl)))
                    refine WL.done HT_.out (by kernel_rfl) ?_
                    exact OnN.mk _ _
                  · refine value_ (w1 := ?_) (v := ?_) (by rfl) rfl ?_ ?_
                    rotate_left 2
                    (focus go_simp; constructor; rfl; rfl)
                    refine hK.out _ _ (below_cell (below_alloc (Below.refl _ _) _) hHeld) (fun hHeld => ?_)
                    clear hK K
                    refine WL.put (ys := ?_) ?_ ?_
                    rotate_left
                    (focus dsimp only [List.set_cons_zero, List.set_cons_succ]; rfl)
                    refine WL.more [6] ?_
                    repeat (first
                      | (refine WL.off (lb' := ?_) (ys := ?_) rfl rfl (by rfl) ?_ HT_.out ?_ (fun _ _ _ h => h) ?_ ?_; rotate_left 2; (focus dsimp only [List.set_cons_zero, List.set_cons_succ]; rfl); (focus kernel_rfl); (focus dsimp only [List.set_cons_zero, List.set_cons_succ]; rfl))
                      | (refine WL.pure (lb' := ?_) (v := ?_) (ys := ?_) rfl rfl (by rfl) ?_ HT_.out ?_ (fun _ _ _ h => h) ?_ ?_ ?_; rotate_left 3; (focus dsimp only [List.set_cons_zero, List.set_cons_succ]; rfl); (focus kernel_rfl); (focus intro w'; go_simp; with_reducible rfl); (focus dsimp only [List.set_cons_zero, List.set_cons_succ]; rfl))
                      | (refine WL.take (lb' := ?_) (v := ?_) (ys := ?_) rfl rfl (by rfl) ?_ HT_.out ?_ (fun _ _ _ h => h) hHeld ?_ ?_ ?_; rotate_left 3; (focus dsimp only [List.set_cons_zero, List.set_cons_succ]; rfl); (focus kernel_rfl); (focus intro w' s0; go_simp; with_reducible rfl); (focus dsimp only [List.set_cons_zero, List.set_cons_succ]; rfl)))
                    refine WL.two (i := 1) (j := 7) (is := []) (js := []) (li := ?_) (lj := ?_) rfl rfl rfl rfl ?_ ?_ HT_.out ?_ (by decide) (by decide) (fun K hK => ?_) (fun K hK => ?_)
                    rotate_left 2
                    (focus dsimp only [List.set_cons_zero, List.set_cons_succ]; rfl)
                    (focus dsimp only [List.set_cons_zero, List.set_cons_succ]; rfl)
                    (focus kernel_rfl)
                    · refine goes_ Tryz.func26 (by kernel_rfl) rfl #[.int .i64 (tn : Nat)] (by rfl) rfl rfl (by simp only [List.map_toArray, List.map_cons, List.map_nil]; rfl) ?_
                      (with_reducible refine (HTE.out _).mono ?_)
                      rintro e w6 ⟨rfl, rfl⟩
                      refine ⟨_, rfl, ?_⟩
                      refine hK.out _ _ hHeld (fun hHeld => ?_)
                      clear hK K
                      refine WL.put (ys := ?_) ?_ ?_
                      rotate_left
                      (focus dsimp only [List.set_cons_zero, List.set_cons_succ]; rfl)
                      refine WL.more [2] ?_
                      repeat (first
                        | (refine WL.off (lb' := ?_) (ys := ?_) rfl rfl (by rfl) ?_ HT_.out ?_ (fun _ _ _ h => h) ?_ ?_; rotate_left 2; (focus dsimp only [List.set_cons_zero, List.set_cons_succ]; rfl); (focus kernel_rfl); (focus dsimp only [List.set_cons_zero, List.set_cons_succ]; rfl))
                        | (refine WL.pure (lb' := ?_) (v := ?_) (ys := ?_) rfl rfl (by rfl) ?_ HT_.out ?_ (fun _ _ _ h => h) ?_ ?_ ?_; rotate_left 3; (focus dsimp only [List.set_cons_zero, List.set_cons_succ]; rfl); (focus kernel_rfl); (focus intro w'; go_simp; with_reducible rfl); (focus dsimp only [List.set_cons_zero, List.set_cons_succ]; rfl))
                        | (refine WL.take (lb' := ?_) (v := ?_) (ys := ?_) rfl rfl (by rfl) ?_ HT_.out ?_ (fun _ _ _ h => h) hHeld ?_ ?_ ?_; rotate_left 3; (focus dsimp only [List.set_cons_zero, List.set_cons_succ]; rfl); (focus kernel_rfl); (focus intro w' s0; go_simp; with_reducible rfl); (focus dsimp only [List.set_cons_zero, List.set_cons_succ]; rfl)))
                      refine WL.more [7] ?_
                      repeat (first
                        | (refine WL.off (lb' := ?_) (ys := ?_) rfl rfl (by rfl) ?_ HT_.out ?_ (fun _ _ _ h => h) ?_ ?_; rotate_left 2; (focus dsimp only [List.set_cons_zero, List.set_cons_succ]; rfl); (focus kernel_rfl); (focus dsimp only [List.set_cons_zero, List.set_cons_succ]; rfl))
                        | (refine WL.pure (lb' := ?_) (v := ?_) (ys := ?_) rfl rfl (by rfl) ?_ HT_.out ?_ (fun _ _ _ h => h) ?_ ?_ ?_; rotate_left 3; (focus dsimp only [List.set_cons_zero, List.set_cons_succ]; rfl); (focus kernel_rfl); (focus intro w'; go_simp; with_reducible rfl); (focus dsimp only [List.set_cons_zero, List.set_cons_succ]; rfl))
                        | (refine WL.take (lb' := ?_) (v := ?_) (ys := ?_) rfl rfl (by rfl) ?_ HT_.out ?_ (fun _ _ _ h => h) hHeld ?_ ?_ ?_; rotate_left 3; (focus dsimp only [List.set_cons_zero, List.set_cons_succ]; rfl); (focus kernel_rfl); (focus intro w' s0; go_simp; with_reducible rfl); (focus dsimp only [List.set_cons_zero, List.set_cons_succ]; rfl))
                        | (refine WL.one (lb' := ?_) rfl rfl ?_ HT_.out ?_ (by decide) (fun K hK => ?_); rotate_left; (focus dsimp only [List.set_cons_zero, List.set_cons_succ]; rfl); (focus kernel_rfl); first
                            | (refine value_ (w1 := ?_) (v := ?_) (by rfl) rfl ?_ ?_; rotate_left 2; (focus go_simp; constructor; rfl; rfl); refine hK.out _ _ hHeld (fun hHeld => ?_); clear hK K; refine WL.put (ys := ?_) ?_ ?_; rotate_left; (focus dsimp only [List.set_cons_zero, List.set_cons_succ]; rfl))))
                      refine WL.more [8, 9, 12, 13] ?_
                      repeat (first
                        | (refine WL.off (lb' := ?_) (ys := ?_) rfl rfl (by rfl) ?_ HT_.out ?_ (fun _ _ _ h => h) ?_ ?_; rotate_left 2; (focus dsimp only [List.set_cons_zero, List.set_cons_succ]; rfl); (focus kernel_rfl); (focus dsimp only [List.set_cons_zero, List.set_cons_succ]; rfl))
                        | (refine WL.pure (lb' := ?_) (v := ?_) (ys := ?_) rfl rfl (by rfl) ?_ HT_.out ?_ (fun _ _ _ h => h) ?_ ?_ ?_; rotate_left 3; (focus dsimp only [List.set_cons_zero, List.set_cons_succ]; rfl); (focus kernel_rfl); (focus intro w'; go_simp; with_reducible rfl); (focus dsimp only [List.set_cons_zero, List.set_cons_succ]; rfl))
                        | (refine WL.take (lb' := ?_) (v := ?_) (ys := ?_) rfl rfl (by rfl) ?_ HT_.out ?_ (fun _ _ _ h => h) hHeld ?_ ?_ ?_; rotate_left 3; (focus dsimp only [List.set_cons_zero, List.set_cons_succ]; rfl); (focus kernel_rfl); (focus intro w' s0; go_simp; with_reducible rfl); (focus dsimp only [List.set_cons_zero, List.set_cons_succ]; rfl)))
                      refine WL.done HT_.out (by kernel_rfl) ?_
                      exact OnN.mk _ _
                    · refine value_ (w1 := ?_) (v := ?_) (by rfl) rfl ?_ ?_
                      rotate_left 2
                      (focus go_simp; constructor; rfl; rfl)
                      refine hK.out _ _ hHeld (fun hHeld => ?_)
                      clear hK K
                      refine WL.put (ys := ?_) ?_ ?_
                      rotate_left
                      (focus dsimp only [List.set_cons_zero, List.set_cons_succ]; rfl)
                      refine WL.more [1] ?_
                      repeat (first
                        | (refine WL.off (lb' := ?_) (ys := ?_) rfl rfl (by rfl) ?_ HT_.out ?_ (fun _ _ _ h => h) ?_ ?_; rotate_left 2; (focus dsimp only [List.set_cons_zero, List.set_cons_succ]; rfl); (focus kernel_rfl); (focus dsimp only [List.set_cons_zero, List.set_cons_succ]; rfl))
                        | (refine WL.pure (lb' := ?_) (v := ?_) (ys := ?_) rfl rfl (by rfl) ?_ HT_.out ?_ (fun _ _ _ h => h) ?_ ?_ ?_; rotate_left 3; (focus dsimp only [List.set_cons_zero, List.set_cons_succ]; rfl); (focus kernel_rfl); (focus intro w'; go_simp; with_reducible rfl); (focus dsimp only [List.set_cons_zero, List.set_cons_succ]; rfl))
                        | (refine WL.take (lb' := ?_) (v := ?_) (ys := ?_) rfl rfl (by rfl) ?_ HT_.out ?_ (fun _ _ _ h => h) hHeld ?_ ?_ ?_; rotate_left 3; (focus dsimp only [List.set_cons_zero, List.set_cons_succ]; rfl); (focus kernel_rfl); (focus intro w' s0; go_simp; with_reducible rfl); (focus dsimp only [List.set_cons_zero, List.set_cons_succ]; rfl))
                        | (refine WL.one (lb' := ?_) rfl rfl ?_ HT_.out ?_ (by decide) (fun K hK => ?_); rotate_left; (focus dsimp only [List.set_cons_zero, List.set_cons_succ]; rfl); (focus kernel_rfl); first
                            | (refine goes_ Tryz.func26 (by kernel_rfl) rfl #[.int .i64 (tn : Nat)] (by rfl) rfl rfl (by simp only [List.map_toArray, List.map_cons, List.map_nil]; rfl) ?_; (with_reducible refine (HTE.out _).mono ?_); rintro e w6 ⟨rfl, rfl⟩; refine ⟨_, rfl, ?_⟩; refine hK.out _ _ hHeld (fun hHeld => ?_); clear hK K; refine WL.put (ys := ?_) ?_ ?_; rotate_left; (focus dsimp only [List.set_cons_zero, List.set_cons_succ]; rfl))))
                      refine WL.more [2] ?_
                      repeat (first
                        | (refine WL.off (lb' := ?_) (ys := ?_) rfl rfl (by rfl) ?_ HT_.out ?_ (fun _ _ _ h => h) ?_ ?_; rotate_left 2; (focus dsimp only [List.set_cons_zero, List.set_cons_succ]; rfl); (focus kernel_rfl); (focus dsimp only [List.set_cons_zero, List.set_cons_succ]; rfl))
                        | (refine WL.pure (lb' := ?_) (v := ?_) (ys := ?_) rfl rfl (by rfl) ?_ HT_.out ?_ (fun _ _ _ h => h) ?_ ?_ ?_; rotate_left 3; (focus dsimp only [List.set_cons_zero, List.set_cons_succ]; rfl); (focus kernel_rfl); (focus intro w'; go_simp; with_reducible rfl); (focus dsimp only [List.set_cons_zero, List.set_cons_succ]; rfl))
                        | (refine WL.take (lb' := ?_) (v := ?_) (ys := ?_) rfl rfl (by rfl) ?_ HT_.out ?_ (fun _ _ _ h => h) hHeld ?_ ?_ ?_; rotate_left 3; (focus dsimp only [List.set_cons_zero, List.set_cons_succ]; rfl); (focus kernel_rfl); (focus intro w' s0; go_simp; with_reducible rfl); (focus dsimp only [List.set_cons_zero, List.set_cons_succ]; rfl)))
                      refine WL.more [8, 9, 12, 13] ?_
                      repeat (first
                        | (refine WL.off (lb' := ?_) (ys := ?_) rfl rfl (by rfl) ?_ HT_.out ?_ (fun _ _ _ h => h) ?_ ?_; rotate_left 2; (focus dsimp only [List.set_cons_zero, List.set_cons_succ]; rfl); (focus kernel_rfl); (focus dsimp only [List.set_cons_zero, List.set_cons_succ]; rfl))
                        | (refine WL.pure (lb' := ?_) (v := ?_) (ys := ?_) rfl rfl (by rfl) ?_ HT_.out ?_ (fun _ _ _ h => h) ?_ ?_ ?_; rotate_left 3; (focus dsimp only [List.set_cons_zero, List.set_cons_succ]; rfl); (focus kernel_rfl); (focus intro w'; go_simp; with_reducible rfl); (focus dsimp only [List.set_cons_zero, List.set_cons_succ]; rfl))
                        | (refine WL.take (lb' := ?_) (v := ?_) (ys := ?_) rfl rfl (by rfl) ?_ HT_.out ?_ (fun _ _ _ h => h) hHeld ?_ ?_ ?_; rotate_left 3; (focus dsimp only [List.set_cons_zero, List.set_cons_succ]; rfl); (focus kernel_rfl); (focus intro w' s0; go_simp; with_reducible rfl); (focus dsimp only [List.set_cons_zero, List.set_cons_succ]; rfl)))
                      refine WL.done HT_.out (by kernel_rfl) ?_
                      exact OnN.mk _ _
                intro _ _ _ hO
                obtain ⟨rfl, rfl, rfl⟩ := hO.out
                clear hO
                clear hcw x0
                obtain ⟨w6, hw6⟩ : ∃ w6, (w5.alloc (.cells #[.string ⟨#[100, 101, 115, 116, 114, 111, 121]⟩, .string ⟨#[114, 101, 118, 105, 101, 119]⟩, .string ⟨#[107, 101, 101, 112]⟩] 9 (0, 0))).drew = w6 := ⟨_, rfl⟩
                have HB6 := Lib.hid (show Below w5.heap.size w5 w6 by rw [← hw6]; exact below_drew (below_alloc (Below.refl _ _) _))
                rw [hw6]
                clear hw6
                have HX6 := Lib.hid ((HB6.out.block wr.heap.size (blk_lt HX5.out)).trans HX5.out)
                have HY6 := Lib.hid ((HB6.out.block W.heap.size (blk_lt HY5.out)).trans HY5.out)
                have HS6 := Lib.hid (HS5.out.below HB6.out)
                have q6 : w6.cell? ⟨W.heap.size, 6, none⟩ = some (.slice A6 s.f6.length c6) := (blk_cell HY6.out 6).trans rfl
                have x0 : w6.cell? ⟨wr.heap.size, 0, none⟩ = some (.string r0) := (blk_cell HX6.out 0).trans rfl
                have x1 : w6.cell? ⟨wr.heap.size, 1, none⟩ = some (.string r1) := (blk_cell HX6.out 1).trans rfl
                have x2 : w6.cell? ⟨wr.heap.size, 2, none⟩ = some (.string r2) := (blk_cell HX6.out 2).trans rfl
                have x3 : w6.cell? ⟨wr.heap.size, 3, none⟩ = some (.string r3) := (blk_cell HX6.out 3).trans rfl
                have x4 : w6.cell? ⟨wr.heap.size, 4, none⟩ = some (.int .i64 r4) := (blk_cell HX6.out 4).trans rfl
                have x5 : w6.cell? ⟨wr.heap.size, 5, none⟩ = some (.int .i64 r5) := (blk_cell HX6.out 5).trans rfl
                have HON := Lib.hid (On_any d s.f6 ⟨r0, r1, r2, r3, r4, r5⟩ A6 c6 w6 HA.out.holds HS6.out.g6 HA.out.few)
                have HLH := Lib.hid (onL_any d s.f6 ⟨r0, r1, r2, r3, r4, r5⟩)
                generalize (onL d s.f6 ⟨r0, r1, r2, r3, r4, r5⟩).length = nh at *
                generalize heldP d s.f6 ⟨r0, r1, r2, r3, r4, r5⟩ = hq at *
                go_wp2_with fail
                refine HON.out.mono ?_
                rintro e w7 ⟨Ah, ch, rfl, hb7⟩
                have HB17 := Lib.hid (below_tr HBB.out (below_tr HB6.out hb7))
                clear hb7 HON HX6 HY6 HS6 HB6 q6 x0 x1 x2 x3 x4 x5
                cases hq
                · have hh : ¬ (0 : Int) < (nh : Int) := by have := of_decide_eq_false HLH.out; omega
                  rw [if_neg (by decide)] at HLX
                  rw [HLX.out] at HOC
                  have HR67 := Lib.hid (Kd.R_below HR6.out HB17.out)
                  have HR77 := Lib.hid (Kd.R_below HR7.out HB17.out)
                  have HB7 := Lib.hid (below_tr HB.out HB17.out)
                  obtain ⟨AV, cV, hv6, hl6, hC6⟩ := Kd.R_reads HR67.out
                  subst hv6
                  clear hl6 hC6
                  rw [List.length_map] at HR67 ⊢
                  have hyl : ys.length ≤ 24 := by have := HPS.out.len; have := HNL.out; omega
                  go_wp2_with (first | ((with_reducible refine gate_builtin (b := .append) (xs := #[.tmp 97, .tmp 99]) rfl ?_); at_builtin; refine Kd.R_append (Kd.int .i64) (w0 := W1_) W1_.heap.size rfl (.tmp 97) (.tmp 99) 29 3 (.int .i64 0) 8 rfl Tryz.underlying29 info3 rfl (by decide) (by omega) (.slice AV ys.length cV) (ys.map (·.t)) (tn : Int) [.int .i64 (tn : Nat)] (fun _ => True) (fun _ => False) rfl rfl rfl (fun _ hk => hk.elim) (fun _ _ => trivial) HR67.out HB7.out HB7.out.size (by rw [List.length_map]; omega) ?_; intro v9 w8 ho hb hg hat; clear hat; have HRX8 := Lib.hid (Kd.R_grown_apart (by rfl) (by decide) HR77.out HR67.out hg); have HRT8 := Lib.hid ho; have HB8 := Lib.hid hb; clear ho hb hg) | ((with_reducible refine gate_builtin (b := .append) (xs := #[.tmp 101, .tmp 103]) rfl ?_); at_builtin; refine Kd.R_append Kd.string (w0 := W1_) W1_.heap.size rfl (.tmp 101) (.tmp 103) 34 9 (.string ⟨#[]⟩) 16 rfl Tryz.underlying34 info9 rfl (by decide) (by omega) u7 (ys.map (·.x)) (tt ++ (⟨#[32]⟩ : ByteArray) ++ ws ++ (⟨#[32]⟩ : ByteArray) ++ r0) [.string (tt ++ (⟨#[32]⟩ : ByteArray) ++ ws ++ (⟨#[32]⟩ : ByteArray) ++ r0)] (fun _ => True) (fun _ => False) rfl rfl rfl (fun _ hk => hk.elim) (fun _ _ => trivial) HRX8.out HB8.out HB8.out.size (by rw [List.length_map]; omega) ?_; intro v10 w9 ho hb hg hat; clear hat; have HRT9 := Lib.hid (Kd.R_grown_apart (by rfl) (by decide) HRT8.out HRX8.out hg); have HRX9 := Lib.hid ho; have HB9 := Lib.hid hb; clear ho hb hg))
                  generalize tt ++ (⟨#[32]⟩ : ByteArray) ++ ws ++ (⟨#[32]⟩ : ByteArray) ++ r0 = X at *
                  obtain ⟨g, cap, hv9, _, _, _⟩ := Kd.R_form HRT9.out (by rw [List.length_append]; exact Nat.succ_pos _)
                  rw [List.length_append, List.length_singleton, List.length_map] at hv9
                  subst hv9
                  obtain ⟨h, caq, hv10, _, _, _⟩ := Kd.R_form HRX9.out (by rw [List.length_append]; exact Nat.succ_pos _)
                  rw [List.length_append, List.length_singleton, List.length_map] at hv10
                  subst hv10
                  obtain ⟨ng, hng⟩ : ∃ ng, (cmL d s dy k).length = ng := ⟨_, rfl⟩
                  have HPUT := Lib.hid (HPS.out.put ((tn : Int), X))
                  rw [hng, ← HOC.out] at HPUT
                  have HNG := Lib.hid hng
                  clear hng
                  generalize wr = wx at *
                  go_loopw [15] (fun v15 wr => ∃ j : Nat, v15 = .int .i64 j ∧ j ≤ ys.length ∧ Aside0 (Kd.R (Kd.int .i64) 3 wr W1_.heap.size (fun _ => True) (.slice (some ⟨g, 0, none⟩) (ys.length + 1) cap) ((ys.take j ++ (⟨(tn : Int), X, ng⟩ : Dt) :: ys.drop j).map (·.t))) ∧ Aside0 (Kd.R Kd.string 9 wr W1_.heap.size (fun _ => True) (.slice (some ⟨h, 0, none⟩) (ys.length + 1) caq) ((ys.take j ++ (⟨(tn : Int), X, ng⟩ : Dt) :: ys.drop j).map (·.x))) ∧ Aside0 (∀ y ∈ ys.drop j, (tn : Int) < y.t) ∧ Aside0 (Below W1_.heap.size W1_ wr)) (fun v15 _ => (intOf v15).toNat)
                  case atStart => exact ⟨ys.length, rfl, Nat.le_refl _, ⟨by rw [putL_end]; exact HRT9.out⟩, ⟨by rw [putL_end]; exact HRX9.out⟩, ⟨by rw [List.drop_length]; exact fun y hy => absurd hy List.not_mem_nil⟩, ⟨HB9.out⟩⟩
                  case round =>
                    obtain ⟨j, rfl, hj, HOT, HOX, HLT, HBJ⟩ := hrel
                    rcases Nat.eq_zero_or_pos j with hj0 | hj0
                    · subst hj0
                      go_wp2_with fail
                      go_quiet (fail)
                      go_wp2
                      go_roundw
                      case rel => exact ⟨k + 1, (ys.take 0 ++ (⟨(tn : Int), X, ng⟩ : Dt) :: ys.drop 0), by go_num, by omega, ⟨Kd.R_drewN HOT.out nq⟩, ⟨Kd.R_drewN HOX.out nq⟩, ⟨HPUT.out 0 (fun y hy => absurd hy (by simp)) HLT.out⟩, ⟨pw_below_drewN HBJ.out nq⟩⟩
                      case measure => simp [intOf]; omega
                    · obtain ⟨i, rfl⟩ : ∃ i, j = i + 1 := ⟨j - 1, by omega⟩
                      have hi : i < ys.length := by omega
                      have hds : ((i + 1 : Nat) : Int) - 1 = (i : Int) := by omega
                      have hgt : (0 : Int) < ((i + 1 : Nat) : Int) := by omega
                      have hp0 : (0 : Int) ≤ (i : Int) + 1 := by omega
                      have hwi : IntKind.i64.wrap (i : Int) = (i : Int) := by rw [IntKind.wrap_i64]; omega
                      have hp1 : (i : Int) < (ys.length : Int) + 1 := by omega
                      have k1 := Kd.R_celln 0 HOT.out (i : Int) (by omega) (by omega)
                      have k2 := Kd.R_celln 0 HOT.out ((i + 1 : Nat) : Int) (by omega) (by omega)
                      have HET1 := Lib.hid (show rdOf (0 : Int) ((ys.take (i + 1) ++ (⟨(tn : Int), X, ng⟩ : Dt) :: ys.drop (i + 1)).map (·.t)) (i : Int) = ys[i].t from putL_one ys _ i hi (·.t) 0)
                      have HET2 := Lib.hid (show rdOf (0 : Int) ((ys.take (i + 1) ++ (⟨(tn : Int), X, ng⟩ : Dt) :: ys.drop (i + 1)).map (·.t)) ((i + 1 : Nat) : Int) = (tn : Int) from putL_two ys _ i hi (·.t) 0)
                      have HEX1 := Lib.hid (show rdOf ByteArray.empty ((ys.take (i + 1) ++ (⟨(tn : Int), X, ng⟩ : Dt) :: ys.drop (i + 1)).map (·.x)) (i : Int) = ys[i].x from putL_one ys _ i hi (·.x) ByteArray.empty)
                      have HEX2 := Lib.hid (show rdOf ByteArray.empty ((ys.take (i + 1) ++ (⟨(tn : Int), X, ng⟩ : Dt) :: ys.drop (i + 1)).map (·.x)) ((i + 1 : Nat) : Int) = X from putL_two ys _ i hi (·.x) ByteArray.empty)
                      have HSWT := Lib.hid (show ((((ys.take (i + 1) ++ (⟨(tn : Int), X, ng⟩ : Dt) :: ys.drop (i + 1)).map (·.t)).set i (tn : Int)).set (i + 1) ys[i].t) = (ys.take i ++ (⟨(tn : Int), X, ng⟩ : Dt) :: ys.drop i).map (·.t) from putL_swap ys _ i hi (·.t))
                      have HSWX := Lib.hid (show ((((ys.take (i + 1) ++ (⟨(tn : Int), X, ng⟩ : Dt) :: ys.drop (i + 1)).map (·.x)).set i X).set (i + 1) ys[i].x) = (ys.take i ++ (⟨(tn : Int), X, ng⟩ : Dt) :: ys.drop i).map (·.x) from putL_swap ys _ i hi (·.x))
                      rw [HET1.out, Int.toNat_natCast] at k1
                      rw [HET2.out, Int.toNat_natCast] at k2
                      obtain ⟨m1, f1⟩ := k1
                      obtain ⟨m2, f2⟩ := k2
                      have HTN := Lib.hid (fun hn : ¬ (tn : Int) < ys[i].t => take_not_later HPS.out.srt i hi tn hn)
                      have HDL := Lib.hid (fun hn : (tn : Int) < ys[i].t => drop_later i hi tn HLT.out hn)
                      generalize ys[i].t = bt at *
                      generalize ys[i].x = bx at *
                      by_cases hq : (tn : Int) < bt
                      · go_wp2_with fail
                        go_quiet (fail)
                        have HON := Lib.hid (Kd.R_drewN HOT.out nq)
                        have HOM := Lib.hid (Kd.R_drewN HOX.out nq)
                        have HBN := Lib.hid (pw_below_drewN HBJ.out nq)
                        go_wp2_with fail
                        clear m1 m2 f1 f2
                        generalize wr.drewN nq = wn at *
                        have HOD := Lib.hid (Kd.R_drew HON.out)
                        have k1 := Kd.R_celln 0 HOD.out (i : Int) (by omega) (by omega)
                        have k2 := Kd.R_celln 0 HOD.out ((i + 1 : Nat) : Int) (by omega) (by omega)
                        rw [HET1.out, Int.toNat_natCast] at k1
                        rw [HET2.out, Int.toNat_natCast] at k2
                        obtain ⟨m1, f1⟩ := k1
                        obtain ⟨m2, f2⟩ := k2
                        have HPT := Lib.hid (Kd.R_putn HOD.out (i : Int) (tn : Int))
                        rw [Int.toNat_natCast] at HPT
                        have k3 := Kd.R_celln 0 HPT.out ((i + 1 : Nat) : Int) (by omega) (by omega)
                        rw [Int.toNat_natCast] at k3
                        have HPE := Lib.hid (Kd.R_putn HPT.out ((i + 1 : Nat) : Int) bt)
                        rw [Int.toNat_natCast, HSWT.out] at HPE
                        obtain ⟨m3, f3⟩ := k3
                        have HGB := Lib.hid (Kd.R_base HON.out g rfl)
                        have n1 : wn.cell? ⟨g, i, none⟩ = some (.int .i64 bt) := m1
                        have n2 : wn.cell? ⟨g, i + 1, none⟩ = some (.int .i64 (tn : Int)) := m2
                        have p1 : wn.frozen? ⟨g, i, none⟩ = false := f1
                        have p2 : wn.frozen? ⟨g, i + 1, none⟩ = false := f2
                        refine WL.start (n := 18) (S := fun w' => w'.cell? ⟨g, i, none⟩ = some (.int .i64 bt) ∧ w'.cell? ⟨g, i + 1, none⟩ = some (.int .i64 (tn : Int))) (ds := [15, 17]) [false, false, false, false, false, false, false, false, false, false, false, false, false, false, false, false, false, false] (by kernel_rfl) rfl rfl ⟨m1, m2⟩ (fun hHeld => ?_)
                        refine WL.tab tab9_19 (fun HT_ => ?_)
                        refine WL.more [0, 1, 2, 3, 4, 5, 6, 7, 9, 10, 11, 12, 8, 13, 14] ?_
                        repeat (first
                          | (refine WL.off (lb' := ?_) (ys := ?_) rfl rfl (by rfl) ?_ HT_.out ?_ (fun _ _ _ h => h) ?_ ?_; rotate_left 2; (focus dsimp only [List.set_cons_zero, List.set_cons_succ]; rfl); (focus kernel_rfl); (focus dsimp only [List.set_cons_zero, List.set_cons_succ]; rfl))
                          | (refine WL.pure (lb' := ?_) (v := ?_) (ys := ?_) rfl rfl (by rfl) ?_ HT_.out ?_ (fun _ _ _ h => h) ?_ ?_ ?_; rotate_left 3; (focus dsimp only [List.set_cons_zero, List.set_cons_succ]; rfl); (focus kernel_rfl); (focus intro w'; go_simp; with_reducible rfl); (focus dsimp only [List.set_cons_zero, List.set_cons_succ]; rfl))
                          | (refine WL.take (lb' := ?_) (v := ?_) (ys := ?_) rfl rfl (by rfl) ?_ HT_.out ?_ (fun _ _ _ h => h) hHeld ?_ ?_ ?_; rotate_left 3; (focus dsimp only [List.set_cons_zero, List.set_cons_succ]; rfl); (focus kernel_rfl); (focus rintro w' ⟨s0, s1⟩; go_simp; with_reducible rfl); (focus dsimp only [List.set_cons_zero, List.set_cons_succ]; rfl)))
                        refine WL.more [15] ?_
                        refine WL.last (lb' := ?_) rfl rfl ?_ HT_.out ?_ (by decide) (fun K hK => ?_); rotate_left; (focus dsimp only [List.set_cons_zero, List.set_cons_succ]; rfl); (focus kernel_rfl)
                        refine skip_ (w1 := ?_) (by rfl) rfl ?_ ?_
                        rotate_left
                        (focus go_simp; rfl)
                        refine hK.out _ _ ?_
                        clear hK K
                        refine WL.more [16] ?_
                        repeat (first
                          | (refine WL.off (lb' := ?_) (ys := ?_) rfl rfl (by rfl) ?_ HT_.out ?_ (fun _ _ _ h => h) ?_ ?_; rotate_left 2; (focus dsimp only [List.set_cons_zero, List.set_cons_succ]; rfl); (focus kernel_rfl); (focus dsimp only [List.set_cons_zero, List.set_cons_succ]; rfl))
                          | (refine WL.pure (lb' := ?_) (v := ?_) (ys := ?_) rfl rfl (by rfl) ?_ HT_.out ?_ (fun _ _ _ h => h) ?_ ?_ ?_; rotate_left 3; (focus dsimp only [List.set_cons_zero, List.set_cons_succ]; rfl); (focus kernel_rfl); (focus intro w'; go_simp; with_reducible rfl); (focus dsimp only [List.set_cons_zero, List.set_cons_succ]; rfl))
                          | (refine WL.take (lb' := ?_) (v := ?_) (ys := ?_) rfl rfl (by rfl) ?_ HT_.out ?_ (fun _ _ _ h => h) hHeld ?_ ?_ ?_; rotate_left 3; (focus dsimp only [List.set_cons_zero, List.set_cons_succ]; rfl); (focus kernel_rfl); (focus rintro w' ⟨s0, s1⟩; go_simp; with_reducible rfl); (focus dsimp only [List.set_cons_zero, List.set_cons_succ]; rfl)))
                        refine WL.more [17] ?_
                        refine WL.last (lb' := ?_) rfl rfl ?_ HT_.out ?_ (by decide) (fun K hK => ?_); rotate_left; (focus dsimp only [List.set_cons_zero, List.set_cons_succ]; rfl); (focus kernel_rfl)
                        refine skip_ (w1 := ?_) (by rfl) rfl ?_ ?_
                        rotate_left
                        (focus go_simp; rfl)
                        refine hK.out _ _ ?_
                        clear hK K
                        refine WL.done HT_.out (by kernel_rfl) ?_
                        clear n1 n2 p1 p2 m1 m2 m3 f1 f2 f3 HOD HPT
                        have HOK := Lib.hid (Kd.R_far_apart (by rfl) (by decide) (Kd.R_far_apart (by rfl) (by decide) (Kd.R_drew HOM.out) (Kd.R_drew HON.out) i (.int .i64 (tn : Nat))) (Kd.R_putn (Kd.R_drew HON.out) (i : Int) (tn : Int)) (i + 1) (.int .i64 bt))
                        have HBO := Lib.hid (show Below W1_.heap.size W1_ ((wn.drew.setCell ⟨g, i, none⟩ (.int .i64 (tn : Nat))).setCell ⟨g, i + 1, none⟩ (.int .i64 bt)) from ((below_drew HBN.out).setCell HGB.out _).setCell HGB.out _)
                        clear HGB
                        go_wp2_with fail
                        obtain ⟨wo, hwo⟩ : ∃ wo, ((wn.setCell ⟨g, i, none⟩ (.int .i64 (tn : Nat))).setCell ⟨g, i + 1, none⟩ (.int .i64 bt)).drew = wo := ⟨_, rfl⟩
                        have HPT3 := Lib.hid (show Kd.R (Kd.int .i64) 3 wo W1_.heap.size (fun _ => True) (.slice (some ⟨g, 0, none⟩) (ys.length + 1) cap) ((ys.take i ++ (⟨(tn : Int), X, ng⟩ : Dt) :: ys.drop i).map (·.t)) by rw [← hwo]; exact HPE.out)
                        have HOK3 := Lib.hid (show Kd.R Kd.string 9 wo W1_.heap.size (fun _ => True) (.slice (some ⟨h, 0, none⟩) (ys.length + 1) caq) ((ys.take (i + 1) ++ (⟨(tn : Int), X, ng⟩ : Dt) :: ys.drop (i + 1)).map (·.x)) by rw [← hwo]; exact HOK.out)
                        have HBO3 := Lib.hid (show Below W1_.heap.size W1_ wo by rw [← hwo]; exact HBO.out)
                        rw [hwo]
                        clear hwo HPE HOK HBO
                        have HOD := Lib.hid (Kd.R_drew HOK3.out)
                        have k1 := Kd.R_celln ByteArray.empty HOD.out (i : Int) (by omega) (by omega)
                        have k2 := Kd.R_celln ByteArray.empty HOD.out ((i + 1 : Nat) : Int) (by omega) (by omega)
                        rw [HEX1.out, Int.toNat_natCast] at k1
                        rw [HEX2.out, Int.toNat_natCast] at k2
                        obtain ⟨m1, f1⟩ := k1
                        obtain ⟨m2, f2⟩ := k2
                        have HPT := Lib.hid (Kd.R_putn HOD.out (i : Int) X)
                        rw [Int.toNat_natCast] at HPT
                        have k3 := Kd.R_celln ByteArray.empty HPT.out ((i + 1 : Nat) : Int) (by omega) (by omega)
                        rw [Int.toNat_natCast] at k3
                        have HPE := Lib.hid (Kd.R_putn HPT.out ((i + 1 : Nat) : Int) bx)
                        rw [Int.toNat_natCast, HSWX.out] at HPE
                        obtain ⟨m3, f3⟩ := k3
                        have HGB := Lib.hid (Kd.R_base HOK3.out h rfl)
                        have n1 : wo.cell? ⟨h, i, none⟩ = some (.string bx) := m1
                        have n2 : wo.cell? ⟨h, i + 1, none⟩ = some (.string X) := m2
                        have p1 : wo.frozen? ⟨h, i, none⟩ = false := f1
                        have p2 : wo.frozen? ⟨h, i + 1, none⟩ = false := f2
                        refine WL.start (n := 18) (S := fun w' => w'.cell? ⟨h, i, none⟩ = some (.string bx) ∧ w'.cell? ⟨h, i + 1, none⟩ = some (.string X)) (ds := [15, 17]) [false, false, false, false, false, false, false, false, false, false, false, false, false, false, false, false, false, false] (by kernel_rfl) rfl rfl ⟨m1, m2⟩ (fun hHeld => ?_)
                        refine WL.tab tab9_20 (fun HT_ => ?_)
                        refine WL.more [0, 1, 2, 3, 4, 5, 6, 7, 9, 10, 11, 12, 8, 13, 14] ?_
                        repeat (first
                          | (refine WL.off (lb' := ?_) (ys := ?_) rfl rfl (by rfl) ?_ HT_.out ?_ (fun _ _ _ h => h) ?_ ?_; rotate_left 2; (focus dsimp only [List.set_cons_zero, List.set_cons_succ]; rfl); (focus kernel_rfl); (focus dsimp only [List.set_cons_zero, List.set_cons_succ]; rfl))
                          | (refine WL.pure (lb' := ?_) (v := ?_) (ys := ?_) rfl rfl (by rfl) ?_ HT_.out ?_ (fun _ _ _ h => h) ?_ ?_ ?_; rotate_left 3; (focus dsimp only [List.set_cons_zero, List.set_cons_succ]; rfl); (focus kernel_rfl); (focus intro w'; go_simp; with_reducible rfl); (focus dsimp only [List.set_cons_zero, List.set_cons_succ]; rfl))
                          | (refine WL.take (lb' := ?_) (v := ?_) (ys := ?_) rfl rfl (by rfl) ?_ HT_.out ?_ (fun _ _ _ h => h) hHeld ?_ ?_ ?_; rotate_left 3; (focus dsimp only [List.set_cons_zero, List.set_cons_succ]; rfl); (focus kernel_rfl); (focus rintro w' ⟨s0, s1⟩; go_simp; with_reducible rfl); (focus dsimp only [List.set_cons_zero, List.set_cons_succ]; rfl)))
                        refine WL.more [15] ?_
                        refine WL.last (lb' := ?_) rfl rfl ?_ HT_.out ?_ (by decide) (fun K hK => ?_); rotate_left; (focus dsimp only [List.set_cons_zero, List.set_cons_succ]; rfl); (focus kernel_rfl)
                        refine skip_ (w1 := ?_) (by rfl) rfl ?_ ?_
                        rotate_left
                        (focus go_simp; rfl)
                        refine hK.out _ _ ?_
                        clear hK K
                        refine WL.more [16] ?_
                        repeat (first
                          | (refine WL.off (lb' := ?_) (ys := ?_) rfl rfl (by rfl) ?_ HT_.out ?_ (fun _ _ _ h => h) ?_ ?_; rotate_left 2; (focus dsimp only [List.set_cons_zero, List.set_cons_succ]; rfl); (focus kernel_rfl); (focus dsimp only [List.set_cons_zero, List.set_cons_succ]; rfl))
                          | (refine WL.pure (lb' := ?_) (v := ?_) (ys := ?_) rfl rfl (by rfl) ?_ HT_.out ?_ (fun _ _ _ h => h) ?_ ?_ ?_; rotate_left 3; (focus dsimp only [List.set_cons_zero, List.set_cons_succ]; rfl); (focus kernel_rfl); (focus intro w'; go_simp; with_reducible rfl); (focus dsimp only [List.set_cons_zero, List.set_cons_succ]; rfl))
                          | (refine WL.take (lb' := ?_) (v := ?_) (ys := ?_) rfl rfl (by rfl) ?_ HT_.out ?_ (fun _ _ _ h => h) hHeld ?_ ?_ ?_; rotate_left 3; (focus dsimp only [List.set_cons_zero, List.set_cons_succ]; rfl); (focus kernel_rfl); (focus rintro w' ⟨s0, s1⟩; go_simp; with_reducible rfl); (focus dsimp only [List.set_cons_zero, List.set_cons_succ]; rfl)))
                        refine WL.more [17] ?_
                        refine WL.last (lb' := ?_) rfl rfl ?_ HT_.out ?_ (by decide) (fun K hK => ?_); rotate_left; (focus dsimp only [List.set_cons_zero, List.set_cons_succ]; rfl); (focus kernel_rfl)
                        refine skip_ (w1 := ?_) (by rfl) rfl ?_ ?_
                        rotate_left
                        (focus go_simp; rfl)
                        refine hK.out _ _ ?_
                        clear hK K
                        refine WL.done HT_.out (by kernel_rfl) ?_
                        clear n1 n2 p1 p2 m1 m2 m3 f1 f2 f3 HOD HPT
                        have HTO := Lib.hid (Kd.R_far_apart (by rfl) (by decide) (Kd.R_far_apart (by rfl) (by decide) (Kd.R_drew HPT3.out) (Kd.R_drew HOK3.out) i (.string X)) (Kd.R_putn (Kd.R_drew HOK3.out) (i : Int) X) (i + 1) (.string bx))
                        have HBR := Lib.hid (show Below W1_.heap.size W1_ ((wo.drew.setCell ⟨h, i, none⟩ (.string X)).setCell ⟨h, i + 1, none⟩ (.string bx)) from ((below_drew HBO3.out).setCell HGB.out _).setCell HGB.out _)
                        clear HGB
                        go_wp2
                        go_roundw
                        case rel => exact ⟨i, by go_num, by omega, ⟨HTO.out⟩, ⟨HPE.out⟩, ⟨HDL.out hq⟩, ⟨HBR.out⟩⟩
                        case measure => simp [intOf]
                      · go_wp2_with fail
                        go_quiet (fail)
                        go_wp2
                        go_roundw
                        case rel => exact ⟨k + 1, (ys.take (i + 1) ++ (⟨(tn : Int), X, ng⟩ : Dt) :: ys.drop (i + 1)), by go_num, by omega, ⟨Kd.R_drewN HOT.out nq⟩, ⟨Kd.R_drewN HOX.out nq⟩, ⟨HPUT.out (i + 1) (HTN.out hq) HLT.out⟩, ⟨pw_below_drewN HBJ.out nq⟩⟩
                        case measure => simp [intOf]; omega
                · have hh : (0 : Int) < (nh : Int) := by have := of_decide_eq_true HLH.out; omega
                  rw [if_pos rfl] at HLX
                  rw [HLX.out] at HOC
                  have HR67 := Lib.hid (Kd.R_below HR6.out HB17.out)
                  have HR77 := Lib.hid (Kd.R_below HR7.out HB17.out)
                  have HB7 := Lib.hid (below_tr HB.out HB17.out)
                  obtain ⟨AV, cV, hv6, hl6, hC6⟩ := Kd.R_reads HR67.out
                  subst hv6
                  clear hl6 hC6
                  rw [List.length_map] at HR67 ⊢
                  have hyl : ys.length ≤ 24 := by have := HPS.out.len; have := HNL.out; omega
                  go_wp2_with (first | ((with_reducible refine gate_builtin (b := .append) (xs := #[.tmp 97, .tmp 99]) rfl ?_); at_builtin; refine Kd.R_append (Kd.int .i64) (w0 := W1_) W1_.heap.size rfl (.tmp 97) (.tmp 99) 29 3 (.int .i64 0) 8 rfl Tryz.underlying29 info3 rfl (by decide) (by omega) (.slice AV ys.length cV) (ys.map (·.t)) (tn : Int) [.int .i64 (tn : Nat)] (fun _ => True) (fun _ => False) rfl rfl rfl (fun _ hk => hk.elim) (fun _ _ => trivial) HR67.out HB7.out HB7.out.size (by rw [List.length_map]; omega) ?_; intro v9 w8 ho hb hg hat; clear hat; have HRX8 := Lib.hid (Kd.R_grown_apart (by rfl) (by decide) HR77.out HR67.out hg); have HRT8 := Lib.hid ho; have HB8 := Lib.hid hb; clear ho hb hg) | ((with_reducible refine gate_builtin (b := .append) (xs := #[.tmp 101, .tmp 103]) rfl ?_); at_builtin; refine Kd.R_append Kd.string (w0 := W1_) W1_.heap.size rfl (.tmp 101) (.tmp 103) 34 9 (.string ⟨#[]⟩) 16 rfl Tryz.underlying34 info9 rfl (by decide) (by omega) u7 (ys.map (·.x)) (tt ++ (⟨#[32]⟩ : ByteArray) ++ ws ++ (⟨#[32]⟩ : ByteArray) ++ r0 ++ (⟨#[32, 104, 101, 108, 100]⟩ : ByteArray)) [.string (tt ++ (⟨#[32]⟩ : ByteArray) ++ ws ++ (⟨#[32]⟩ : ByteArray) ++ r0 ++ (⟨#[32, 104, 101, 108, 100]⟩ : ByteArray))] (fun _ => True) (fun _ => False) rfl rfl rfl (fun _ hk => hk.elim) (fun _ _ => trivial) HRX8.out HB8.out HB8.out.size (by rw [List.length_map]; omega) ?_; intro v10 w9 ho hb hg hat; clear hat; have HRT9 := Lib.hid (Kd.R_grown_apart (by rfl) (by decide) HRT8.out HRX8.out hg); have HRX9 := Lib.hid ho; have HB9 := Lib.hid hb; clear ho hb hg))
                  generalize tt ++ (⟨#[32]⟩ : ByteArray) ++ ws ++ (⟨#[32]⟩ : ByteArray) ++ r0 ++ (⟨#[32, 104, 101, 108, 100]⟩ : ByteArray) = X at *
                  obtain ⟨g, cap, hv9, _, _, _⟩ := Kd.R_form HRT9.out (by rw [List.length_append]; exact Nat.succ_pos _)
                  rw [List.length_append, List.length_singleton, List.length_map] at hv9
                  subst hv9
                  obtain ⟨h, caq, hv10, _, _, _⟩ := Kd.R_form HRX9.out (by rw [List.length_append]; exact Nat.succ_pos _)
                  rw [List.length_append, List.length_singleton, List.length_map] at hv10
                  subst hv10
                  obtain ⟨ng, hng⟩ : ∃ ng, (cmL d s dy k).length = ng := ⟨_, rfl⟩
                  have HPUT := Lib.hid (HPS.out.put ((tn : Int), X))
                  rw [hng, ← HOC.out] at HPUT
                  have HNG := Lib.hid hng
                  clear hng
                  generalize wr = wx at *
                  go_loopw [15] (fun v15 wr => ∃ j : Nat, v15 = .int .i64 j ∧ j ≤ ys.length ∧ Aside0 (Kd.R (Kd.int .i64) 3 wr W1_.heap.size (fun _ => True) (.slice (some ⟨g, 0, none⟩) (ys.length + 1) cap) ((ys.take j ++ (⟨(tn : Int), X, ng⟩ : Dt) :: ys.drop j).map (·.t))) ∧ Aside0 (Kd.R Kd.string 9 wr W1_.heap.size (fun _ => True) (.slice (some ⟨h, 0, none⟩) (ys.length + 1) caq) ((ys.take j ++ (⟨(tn : Int), X, ng⟩ : Dt) :: ys.drop j).map (·.x))) ∧ Aside0 (∀ y ∈ ys.drop j, (tn : Int) < y.t) ∧ Aside0 (Below W1_.heap.size W1_ wr)) (fun v15 _ => (intOf v15).toNat)
                  case atStart => exact ⟨ys.length, rfl, Nat.le_refl _, ⟨by rw [putL_end]; exact HRT9.out⟩, ⟨by rw [putL_end]; exact HRX9.out⟩, ⟨by rw [List.drop_length]; exact fun y hy => absurd hy List.not_mem_nil⟩, ⟨HB9.out⟩⟩
                  case round =>
                    obtain ⟨j, rfl, hj, HOT, HOX, HLT, HBJ⟩ := hrel
                    rcases Nat.eq_zero_or_pos j with hj0 | hj0
                    · subst hj0
                      go_wp2_with fail
                      go_quiet (fail)
                      go_wp2
                      go_roundw
                      case rel => exact ⟨k + 1, (ys.take 0 ++ (⟨(tn : Int), X, ng⟩ : Dt) :: ys.drop 0), by go_num, by omega, ⟨Kd.R_drewN HOT.out nq⟩, ⟨Kd.R_drewN HOX.out nq⟩, ⟨HPUT.out 0 (fun y hy => absurd hy (by simp)) HLT.out⟩, ⟨pw_below_drewN HBJ.out nq⟩⟩
                      case measure => simp [intOf]; omega
                    · obtain ⟨i, rfl⟩ : ∃ i, j = i + 1 := ⟨j - 1, by omega⟩
                      have hi : i < ys.length := by omega
                      have hds : ((i + 1 : Nat) : Int) - 1 = (i : Int) := by omega
                      have hgt : (0 : Int) < ((i + 1 : Nat) : Int) := by omega
                      have hp0 : (0 : Int) ≤ (i : Int) + 1 := by omega
                      have hwi : IntKind.i64.wrap (i : Int) = (i : Int) := by rw [IntKind.wrap_i64]; omega
                      have hp1 : (i : Int) < (ys.length : Int) + 1 := by omega
                      have k1 := Kd.R_celln 0 HOT.out (i : Int) (by omega) (by omega)
                      have k2 := Kd.R_celln 0 HOT.out ((i + 1 : Nat) : Int) (by omega) (by omega)
                      have HET1 := Lib.hid (show rdOf (0 : Int) ((ys.take (i + 1) ++ (⟨(tn : Int), X, ng⟩ : Dt) :: ys.drop (i + 1)).map (·.t)) (i : Int) = ys[i].t from putL_one ys _ i hi (·.t) 0)
                      have HET2 := Lib.hid (show rdOf (0 : Int) ((ys.take (i + 1) ++ (⟨(tn : Int), X, ng⟩ : Dt) :: ys.drop (i + 1)).map (·.t)) ((i + 1 : Nat) : Int) = (tn : Int) from putL_two ys _ i hi (·.t) 0)
                      have HEX1 := Lib.hid (show rdOf ByteArray.empty ((ys.take (i + 1) ++ (⟨(tn : Int), X, ng⟩ : Dt) :: ys.drop (i + 1)).map (·.x)) (i : Int) = ys[i].x from putL_one ys _ i hi (·.x) ByteArray.empty)
                      have HEX2 := Lib.hid (show rdOf ByteArray.empty ((ys.take (i + 1) ++ (⟨(tn : Int), X, ng⟩ : Dt) :: ys.drop (i + 1)).map (·.x)) ((i + 1 : Nat) : Int) = X from putL_two ys _ i hi (·.x) ByteArray.empty)
                      have HSWT := Lib.hid (show ((((ys.take (i + 1) ++ (⟨(tn : Int), X, ng⟩ : Dt) :: ys.drop (i + 1)).map (·.t)).set i (tn : Int)).set (i + 1) ys[i].t) = (ys.take i ++ (⟨(tn : Int), X, ng⟩ : Dt) :: ys.drop i).map (·.t) from putL_swap ys _ i hi (·.t))
                      have HSWX := Lib.hid (show ((((ys.take (i + 1) ++ (⟨(tn : Int), X, ng⟩ : Dt) :: ys.drop (i + 1)).map (·.x)).set i X).set (i + 1) ys[i].x) = (ys.take i ++ (⟨(tn : Int), X, ng⟩ : Dt) :: ys.drop i).map (·.x) from putL_swap ys _ i hi (·.x))
                      rw [HET1.out, Int.toNat_natCast] at k1
                      rw [HET2.out, Int.toNat_natCast] at k2
                      obtain ⟨m1, f1⟩ := k1
                      obtain ⟨m2, f2⟩ := k2
                      have HTN := Lib.hid (fun hn : ¬ (tn : Int) < ys[i].t => take_not_later HPS.out.srt i hi tn hn)
                      have HDL := Lib.hid (fun hn : (tn : Int) < ys[i].t => drop_later i hi tn HLT.out hn)
                      generalize ys[i].t = bt at *
                      generalize ys[i].x = bx at *
                      by_cases hq : (tn : Int) < bt
                      · go_wp2_with fail
                        go_quiet (fail)
                        have HON := Lib.hid (Kd.R_drewN HOT.out nq)
                        have HOM := Lib.hid (Kd.R_drewN HOX.out nq)
                        have HBN := Lib.hid (pw_below_drewN HBJ.out nq)
                        go_wp2_with fail
                        clear m1 m2 f1 f2
                        generalize wr.drewN nq = wn at *
                        have HOD := Lib.hid (Kd.R_drew HON.out)
                        have k1 := Kd.R_celln 0 HOD.out (i : Int) (by omega) (by omega)
                        have k2 := Kd.R_celln 0 HOD.out ((i + 1 : Nat) : Int) (by omega) (by omega)
                        rw [HET1.out, Int.toNat_natCast] at k1
                        rw [HET2.out, Int.toNat_natCast] at k2
                        obtain ⟨m1, f1⟩ := k1
                        obtain ⟨m2, f2⟩ := k2
                        have HPT := Lib.hid (Kd.R_putn HOD.out (i : Int) (tn : Int))
                        rw [Int.toNat_natCast] at HPT
                        have k3 := Kd.R_celln 0 HPT.out ((i + 1 : Nat) : Int) (by omega) (by omega)
                        rw [Int.toNat_natCast] at k3
                        have HPE := Lib.hid (Kd.R_putn HPT.out ((i + 1 : Nat) : Int) bt)
                        rw [Int.toNat_natCast, HSWT.out] at HPE
                        obtain ⟨m3, f3⟩ := k3
                        have HGB := Lib.hid (Kd.R_base HON.out g rfl)
                        have n1 : wn.cell? ⟨g, i, none⟩ = some (.int .i64 bt) := m1
                        have n2 : wn.cell? ⟨g, i + 1, none⟩ = some (.int .i64 (tn : Int)) := m2
                        have p1 : wn.frozen? ⟨g, i, none⟩ = false := f1
                        have p2 : wn.frozen? ⟨g, i + 1, none⟩ = false := f2
                        refine WL.start (n := 18) (S := fun w' => w'.cell? ⟨g, i, none⟩ = some (.int .i64 bt) ∧ w'.cell? ⟨g, i + 1, none⟩ = some (.int .i64 (tn : Int))) (ds := [15, 17]) [false, false, false, false, false, false, false, false, false, false, false, false, false, false, false, false, false, false] (by kernel_rfl) rfl rfl ⟨m1, m2⟩ (fun hHeld => ?_)
                        refine WL.tab tab9_19 (fun HT_ => ?_)
                        refine WL.more [0, 1, 2, 3, 4, 5, 6, 7, 9, 10, 11, 12, 8, 13, 14] ?_
                        repeat (first
                          | (refine WL.off (lb' := ?_) (ys := ?_) rfl rfl (by rfl) ?_ HT_.out ?_ (fun _ _ _ h => h) ?_ ?_; rotate_left 2; (focus dsimp only [List.set_cons_zero, List.set_cons_succ]; rfl); (focus kernel_rfl); (focus dsimp only [List.set_cons_zero, List.set_cons_succ]; rfl))
                          | (refine WL.pure (lb' := ?_) (v := ?_) (ys := ?_) rfl rfl (by rfl) ?_ HT_.out ?_ (fun _ _ _ h => h) ?_ ?_ ?_; rotate_left 3; (focus dsimp only [List.set_cons_zero, List.set_cons_succ]; rfl); (focus kernel_rfl); (focus intro w'; go_simp; with_reducible rfl); (focus dsimp only [List.set_cons_zero, List.set_cons_succ]; rfl))
                          | (refine WL.take (lb' := ?_) (v := ?_) (ys := ?_) rfl rfl (by rfl) ?_ HT_.out ?_ (fun _ _ _ h => h) hHeld ?_ ?_ ?_; rotate_left 3; (focus dsimp only [List.set_cons_zero, List.set_cons_succ]; rfl); (focus kernel_rfl); (focus rintro w' ⟨s0, s1⟩; go_simp; with_reducible rfl); (focus dsimp only [List.set_cons_zero, List.set_cons_succ]; rfl)))
                        refine WL.more [15] ?_
                        refine WL.last (lb' := ?_) rfl rfl ?_ HT_.out ?_ (by decide) (fun K hK => ?_); rotate_left; (focus dsimp only [List.set_cons_zero, List.set_cons_succ]; rfl); (focus kernel_rfl)
                        refine skip_ (w1 := ?_) (by rfl) rfl ?_ ?_
                        rotate_left
                        (focus go_simp; rfl)
                        refine hK.out _ _ ?_
                        clear hK K
                        refine WL.more [16] ?_
                        repeat (first
                          | (refine WL.off (lb' := ?_) (ys := ?_) rfl rfl (by rfl) ?_ HT_.out ?_ (fun _ _ _ h => h) ?_ ?_; rotate_left 2; (focus dsimp only [List.set_cons_zero, List.set_cons_succ]; rfl); (focus kernel_rfl); (focus dsimp only [List.set_cons_zero, List.set_cons_succ]; rfl))
                          | (refine WL.pure (lb' := ?_) (v := ?_) (ys := ?_) rfl rfl (by rfl) ?_ HT_.out ?_ (fun _ _ _ h => h) ?_ ?_ ?_; rotate_left 3; (focus dsimp only [List.set_cons_zero, List.set_cons_succ]; rfl); (focus kernel_rfl); (focus intro w'; go_simp; with_reducible rfl); (focus dsimp only [List.set_cons_zero, List.set_cons_succ]; rfl))
                          | (refine WL.take (lb' := ?_) (v := ?_) (ys := ?_) rfl rfl (by rfl) ?_ HT_.out ?_ (fun _ _ _ h => h) hHeld ?_ ?_ ?_; rotate_left 3; (focus dsimp only [List.set_cons_zero, List.set_cons_succ]; rfl); (focus kernel_rfl); (focus rintro w' ⟨s0, s1⟩; go_simp; with_reducible rfl); (focus dsimp only [List.set_cons_zero, List.set_cons_succ]; rfl)))
                        refine WL.more [17] ?_
                        refine WL.last (lb' := ?_) rfl rfl ?_ HT_.out ?_ (by decide) (fun K hK => ?_); rotate_left; (focus dsimp only [List.set_cons_zero, List.set_cons_succ]; rfl); (focus kernel_rfl)
                        refine skip_ (w1 := ?_) (by rfl) rfl ?_ ?_
                        rotate_left
                        (focus go_simp; rfl)
                        refine hK.out _ _ ?_
                        clear hK K
                        refine WL.done HT_.out (by kernel_rfl) ?_
                        clear n1 n2 p1 p2 m1 m2 m3 f1 f2 f3 HOD HPT
                        have HOK := Lib.hid (Kd.R_far_apart (by rfl) (by decide) (Kd.R_far_apart (by rfl) (by decide) (Kd.R_drew HOM.out) (Kd.R_drew HON.out) i (.int .i64 (tn : Nat))) (Kd.R_putn (Kd.R_drew HON.out) (i : Int) (tn : Int)) (i + 1) (.int .i64 bt))
                        have HBO := Lib.hid (show Below W1_.heap.size W1_ ((wn.drew.setCell ⟨g, i, none⟩ (.int .i64 (tn : Nat))).setCell ⟨g, i + 1, none⟩ (.int .i64 bt)) from ((below_drew HBN.out).setCell HGB.out _).setCell HGB.out _)
                        clear HGB
                        go_wp2_with fail
                        obtain ⟨wo, hwo⟩ : ∃ wo, ((wn.setCell ⟨g, i, none⟩ (.int .i64 (tn : Nat))).setCell ⟨g, i + 1, none⟩ (.int .i64 bt)).drew = wo := ⟨_, rfl⟩
                        have HPT3 := Lib.hid (show Kd.R (Kd.int .i64) 3 wo W1_.heap.size (fun _ => True) (.slice (some ⟨g, 0, none⟩) (ys.length + 1) cap) ((ys.take i ++ (⟨(tn : Int), X, ng⟩ : Dt) :: ys.drop i).map (·.t)) by rw [← hwo]; exact HPE.out)
                        have HOK3 := Lib.hid (show Kd.R Kd.string 9 wo W1_.heap.size (fun _ => True) (.slice (some ⟨h, 0, none⟩) (ys.length + 1) caq) ((ys.take (i + 1) ++ (⟨(tn : Int), X, ng⟩ : Dt) :: ys.drop (i + 1)).map (·.x)) by rw [← hwo]; exact HOK.out)
                        have HBO3 := Lib.hid (show Below W1_.heap.size W1_ wo by rw [← hwo]; exact HBO.out)
                        rw [hwo]
                        clear hwo HPE HOK HBO
                        have HOD := Lib.hid (Kd.R_drew HOK3.out)
                        have k1 := Kd.R_celln ByteArray.empty HOD.out (i : Int) (by omega) (by omega)
                        have k2 := Kd.R_celln ByteArray.empty HOD.out ((i + 1 : Nat) : Int) (by omega) (by omega)
                        rw [HEX1.out, Int.toNat_natCast] at k1
                        rw [HEX2.out, Int.toNat_natCast] at k2
                        obtain ⟨m1, f1⟩ := k1
                        obtain ⟨m2, f2⟩ := k2
                        have HPT := Lib.hid (Kd.R_putn HOD.out (i : Int) X)
                        rw [Int.toNat_natCast] at HPT
                        have k3 := Kd.R_celln ByteArray.empty HPT.out ((i + 1 : Nat) : Int) (by omega) (by omega)
                        rw [Int.toNat_natCast] at k3
                        have HPE := Lib.hid (Kd.R_putn HPT.out ((i + 1 : Nat) : Int) bx)
                        rw [Int.toNat_natCast, HSWX.out] at HPE
                        obtain ⟨m3, f3⟩ := k3
                        have HGB := Lib.hid (Kd.R_base HOK3.out h rfl)
                        have n1 : wo.cell? ⟨h, i, none⟩ = some (.string bx) := m1
                        have n2 : wo.cell? ⟨h, i + 1, none⟩ = some (.string X) := m2
                        have p1 : wo.frozen? ⟨h, i, none⟩ = false := f1
                        have p2 : wo.frozen? ⟨h, i + 1, none⟩ = false := f2
                        refine WL.start (n := 18) (S := fun w' => w'.cell? ⟨h, i, none⟩ = some (.string bx) ∧ w'.cell? ⟨h, i + 1, none⟩ = some (.string X)) (ds := [15, 17]) [false, false, false, false, false, false, false, false, false, false, false, false, false, false, false, false, false, false] (by kernel_rfl) rfl rfl ⟨m1, m2⟩ (fun hHeld => ?_)
                        refine WL.tab tab9_20 (fun HT_ => ?_)
                        refine WL.more [0, 1, 2, 3, 4, 5, 6, 7, 9, 10, 11, 12, 8, 13, 14] ?_
                        repeat (first
                          | (refine WL.off (lb' := ?_) (ys := ?_) rfl rfl (by rfl) ?_ HT_.out ?_ (fun _ _ _ h => h) ?_ ?_; rotate_left 2; (focus dsimp only [List.set_cons_zero, List.set_cons_succ]; rfl); (focus kernel_rfl); (focus dsimp only [List.set_cons_zero, List.set_cons_succ]; rfl))
                          | (refine WL.pure (lb' := ?_) (v := ?_) (ys := ?_) rfl rfl (by rfl) ?_ HT_.out ?_ (fun _ _ _ h => h) ?_ ?_ ?_; rotate_left 3; (focus dsimp only [List.set_cons_zero, List.set_cons_succ]; rfl); (focus kernel_rfl); (focus intro w'; go_simp; with_reducible rfl); (focus dsimp only [List.set_cons_zero, List.set_cons_succ]; rfl))
                          | (refine WL.take (lb' := ?_) (v := ?_) (ys := ?_) rfl rfl (by rfl) ?_ HT_.out ?_ (fun _ _ _ h => h) hHeld ?_ ?_ ?_; rotate_left 3; (focus dsimp only [List.set_cons_zero, List.set_cons_succ]; rfl); (focus kernel_rfl); (focus rintro w' ⟨s0, s1⟩; go_simp; with_reducible rfl); (focus dsimp only [List.set_cons_zero, List.set_cons_succ]; rfl)))
                        refine WL.more [15] ?_
                        refine WL.last (lb' := ?_) rfl rfl ?_ HT_.out ?_ (by decide) (fun K hK => ?_); rotate_left; (focus dsimp only [List.set_cons_zero, List.set_cons_succ]; rfl); (focus kernel_rfl)
                        refine skip_ (w1 := ?_) (by rfl) rfl ?_ ?_
                        rotate_left
                        (focus go_simp; rfl)
                        refine hK.out _ _ ?_
                        clear hK K
                        refine WL.more [16] ?_
                        repeat (first
                          | (refine WL.off (lb' := ?_) (ys := ?_) rfl rfl (by rfl) ?_ HT_.out ?_ (fun _ _ _ h => h) ?_ ?_; rotate_left 2; (focus dsimp only [List.set_cons_zero, List.set_cons_succ]; rfl); (focus kernel_rfl); (focus dsimp only [List.set_cons_zero, List.set_cons_succ]; rfl))
                          | (refine WL.pure (lb' := ?_) (v := ?_) (ys := ?_) rfl rfl (by rfl) ?_ HT_.out ?_ (fun _ _ _ h => h) ?_ ?_ ?_; rotate_left 3; (focus dsimp only [List.set_cons_zero, List.set_cons_succ]; rfl); (focus kernel_rfl); (focus intro w'; go_simp; with_reducible rfl); (focus dsimp only [List.set_cons_zero, List.set_cons_succ]; rfl))
                          | (refine WL.take (lb' := ?_) (v := ?_) (ys := ?_) rfl rfl (by rfl) ?_ HT_.out ?_ (fun _ _ _ h => h) hHeld ?_ ?_ ?_; rotate_left 3; (focus dsimp only [List.set_cons_zero, List.set_cons_succ]; rfl); (focus kernel_rfl); (focus rintro w' ⟨s0, s1⟩; go_simp; with_reducible rfl); (focus dsimp only [List.set_cons_zero, List.set_cons_succ]; rfl)))
                        refine WL.more [17] ?_
                        refine WL.last (lb' := ?_) rfl rfl ?_ HT_.out ?_ (by decide) (fun K hK => ?_); rotate_left; (focus dsimp only [List.set_cons_zero, List.set_cons_succ]; rfl); (focus kernel_rfl)
                        refine skip_ (w1 := ?_) (by rfl) rfl ?_ ?_
                        rotate_left
                        (focus go_simp; rfl)
                        refine hK.out _ _ ?_
                        clear hK K
                        refine WL.done HT_.out (by kernel_rfl) ?_
                        clear n1 n2 p1 p2 m1 m2 m3 f1 f2 f3 HOD HPT
                        have HTO := Lib.hid (Kd.R_far_apart (by rfl) (by decide) (Kd.R_far_apart (by rfl) (by decide) (Kd.R_drew HPT3.out) (Kd.R_drew HOK3.out) i (.string X)) (Kd.R_putn (Kd.R_drew HOK3.out) (i : Int) X) (i + 1) (.string bx))
                        have HBR := Lib.hid (show Below W1_.heap.size W1_ ((wo.drew.setCell ⟨h, i, none⟩ (.string X)).setCell ⟨h, i + 1, none⟩ (.string bx)) from ((below_drew HBO3.out).setCell HGB.out _).setCell HGB.out _)
                        clear HGB
                        go_wp2
                        go_roundw
                        case rel => exact ⟨i, by go_num, by omega, ⟨HTO.out⟩, ⟨HPE.out⟩, ⟨HDL.out hq⟩, ⟨HBR.out⟩⟩
                        case measure => simp [intOf]
                      · go_wp2_with fail
                        go_quiet (fail)
                        go_wp2
                        go_roundw
                        case rel => exact ⟨k + 1, (ys.take (i + 1) ++ (⟨(tn : Int), X, ng⟩ : Dt) :: ys.drop (i + 1)), by go_num, by omega, ⟨Kd.R_drewN HOT.out nq⟩, ⟨Kd.R_drewN HOX.out nq⟩, ⟨HPUT.out (i + 1) (HTN.out hq) HLT.out⟩, ⟨pw_below_drewN HBJ.out nq⟩⟩
                        case measure => simp [intOf]; omega
              · have HOC := Lib.hid (HCN.out (by rw [HOO.out]; exact if_neg (fun h_ => hc2 h_.2)))
                have c1 : ¬ t ≤ s.f0 := by omega
                have c2 : s.f0 + dy < t := by omega
                clear HCS HCN HOO HDS hc2
                go_wp2
                go_roundw
                case rel => exact ⟨k + 1, ys, by go_num, by omega, ⟨Kd.R_below HR6.out HBB.out⟩, ⟨Kd.R_below HR7.out HBB.out⟩, ⟨by rw [HOC.out]; exact HPS.out⟩, ⟨below_tr HB.out HBB.out⟩⟩
                case measure => simp [intOf]; omega
            · have HOC := Lib.hid (HCN.out (by rw [HOO.out]; exact if_neg (fun h_ => hc1 h_.1)))
              have c1 : t ≤ s.f0 := by omega
              clear HCS HCN HOO HDS hc1
              go_wp2
              go_roundw
              case rel => exact ⟨k + 1, ys, by go_num, by omega, ⟨Kd.R_below HR6.out HBB.out⟩, ⟨Kd.R_below HR7.out HBB.out⟩, ⟨by rw [HOC.out]; exact HPS.out⟩, ⟨below_tr HB.out HBB.out⟩⟩
              case measure => simp [intOf]; omega
        · have hci2 : ci < 0 := by omega
          rw [if_neg (fun h_ => hci h_.2)] at HDT
          have HOC := Lib.hid (HCN.out (by rw [HCD.out, HDT.out]; rfl))
          clear hr5 HCS HCN HCD HDT
          go_wp2
          go_roundw
          case rel => exact ⟨k + 1, ys, by go_num, by omega, ⟨Kd.R_below HR6.out HBB.out⟩, ⟨Kd.R_below HR7.out HBB.out⟩, ⟨by rw [HOC.out]; exact HPS.out⟩, ⟨below_tr HB.out HBB.out⟩⟩
          case measure => simp [intOf]; omega
      · have hr5b : (r5 != 1) = true := by simpa using hr5
        rw [if_neg (fun h_ => hr5 h_.1)] at HDT
        have HOC := Lib.hid (HCN.out (by rw [HCD.out, HDT.out]; rfl))
        clear hr5 HCS HCN HCD HDT
        go_wp2
        go_roundw
        case rel => exact ⟨k + 1, ys, by go_num, by omega, ⟨Kd.R_below HR6.out HBB.out⟩, ⟨Kd.R_below HR7.out HBB.out⟩, ⟨by rw [HOC.out]; exact HPS.out⟩, ⟨below_tr HB.out HBB.out⟩⟩
        case measure => simp [intOf]; omega
    · have hk2 : k = s.f5.length := by omega
      subst hk2
      obtain ⟨AR, cR, hvr, hlr, hcr⟩ := Kd.R_reads HR7.out
      subst hvr
      have HML := Lib.hid (show (ys.map (·.x)).length = (cmL d s dy s.f5.length).length by rw [List.length_map, HPS.out.len])
      rw [HML.out] at hlr hcr
      rw [HML.out]
      have HF := Lib.hid (And.intro hlr (And.intro hcr (below_tr HB1.out HB.out)))
      clear hlr hcr
      go_wp2
      go_ret2
      exact ⟨_, HPS.out.mg, AR, cR, rfl, HF.out.1, by rw [HPS.out.out]; exact HF.out.2.1, HF.out.2.2⟩
end Go.Proofs.YtafigkikblpbnaaGreatDoor.PG
namespace Go.Proofs.YtafigkikblpbnaaGreatDoor.PG
open Go.RowKit Go.Proofs.YtafigkikblpbnaaGreatDoorW.PrintWords Go.Proofs.YtafigkikblpbnaaGreatDoorW.PrintLast Go.Proofs.YtafigkikblpbnaaGreatDoorW.PrintMore
set_option linter.unusedVariables false
set_option linter.unusedSimpArgs false
set_option maxRecDepth 100000

/-- A state's lists are short. -/
structure Few (s : S31) : Prop where
  n3 : s.f3.length ≤ 20
  n4 : s.f4.length ≤ 20
  n5 : s.f5.length ≤ 30
  n6 : s.f6.length ≤ 30
  n7 : s.f7.length ≤ 30
  n8 : s.f8.length ≤ 130
set_option maxHeartbeats 2000000 in
theorem Small28 (s : S31) (A2 A3 A4 A5 A6 A7 A8 : Option Addr) (c2 c3 c4 c5 c6 c7 c8 : Nat) (W : World) (hs : Rs W s A2 A3 A4 A5 A6 A7 A8 c2 c3 c4 c5 c6 c7 c8) : Calls Tryz.prog 18 #[.agg #[.int .i64 s.f0, .int .u64 s.f1, .slice A2 s.f2.length c2, .slice A3 s.f3.length c3, .slice A4 s.f4.length c4, .slice A5 s.f5.length c5, .slice A6 s.f6.length c6, .slice A7 s.f7.length c7, .slice A8 s.f8.length c8, .int .i64 s.f9]] W (RBq (Few s) W) := by
  have HB := Lib.hid (show Below W.heap.size W (W.alloc (.cells #[.int .i64 s.f0, .int .u64 s.f1, .slice A2 s.f2.length c2, .slice A3 s.f3.length c3, .slice A4 s.f4.length c4, .slice A5 s.f5.length c5, .slice A6 s.f6.length c6, .slice A7 s.f7.length c7, .slice A8 s.f8.length c8, .int .i64 s.f9] 31 (0, 0))) from below_alloc (Below.refl _ _) _)
  have HY := Lib.hid (new_blk W (.cells #[.int .i64 s.f0, .int .u64 s.f1, .slice A2 s.f2.length c2, .slice A3 s.f3.length c3, .slice A4 s.f4.length c4, .slice A5 s.f5.length c5, .slice A6 s.f6.length c6, .slice A7 s.f7.length c7, .slice A8 s.f8.length c8, .int .i64 s.f9] 31 (0, 0)))
  have HS := Lib.hid (hs.below HB.out)
  have m3 : s.f3.length ≤ 9223372036854775807 := hs.g3.2.1
  have m7 : s.f7.length ≤ 9223372036854775807 := hs.g7.2.1
  clear hs
  go_enter Tryz.func18, Tryz.ntmps18
  go_wp2_with fail
  generalize W.alloc (.cells #[.int .i64 s.f0, .int .u64 s.f1, .slice A2 s.f2.length c2, .slice A3 s.f3.length c3, .slice A4 s.f4.length c4, .slice A5 s.f5.length c5, .slice A6 s.f6.length c6, .slice A7 s.f7.length c7, .slice A8 s.f8.length c8, .int .i64 s.f9] 31 (0, 0)) = W1 at *
  refine (Small17 s.f2 A2 c2 W1 HS.out.g2 HS.out.l2).mono ?_
  rintro e w2 ⟨b, rfl, hb⟩
  have HB2 := Lib.hid (below_tr HB.out hb)
  have HY2 := Lib.hid ((hb.block W.heap.size (blk_lt HY.out)).trans HY.out)
  have HS2 := Lib.hid (HS.out.below hb)
  have q0 : (w2).cell? ⟨W.heap.size, 0, none⟩ = some (.int .i64 s.f0) := (blk_cell HY2.out 0).trans rfl
  have q1 : (w2).cell? ⟨W.heap.size, 1, none⟩ = some (.int .u64 s.f1) := (blk_cell HY2.out 1).trans rfl
  have q2 : (w2).cell? ⟨W.heap.size, 2, none⟩ = some (.slice A2 s.f2.length c2) := (blk_cell HY2.out 2).trans rfl
  have q3 : (w2).cell? ⟨W.heap.size, 3, none⟩ = some (.slice A3 s.f3.length c3) := (blk_cell HY2.out 3).trans rfl
  have q4 : (w2).cell? ⟨W.heap.size, 4, none⟩ = some (.slice A4 s.f4.length c4) := (blk_cell HY2.out 4).trans rfl
  have q5 : (w2).cell? ⟨W.heap.size, 5, none⟩ = some (.slice A5 s.f5.length c5) := (blk_cell HY2.out 5).trans rfl
  have q6 : (w2).cell? ⟨W.heap.size, 6, none⟩ = some (.slice A6 s.f6.length c6) := (blk_cell HY2.out 6).trans rfl
  have q7 : (w2).cell? ⟨W.heap.size, 7, none⟩ = some (.slice A7 s.f7.length c7) := (blk_cell HY2.out 7).trans rfl
  have q8 : (w2).cell? ⟨W.heap.size, 8, none⟩ = some (.slice A8 s.f8.length c8) := (blk_cell HY2.out 8).trans rfl
  have q9 : (w2).cell? ⟨W.heap.size, 9, none⟩ = some (.int .i64 s.f9) := (blk_cell HY2.out 9).trans rfl
  clear hb
  cases b
  · go_wp2
    go_ret
    exact RBq.no HB2.out
  go_wp2_with fail
  refine (Small22 s.f6 A6 c6 w2 HS2.out.g6 HS2.out.l6).mono ?_
  rintro e w3 ⟨b, rfl, hf6, hb⟩
  have HB3 := Lib.hid (below_tr HB2.out hb)
  have HY3 := Lib.hid ((hb.block W.heap.size (blk_lt HY2.out)).trans HY2.out)
  have HS3 := Lib.hid (HS2.out.below hb)
  clear q0 q1 q2 q3 q4 q5 q6 q7 q8 q9
  have q0 : (w3).cell? ⟨W.heap.size, 0, none⟩ = some (.int .i64 s.f0) := (blk_cell HY3.out 0).trans rfl
  have q1 : (w3).cell? ⟨W.heap.size, 1, none⟩ = some (.int .u64 s.f1) := (blk_cell HY3.out 1).trans rfl
  have q2 : (w3).cell? ⟨W.heap.size, 2, none⟩ = some (.slice A2 s.f2.length c2) := (blk_cell HY3.out 2).trans rfl
  have q3 : (w3).cell? ⟨W.heap.size, 3, none⟩ = some (.slice A3 s.f3.length c3) := (blk_cell HY3.out 3).trans rfl
  have q4 : (w3).cell? ⟨W.heap.size, 4, none⟩ = some (.slice A4 s.f4.length c4) := (blk_cell HY3.out 4).trans rfl
  have q5 : (w3).cell? ⟨W.heap.size, 5, none⟩ = some (.slice A5 s.f5.length c5) := (blk_cell HY3.out 5).trans rfl
  have q6 : (w3).cell? ⟨W.heap.size, 6, none⟩ = some (.slice A6 s.f6.length c6) := (blk_cell HY3.out 6).trans rfl
  have q7 : (w3).cell? ⟨W.heap.size, 7, none⟩ = some (.slice A7 s.f7.length c7) := (blk_cell HY3.out 7).trans rfl
  have q8 : (w3).cell? ⟨W.heap.size, 8, none⟩ = some (.slice A8 s.f8.length c8) := (blk_cell HY3.out 8).trans rfl
  have q9 : (w3).cell? ⟨W.heap.size, 9, none⟩ = some (.int .i64 s.f9) := (blk_cell HY3.out 9).trans rfl
  clear hb
  cases b
  · go_wp2
    go_ret
    exact RBq.no HB3.out
  have n6 := hf6 rfl
  go_wp2
  all_goals first
    | (go_ret; exact RBq.no HB3.out)
    | skip
  have HF := Lib.hid (show Few s from ⟨by omega, by omega, by omega, n6, by omega, by omega⟩)
  go_loopw [3] (fun v3 wr => ∃ k : Nat, v3 = .int .i64 k ∧ k ≤ s.f3.length ∧ Aside0 (wr = w3)) (fun v3 _ => s.f3.length - (intOf v3).toNat)
  case atStart => exact ⟨0, rfl, Nat.zero_le _, ⟨rfl⟩⟩
  case round =>
    obtain ⟨k, rfl, hk, HW⟩ := hrel
    obtain rfl := HW.out
    by_cases hlt : k < s.f3.length
    · have hlt2 : (k : Int) < (s.f3.length : Int) := by omega
      obtain ⟨ad, A4_, c4_, e, h0, h1, hl4, hC4⟩ := at_T61 HS3.out.g3 (k : Int) (by omega) (by omega)
      subst e
      simp only [Int.toNat_natCast] at h0 h1
      generalize rd_T61 s.f3 (k : Int) = y at *
      clear hC4 hl4
      go_wp2
      all_goals first
        | (go_ret; exact RBq.no HB3.out)
        | (go_roundw
           case rel => first | exact ⟨k + 1, by go_num, by omega, ⟨by first | rfl | trivial⟩⟩ | exact ⟨k + 1, by go_num, by omega⟩
           case measure => simp [intOf]; omega)
    · go_wp2
      go_loopw [4] (fun v3 wr2 => ∃ k : Nat, v3 = .int .i64 k ∧ k ≤ s.f7.length ∧ Aside0 (wr2 = wr)) (fun v3 _ => s.f7.length - (intOf v3).toNat)
      case atStart => exact ⟨0, rfl, Nat.zero_le _, ⟨rfl⟩⟩
      case round =>
        obtain ⟨k, rfl, hk, HW⟩ := hrel
        obtain rfl := HW.out
        by_cases hlt : k < s.f7.length
        · have hlt2 : (k : Int) < (s.f7.length : Int) := by omega
          obtain ⟨ad, A4_, c4_, e, h0, h1, h2, h3, hl4, hC4⟩ := at_T84 HS3.out.g7 (k : Int) (by omega) (by omega)
          subst e
          simp only [Int.toNat_natCast] at h0 h1 h2 h3
          generalize rd_T84 s.f7 (k : Int) = y at *
          clear hC4 hl4
          go_wp2
          all_goals first
            | (go_ret; exact RBq.no HB3.out)
            | (go_roundw
               case rel => first | exact ⟨k + 1, by go_num, by omega, ⟨by first | rfl | trivial⟩⟩ | exact ⟨k + 1, by go_num, by omega⟩
               case measure => simp [intOf]; omega)
        · go_wp2
          go_ret
          exact RBq.mk (fun _ => HF.out) HB3.out
end Go.Proofs.YtafigkikblpbnaaGreatDoor.PG
