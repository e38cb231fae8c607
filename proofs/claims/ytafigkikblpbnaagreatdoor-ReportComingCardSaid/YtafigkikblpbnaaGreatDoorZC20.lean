/- report.Coming. the dates in order, as a list. Two operations of a region in either order; no condition beyond each theorem its own. -/
import Derived.Test.YtafigkikblpbnaaGreatDoorZC17
import Derived.Test.YtafigkikblpbnaaGreatDoorZC19
namespace Go.Proofs.YtafigkikblpbnaaGreatDoor.PG
open Go.RowKit Go.Proofs.YtafigkikblpbnaaGreatDoorW.PrintWords Go.Proofs.YtafigkikblpbnaaGreatDoorW.PrintLast Go.Proofs.YtafigkikblpbnaaGreatDoorW.PrintMore
set_option linter.unusedVariables false
set_option linter.unusedSimpArgs false
set_option maxRecDepth 100000

theorem info50 : (Tryz.prog.info? 50).map (fun i => (i.zero, i.size, i.bytes)) = some (some (.agg #[.int .i64 0, .string ⟨#[]⟩]), 2, 24) := by kernel_rfl
theorem dtP_in {d : Nat} {s : S31} {r : S48} {p : Int × ByteArray} (hA : Ask d s) (hac : ∀ x ∈ s.f2, 1 ≤ x.f2 ∧ x.f2 ≤ 3) (h : dtP d s r = some p) : 0 ≤ p.1 ∧ p.1 ≤ 1099511627776 := by
  unfold dtP at h
  split at h
  · split at h
    · rename_i h2
      have h3 := (dueL_in (r := r) (c := rd_T61 s.f3 (csI s r)) hA.rules hac h2).1
      have h4 := (Option.some.inj h).symm
      subst h4
      exact h3
    · exact absurd h (by simp)
  · exact absurd h (by simp)
theorem alloc_sz (w : World) (o : Obj) : w.heap.size + 1 = (w.alloc o).heap.size := by show _ = (w.heap.push _).size; rw [Array.size_push]
theorem slice_sz {a b : Nat} (h : a = b) : Value.slice (some ⟨a, 0, none⟩) 1 1 = Value.slice (some ⟨b, 0, none⟩) 1 1 := by rw [h]
/-- A date that comes within the days. -/
def cmD (d : Nat) (s : S31) (dy : Int) (r : S48) : Option (Int × ByteArray) := (dtP d s r).bind fun p => if s.f0 < p.1 ∧ p.1 - s.f0 ≤ dy then some p else none
/-- The dates of the first k records. -/
def cmL (d : Nat) (s : S31) (dy : Int) (k : Nat) : List (Int × ByteArray) := (s.f5.take k).filterMap (cmD d s dy)
theorem cmL_len (d : Nat) (s : S31) (dy : Int) (k : Nat) : (cmL d s dy k).length ≤ s.f5.length := Nat.le_trans (List.length_filterMap_le _ _) (by rw [List.length_take]; exact Nat.min_le_right _ _)
theorem rd48_get {l : List S48} {k : Nat} (h : k < l.length) : rd_T48 l (k : Int) = l[k] := by
  have h2 := rd_mem48 h
  unfold rd_T48
  first | (rw [Int.toNat_natCast, List.getD_eq_getElem?_getD, List.getElem?_eq_getElem h]; rfl) | (unfold rdOf; rw [Int.toNat_natCast, List.getD_eq_getElem?_getD, List.getElem?_eq_getElem h]; rfl)
theorem cmL_none {d : Nat} {s : S31} {dy : Int} {k : Nat} (h : k < s.f5.length) (hc : cmD d s dy (rd_T48 s.f5 (k : Int)) = none) : cmL d s dy (k + 1) = cmL d s dy k := by
  rw [rd48_get h] at hc
  unfold cmL
  rw [List.take_succ_eq_append_getElem h, List.filterMap_append, List.filterMap_cons, hc, List.filterMap_nil, List.append_nil]
theorem cmL_some {d : Nat} {s : S31} {dy : Int} {k : Nat} {p : Int × ByteArray} (h : k < s.f5.length) (hc : cmD d s dy (rd_T48 s.f5 (k : Int)) = some p) : cmL d s dy (k + 1) = cmL d s dy k ++ [p] := by
  rw [rd48_get h] at hc
  unfold cmL
  rw [List.take_succ_eq_append_getElem h, List.filterMap_append, List.filterMap_cons, hc, List.filterMap_nil]
/-- The words of dates. -/
def outL (E : Nat → Dt) (n : Nat) : List ByteArray := (List.range n).map fun j => (E j).x
theorem outL_len (E : Nat → Dt) (n : Nat) : (outL E n).length = n := by unfold outL; rw [List.length_map, List.length_range]
theorem outL_succ (E : Nat → Dt) (n : Nat) : outL E (n + 1) = outL E n ++ [(E n).x] := by unfold outL; rw [List.range_succ, List.map_append]; rfl
/-- It answers the words of the dates in order. -/
def RCm (xs : List (Int × ByteArray)) (W : World) (e : Ending) (w' : World) : Prop := ∃ E, Mg (dl xs) E 0 xs.length ∧ ∃ (A : Option Addr) (c : Nat), e = .returned (.tuple #[.slice A xs.length c, .int .i64 0]) ∧ xs.length ≤ c ∧ Kd.C Kd.string w' A xs.length (outL E xs.length) ∧ Below W.heap.size W w'
set_option maxHeartbeats 8000000 in
/-- report.Coming. -/
theorem ComingP_any (d : Nat) (s : S31) (dy : Int) (h0d : 0 ≤ dy) (h1d : dy ≤ 1048576) (hck : 0 ≤ s.f0 ∧ s.f0 ≤ 1099511627776) (A2 A3 A4 A5 A6 A7 A8 : Option Addr) (c2 c3 c4 c5 c6 c7 c8 : Nat) (W : World) (hs : Rs W s A2 A3 A4 A5 A6 A7 A8 c2 c3 c4 c5 c6 c7 c8) (hA : Ask d s) (hac : ∀ x ∈ s.f2, 1 ≤ x.f2 ∧ x.f2 ≤ 3) (hz : ∀ r ∈ s.f5, r.f0.size ≤ 140737488351232) (h5 : s.f5.length ≤ 24) (ht : Lib.TabIs Tryz.prog W "internal/strconv.uint64pow10" .u64 Lib.pow10Tab) :
    Calls Tryz.prog 8 #[.agg #[.int .i64 s.f0, .int .u64 s.f1, .slice A2 s.f2.length c2, .slice A3 s.f3.length c3, .slice A4 s.f4.length c4, .slice A5 s.f5.length c5, .slice A6 s.f6.length c6, .slice A7 s.f7.length c7, .slice A8 s.f8.length c8, .int .i64 s.f9], .int .i64 dy] W (RCm (cmL d s dy s.f5.length) W) := by
  have HB1 := Lib.hid (show Below W.heap.size W (W.alloc (.cells #[.int .i64 s.f0, .int .u64 s.f1, .slice A2 s.f2.length c2, .slice A3 s.f3.length c3, .slice A4 s.f4.length c4, .slice A5 s.f5.length c5, .slice A6 s.f6.length c6, .slice A7 s.f7.length c7, .slice A8 s.f8.length c8, .int .i64 s.f9] 31 (0, 0))) from below_alloc (Below.refl _ _) _)
  have HY1 := Lib.hid (new_blk W (.cells #[.int .i64 s.f0, .int .u64 s.f1, .slice A2 s.f2.length c2, .slice A3 s.f3.length c3, .slice A4 s.f4.length c4, .slice A5 s.f5.length c5, .slice A6 s.f6.length c6, .slice A7 s.f7.length c7, .slice A8 s.f8.length c8, .int .i64 s.f9] 31 (0, 0)))
  have HS1 := Lib.hid (hs.below HB1.out)
  have HT1 := Lib.hid (tab_below ht HB1.out)
  have HZ1 := Lib.hid (show (W.alloc (.cells #[.int .i64 s.f0, .int .u64 s.f1, .slice A2 s.f2.length c2, .slice A3 s.f3.length c3, .slice A4 s.f4.length c4, .slice A5 s.f5.length c5, .slice A6 s.f6.length c6, .slice A7 s.f7.length c7, .slice A8 s.f8.length c8, .int .i64 s.f9] 31 (0, 0))).heap.size = W.heap.size + 1 by show (W.heap.push _).size = _; rw [Array.size_push])
  have HA := Lib.hid hA
  have HAC := Lib.hid hac
  have HZ := Lib.hid hz
  have h52 : (s.f5.length : Int) ≤ 24 := by omega
  have d1 : ¬ dy < 0 := by omega
  have d2 : ¬ 1048576 < dy := by omega
  have q5 : (W.alloc (.cells #[.int .i64 s.f0, .int .u64 s.f1, .slice A2 s.f2.length c2, .slice A3 s.f3.length c3, .slice A4 s.f4.length c4, .slice A5 s.f5.length c5, .slice A6 s.f6.length c6, .slice A7 s.f7.length c7, .slice A8 s.f8.length c8, .int .i64 s.f9] 31 (0, 0))).cell? ⟨W.heap.size, 5, none⟩ = some (.slice A5 s.f5.length c5) := (blk_cell HY1.out 5).trans rfl
  clear hs hA hac ht hz
  go_enter Tryz.func8, Tryz.ntmps8
  go_wp2
  clear q5
  generalize (W.alloc (.cells #[.int .i64 s.f0, .int .u64 s.f1, .slice A2 s.f2.length c2, .slice A3 s.f3.length c3, .slice A4 s.f4.length c4, .slice A5 s.f5.length c5, .slice A6 s.f6.length c6, .slice A7 s.f7.length c7, .slice A8 s.f8.length c8, .int .i64 s.f9] 31 (0, 0))) = W1_ at *
  have HR0 := Lib.hid (show k50.R 50 W1_ W1_.heap.size (fun _ => True) (.slice none 0 0) (cmL d s dy 0) from Kd.R_nil _ _ _ _ _)
  go_loopw [6, 23] (fun v6 v23 wr => ∃ k : Nat, v23 = .int .i64 k ∧ k ≤ s.f5.length ∧ Aside0 (k50.R 50 wr W1_.heap.size (fun _ => True) v6 (cmL d s dy k)) ∧ Aside0 (Below W1_.heap.size W1_ wr)) (fun _ v23 _ => s.f5.length - (intOf v23).toNat)
  case atStart => exact ⟨0, rfl, Nat.zero_le _, ⟨HR0.out⟩, ⟨Below.refl _ _⟩⟩
  case round =>
    obtain ⟨k, rfl, hk, HR, HB⟩ := hrel
    have HYR := Lib.hid ((HB.out.block W.heap.size (by have := HZ1.out; omega)).trans HY1.out)
    have HBZ := Lib.hid (show Below W1_.heap.size W1_ wr from HB.out)
    have HSR := Lib.hid (HS1.out.below HBZ.out)
    have HTR := Lib.hid (tab_below HT1.out HBZ.out)
    have HNL := Lib.hid (Nat.le_trans (cmL_len d s dy k) h5)
    by_cases hlt : k < s.f5.length
    · have hlt2 : (k : Int) < (s.f5.length : Int) := by omega
      obtain ⟨ad, e, h0, h1, h2, h3, h4, h5_⟩ := at_T48 HSR.out.g5 (k : Int) (by omega) (by omega)
      simp only [Int.toNat_natCast] at h0 h1 h2 h3 h4 h5_
      have hzz := (HZ.out _ (rd_mem48 hlt))
      have HCN := Lib.hid (cmL_none (d := d) (dy := dy) hlt)
      have HCS := Lib.hid (fun p => cmL_some (d := d) (dy := dy) (p := p) hlt)
      obtain ⟨y, hy⟩ : ∃ y, rd_T48 s.f5 (k : Int) = y := ⟨_, rfl⟩
      rw [hy] at h0 h1 h2 h3 h4 h5_ hzz HCN HCS
      clear hy
      obtain ⟨r0, r1, r2, r3, r4, r5⟩ := y
      dsimp only at h0 h1 h2 h3 h4 h5_ hzz
      subst e
      obtain ⟨w3, hw3⟩ : ∃ w3, wr.alloc (.cells #[.string r0, .string r1, .string r2, .string r3, .int .i64 r4, .int .i64 r5] 48 (0, 0)) = w3 := ⟨_, rfl⟩
      have HB3 := Lib.hid (show Below wr.heap.size wr w3 by rw [← hw3]; exact below_alloc (Below.refl _ _) _)
      have HX3 := Lib.hid (show w3.heap[wr.heap.size]? = some (.cells #[.string r0, .string r1, .string r2, .string r3, .int .i64 r4, .int .i64 r5] 48 (0, 0)) by rw [← hw3]; exact new_blk wr _)
      have HY3 := Lib.hid ((HB3.out.block W.heap.size (blk_lt HYR.out)).trans HYR.out)
      have HDT := Lib.hid (show Calls Tryz.prog 20 #[.agg #[.int .i64 s.f0, .int .u64 s.f1, .slice A2 s.f2.length c2, .slice A3 s.f3.length c3, .slice A4 s.f4.length c4, .slice (some ad) s.f5.length c5, .slice A6 s.f6.length c6, .slice A7 s.f7.length c7, .slice A8 s.f8.length c8, .int .i64 s.f9], .agg #[.string r0, .string r1, .string r2, .string r3, .int .i64 r4, .int .i64 r5]] w3 (RDt (dtP d s ⟨r0, r1, r2, r3, r4, r5⟩) w3) from dateOf_any d s ⟨r0, r1, r2, r3, r4, r5⟩ A2 A3 A4 (some ad) A6 A7 A8 c2 c3 c4 c5 c6 c7 c8 w3 (HSR.out.below HB3.out) HA.out HAC.out hzz (tab_below HTR.out HB3.out))
      have HIN := Lib.hid (fun p => dtP_in (d := d) (s := s) (r := ⟨r0, r1, r2, r3, r4, r5⟩) (p := p) HA.out HAC.out)
      have HCD := Lib.hid (show cmD d s dy ⟨r0, r1, r2, r3, r4, r5⟩ = (dtP d s ⟨r0, r1, r2, r3, r4, r5⟩).bind fun p => if s.f0 < p.1 ∧ p.1 - s.f0 ≤ dy then some p else none from rfl)
      generalize dtP d s ⟨r0, r1, r2, r3, r4, r5⟩ = o at *
      generalize cmD d s dy ⟨r0, r1, r2, r3, r4, r5⟩ = oc at *
      have HW3 := Lib.hid hw3
      have q5 : wr.cell? ⟨W.heap.size, 5, none⟩ = some (.slice (some ad) s.f5.length c5) := (blk_cell HYR.out 5).trans rfl
      have p0 : ((wr.alloc (.cells #[.string r0, .string r1, .string r2, .string r3, .int .i64 r4, .int .i64 r5] 48 (0, 0)))).cell? ⟨W.heap.size, 0, none⟩ = some (.int .i64 s.f0) := (blk_cell (show (wr.alloc (.cells #[.string r0, .string r1, .string r2, .string r3, .int .i64 r4, .int .i64 r5] 48 (0, 0))).heap[W.heap.size]? = some (.cells #[.int .i64 s.f0, .int .u64 s.f1, .slice A2 s.f2.length c2, .slice A3 s.f3.length c3, .slice A4 s.f4.length c4, .slice (some ad) s.f5.length c5, .slice A6 s.f6.length c6, .slice A7 s.f7.length c7, .slice A8 s.f8.length c8, .int .i64 s.f9] 31 (0, 0)) by rw [HW3.out]; exact HY3.out) 0).trans rfl
      have p1 : ((wr.alloc (.cells #[.string r0, .string r1, .string r2, .string r3, .int .i64 r4, .int .i64 r5] 48 (0, 0)))).cell? ⟨W.heap.size, 1, none⟩ = some (.int .u64 s.f1) := (blk_cell (show (wr.alloc (.cells #[.string r0, .string r1, .string r2, .string r3, .int .i64 r4, .int .i64 r5] 48 (0, 0))).heap[W.heap.size]? = some (.cells #[.int .i64 s.f0, .int .u64 s.f1, .slice A2 s.f2.length c2, .slice A3 s.f3.length c3, .slice A4 s.f4.length c4, .slice (some ad) s.f5.length c5, .slice A6 s.f6.length c6, .slice A7 s.f7.length c7, .slice A8 s.f8.length c8, .int .i64 s.f9] 31 (0, 0)) by rw [HW3.out]; exact HY3.out) 1).trans rfl
      have p2 : ((wr.alloc (.cells #[.string r0, .string r1, .string r2, .string r3, .int .i64 r4, .int .i64 r5] 48 (0, 0)))).cell? ⟨W.heap.size, 2, none⟩ = some (.slice A2 s.f2.length c2) := (blk_cell (show (wr.alloc (.cells #[.string r0, .string r1, .string r2, .string r3, .int .i64 r4, .int .i64 r5] 48 (0, 0))).heap[W.heap.size]? = some (.cells #[.int .i64 s.f0, .int .u64 s.f1, .slice A2 s.f2.length c2, .slice A3 s.f3.length c3, .slice A4 s.f4.length c4, .slice (some ad) s.f5.length c5, .slice A6 s.f6.length c6, .slice A7 s.f7.length c7, .slice A8 s.f8.length c8, .int .i64 s.f9] 31 (0, 0)) by rw [HW3.out]; exact HY3.out) 2).trans rfl
      have p3 : ((wr.alloc (.cells #[.string r0, .string r1, .string r2, .string r3, .int .i64 r4, .int .i64 r5] 48 (0, 0)))).cell? ⟨W.heap.size, 3, none⟩ = some (.slice A3 s.f3.length c3) := (blk_cell (show (wr.alloc (.cells #[.string r0, .string r1, .string r2, .string r3, .int .i64 r4, .int .i64 r5] 48 (0, 0))).heap[W.heap.size]? = some (.cells #[.int .i64 s.f0, .int .u64 s.f1, .slice A2 s.f2.length c2, .slice A3 s.f3.length c3, .slice A4 s.f4.length c4, .slice (some ad) s.f5.length c5, .slice A6 s.f6.length c6, .slice A7 s.f7.length c7, .slice A8 s.f8.length c8, .int .i64 s.f9] 31 (0, 0)) by rw [HW3.out]; exact HY3.out) 3).trans rfl
      have p4 : ((wr.alloc (.cells #[.string r0, .string r1, .string r2, .string r3, .int .i64 r4, .int .i64 r5] 48 (0, 0)))).cell? ⟨W.heap.size, 4, none⟩ = some (.slice A4 s.f4.length c4) := (blk_cell (show (wr.alloc (.cells #[.string r0, .string r1, .string r2, .string r3, .int .i64 r4, .int .i64 r5] 48 (0, 0))).heap[W.heap.size]? = some (.cells #[.int .i64 s.f0, .int .u64 s.f1, .slice A2 s.f2.length c2, .slice A3 s.f3.length c3, .slice A4 s.f4.length c4, .slice (some ad) s.f5.length c5, .slice A6 s.f6.length c6, .slice A7 s.f7.length c7, .slice A8 s.f8.length c8, .int .i64 s.f9] 31 (0, 0)) by rw [HW3.out]; exact HY3.out) 4).trans rfl
      have p5 : ((wr.alloc (.cells #[.string r0, .string r1, .string r2, .string r3, .int .i64 r4, .int .i64 r5] 48 (0, 0)))).cell? ⟨W.heap.size, 5, none⟩ = some (.slice (some ad) s.f5.length c5) := (blk_cell (show (wr.alloc (.cells #[.string r0, .string r1, .string r2, .string r3, .int .i64 r4, .int .i64 r5] 48 (0, 0))).heap[W.heap.size]? = some (.cells #[.int .i64 s.f0, .int .u64 s.f1, .slice A2 s.f2.length c2, .slice A3 s.f3.length c3, .slice A4 s.f4.length c4, .slice (some ad) s.f5.length c5, .slice A6 s.f6.length c6, .slice A7 s.f7.length c7, .slice A8 s.f8.length c8, .int .i64 s.f9] 31 (0, 0)) by rw [HW3.out]; exact HY3.out) 5).trans rfl
      have p6 : ((wr.alloc (.cells #[.string r0, .string r1, .string r2, .string r3, .int .i64 r4, .int .i64 r5] 48 (0, 0)))).cell? ⟨W.heap.size, 6, none⟩ = some (.slice A6 s.f6.length c6) := (blk_cell (show (wr.alloc (.cells #[.string r0, .string r1, .string r2, .string r3, .int .i64 r4, .int .i64 r5] 48 (0, 0))).heap[W.heap.size]? = some (.cells #[.int .i64 s.f0, .int .u64 s.f1, .slice A2 s.f2.length c2, .slice A3 s.f3.length c3, .slice A4 s.f4.length c4, .slice (some ad) s.f5.length c5, .slice A6 s.f6.length c6, .slice A7 s.f7.length c7, .slice A8 s.f8.length c8, .int .i64 s.f9] 31 (0, 0)) by rw [HW3.out]; exact HY3.out) 6).trans rfl
      have p7 : ((wr.alloc (.cells #[.string r0, .string r1, .string r2, .string r3, .int .i64 r4, .int .i64 r5] 48 (0, 0)))).cell? ⟨W.heap.size, 7, none⟩ = some (.slice A7 s.f7.length c7) := (blk_cell (show (wr.alloc (.cells #[.string r0, .string r1, .string r2, .string r3, .int .i64 r4, .int .i64 r5] 48 (0, 0))).heap[W.heap.size]? = some (.cells #[.int .i64 s.f0, .int .u64 s.f1, .slice A2 s.f2.length c2, .slice A3 s.f3.length c3, .slice A4 s.f4.length c4, .slice (some ad) s.f5.length c5, .slice A6 s.f6.length c6, .slice A7 s.f7.length c7, .slice A8 s.f8.length c8, .int .i64 s.f9] 31 (0, 0)) by rw [HW3.out]; exact HY3.out) 7).trans rfl
      have p8 : ((wr.alloc (.cells #[.string r0, .string r1, .string r2, .string r3, .int .i64 r4, .int .i64 r5] 48 (0, 0)))).cell? ⟨W.heap.size, 8, none⟩ = some (.slice A8 s.f8.length c8) := (blk_cell (show (wr.alloc (.cells #[.string r0, .string r1, .string r2, .string r3, .int .i64 r4, .int .i64 r5] 48 (0, 0))).heap[W.heap.size]? = some (.cells #[.int .i64 s.f0, .int .u64 s.f1, .slice A2 s.f2.length c2, .slice A3 s.f3.length c3, .slice A4 s.f4.length c4, .slice (some ad) s.f5.length c5, .slice A6 s.f6.length c6, .slice A7 s.f7.length c7, .slice A8 s.f8.length c8, .int .i64 s.f9] 31 (0, 0)) by rw [HW3.out]; exact HY3.out) 8).trans rfl
      have p9 : ((wr.alloc (.cells #[.string r0, .string r1, .string r2, .string r3, .int .i64 r4, .int .i64 r5] 48 (0, 0)))).cell? ⟨W.heap.size, 9, none⟩ = some (.int .i64 s.f9) := (blk_cell (show (wr.alloc (.cells #[.string r0, .string r1, .string r2, .string r3, .int .i64 r4, .int .i64 r5] 48 (0, 0))).heap[W.heap.size]? = some (.cells #[.int .i64 s.f0, .int .u64 s.f1, .slice A2 s.f2.length c2, .slice A3 s.f3.length c3, .slice A4 s.f4.length c4, .slice (some ad) s.f5.length c5, .slice A6 s.f6.length c6, .slice A7 s.f7.length c7, .slice A8 s.f8.length c8, .int .i64 s.f9] 31 (0, 0)) by rw [HW3.out]; exact HY3.out) 9).trans rfl
      have x0 : (wr.alloc (.cells #[.string r0, .string r1, .string r2, .string r3, .int .i64 r4, .int .i64 r5] 48 (0, 0))).cell? ⟨wr.heap.size, 0, none⟩ = some (.string r0) := (blk_cell (show (wr.alloc (.cells #[.string r0, .string r1, .string r2, .string r3, .int .i64 r4, .int .i64 r5] 48 (0, 0))).heap[wr.heap.size]? = some (.cells #[.string r0, .string r1, .string r2, .string r3, .int .i64 r4, .int .i64 r5] 48 (0, 0)) by rw [HW3.out]; exact HX3.out) 0).trans rfl
      have x1 : (wr.alloc (.cells #[.string r0, .string r1, .string r2, .string r3, .int .i64 r4, .int .i64 r5] 48 (0, 0))).cell? ⟨wr.heap.size, 1, none⟩ = some (.string r1) := (blk_cell (show (wr.alloc (.cells #[.string r0, .string r1, .string r2, .string r3, .int .i64 r4, .int .i64 r5] 48 (0, 0))).heap[wr.heap.size]? = some (.cells #[.string r0, .string r1, .string r2, .string r3, .int .i64 r4, .int .i64 r5] 48 (0, 0)) by rw [HW3.out]; exact HX3.out) 1).trans rfl
      have x2 : (wr.alloc (.cells #[.string r0, .string r1, .string r2, .string r3, .int .i64 r4, .int .i64 r5] 48 (0, 0))).cell? ⟨wr.heap.size, 2, none⟩ = some (.string r2) := (blk_cell (show (wr.alloc (.cells #[.string r0, .string r1, .string r2, .string r3, .int .i64 r4, .int .i64 r5] 48 (0, 0))).heap[wr.heap.size]? = some (.cells #[.string r0, .string r1, .string r2, .string r3, .int .i64 r4, .int .i64 r5] 48 (0, 0)) by rw [HW3.out]; exact HX3.out) 2).trans rfl
      have x3 : (wr.alloc (.cells #[.string r0, .string r1, .string r2, .string r3, .int .i64 r4, .int .i64 r5] 48 (0, 0))).cell? ⟨wr.heap.size, 3, none⟩ = some (.string r3) := (blk_cell (show (wr.alloc (.cells #[.string r0, .string r1, .string r2, .string r3, .int .i64 r4, .int .i64 r5] 48 (0, 0))).heap[wr.heap.size]? = some (.cells #[.string r0, .string r1, .string r2, .string r3, .int .i64 r4, .int .i64 r5] 48 (0, 0)) by rw [HW3.out]; exact HX3.out) 3).trans rfl
      have x4 : (wr.alloc (.cells #[.string r0, .string r1, .string r2, .string r3, .int .i64 r4, .int .i64 r5] 48 (0, 0))).cell? ⟨wr.heap.size, 4, none⟩ = some (.int .i64 r4) := (blk_cell (show (wr.alloc (.cells #[.string r0, .string r1, .string r2, .string r3, .int .i64 r4, .int .i64 r5] 48 (0, 0))).heap[wr.heap.size]? = some (.cells #[.string r0, .string r1, .string r2, .string r3, .int .i64 r4, .int .i64 r5] 48 (0, 0)) by rw [HW3.out]; exact HX3.out) 4).trans rfl
      have x5 : (wr.alloc (.cells #[.string r0, .string r1, .string r2, .string r3, .int .i64 r4, .int .i64 r5] 48 (0, 0))).cell? ⟨wr.heap.size, 5, none⟩ = some (.int .i64 r5) := (blk_cell (show (wr.alloc (.cells #[.string r0, .string r1, .string r2, .string r3, .int .i64 r4, .int .i64 r5] 48 (0, 0))).heap[wr.heap.size]? = some (.cells #[.string r0, .string r1, .string r2, .string r3, .int .i64 r4, .int .i64 r5] 48 (0, 0)) by rw [HW3.out]; exact HX3.out) 5).trans rfl
      clear hw3 hzz
      rcases o with _ | ⟨t, x⟩
      · go_wp2_with fail
        rw [HW3.out]
        refine HDT.out.mono ?_
        rintro e w4 ⟨he, hb⟩
        have he2 : e = .returned (.tuple #[.agg #[.int .i64 0, .string ⟨#[]⟩], .bool false]) := he
        clear he
        subst he2
        have HB5 := Lib.hid (show Below W1_.heap.size W1_ (w4.alloc (.cells #[.int .i64 0, .string ⟨#[]⟩] 50 (0, 0))) from below_alloc (below_tr HB.out (below_tr HB3.out hb)) _)
        have HR5 := Lib.hid (Kd.R_below HR.out (show Below wr.heap.size wr (w4.alloc (.cells #[.int .i64 0, .string ⟨#[]⟩] 50 (0, 0))) from below_alloc (below_tr HB3.out hb) _))
        have HY5 := Lib.hid (show (w4.alloc (.cells #[.int .i64 0, .string ⟨#[]⟩] 50 (0, 0))).heap[W.heap.size]? = some (.cells #[.int .i64 s.f0, .int .u64 s.f1, .slice A2 s.f2.length c2, .slice A3 s.f3.length c3, .slice A4 s.f4.length c4, .slice (some ad) s.f5.length c5, .slice A6 s.f6.length c6, .slice A7 s.f7.length c7, .slice A8 s.f8.length c8, .int .i64 s.f9] 31 (0, 0)) from blk_alloc ((hb.block W.heap.size (blk_lt HY3.out)).trans HY3.out) _)
        clear hb HW3 HDT p0 p1 p2 p3 p4 p5 p6 p7 p8 p9 x0 x1 x2 x3 x4 x5 h0 h1 h2 h3 h4 h5_ q5
        have HOC := Lib.hid (HCN.out (by rw [HCD.out]; rfl))
        clear HCS HCN HCD
        go_wp2
        go_roundw
        case rel => exact ⟨k + 1, by go_num, by omega, ⟨by rw [HOC.out]; exact HR5.out⟩, ⟨HB5.out⟩⟩
        case measure => simp [intOf]; omega
      · go_wp2_with fail
        rw [HW3.out]
        refine HDT.out.mono ?_
        rintro e w4 ⟨he, hb⟩
        have he2 : e = .returned (.tuple #[.agg #[.int .i64 t, .string x], .bool true]) := he
        clear he
        subst he2
        have HB5 := Lib.hid (show Below W1_.heap.size W1_ (w4.alloc (.cells #[.int .i64 t, .string x] 50 (0, 0))) from below_alloc (below_tr HB.out (below_tr HB3.out hb)) _)
        have HR5 := Lib.hid (Kd.R_below HR.out (show Below wr.heap.size wr (w4.alloc (.cells #[.int .i64 t, .string x] 50 (0, 0))) from below_alloc (below_tr HB3.out hb) _))
        have HY5 := Lib.hid (show (w4.alloc (.cells #[.int .i64 t, .string x] 50 (0, 0))).heap[W.heap.size]? = some (.cells #[.int .i64 s.f0, .int .u64 s.f1, .slice A2 s.f2.length c2, .slice A3 s.f3.length c3, .slice A4 s.f4.length c4, .slice (some ad) s.f5.length c5, .slice A6 s.f6.length c6, .slice A7 s.f7.length c7, .slice A8 s.f8.length c8, .int .i64 s.f9] 31 (0, 0)) from blk_alloc ((hb.block W.heap.size (blk_lt HY3.out)).trans HY3.out) _)
        clear hb HW3 HDT p0 p1 p2 p3 p4 p5 p6 p7 p8 p9 x0 x1 x2 x3 x4 x5 h0 h1 h2 h3 h4 h5_ q5
        have e0 : (w4.alloc (.cells #[.int .i64 t, .string x] 50 (0, 0))).cell? ⟨w4.heap.size, 0, none⟩ = some (.int .i64 t) := (blk_cell (new_blk w4 (.cells #[.int .i64 t, .string x] 50 (0, 0))) 0).trans rfl
        have e1 : (w4.alloc (.cells #[.int .i64 t, .string x] 50 (0, 0))).cell? ⟨w4.heap.size, 1, none⟩ = some (.string x) := (blk_cell (new_blk w4 (.cells #[.int .i64 t, .string x] 50 (0, 0))) 1).trans rfl
        have q0 : (w4.alloc (.cells #[.int .i64 t, .string x] 50 (0, 0))).cell? ⟨W.heap.size, 0, none⟩ = some (.int .i64 s.f0) := (blk_cell HY5.out 0).trans rfl
        have hin := HIN.out (t, x) rfl
        dsimp only at hin
        have kw : IntKind.i64.wrap (t - s.f0) = t - s.f0 := by rw [IntKind.wrap_i64]; omega
        have HCD := Lib.hid (show oc = if s.f0 < t ∧ t - s.f0 ≤ dy then some (t, x) else none from HCD.out)
        by_cases hc1 : s.f0 < t
        · by_cases hc2 : t - s.f0 ≤ dy
          · have c1 : s.f0 < t := hc1
            have c2 : t - s.f0 ≤ dy := hc2
            have HOC := Lib.hid (HCS.out (t, x) (by rw [HCD.out]; exact if_pos ⟨hc1, hc2⟩))
            clear HCS HCN HCD
            go_wp2_with ((with_reducible refine gate_builtin (b := .append) (xs := #[.tmp 50, .tmp 52]) rfl ?_); at_builtin; refine Kd.R_append k50 (w0 := W1_) W1_.heap.size rfl (.tmp 50) (.tmp 52) 46 50 (.agg #[.int .i64 0, .string ⟨#[]⟩]) 24 rfl Tryz.underlying46 info50 (by first | rfl | (simp [Value.cells]; rfl)) (by show 0 < 2; omega) (by omega) u6 (cmL d s dy k) (t, x) [.int .i64 t, .string x] (fun _ => True) (fun _ => False) rfl (slice_sz (by first | rfl | exact alloc_sz _ _)) (k50_M _ _ _ (t, x)) (fun _ hk => hk.elim) (fun _ _ => trivial) HR5.out HB5.out HB5.out.size (by have := HNL.out; omega) ?_; intro v9 w6 ho hb hg hat; clear hg hat)
            go_roundw
            case rel => exact ⟨k + 1, by go_num, by omega, ⟨by rw [HOC.out]; exact ho⟩, ⟨hb⟩⟩
            case measure => simp [intOf]; omega
          · have c1 : s.f0 < t := hc1
            have c2 : ¬ t - s.f0 ≤ dy := hc2
            have HOC := Lib.hid (HCN.out (by rw [HCD.out]; exact if_neg (fun h_ => hc2 h_.2)))
            clear HCS HCN HCD
            go_wp2
            go_roundw
            case rel => exact ⟨k + 1, by go_num, by omega, ⟨by rw [HOC.out]; exact HR5.out⟩, ⟨HB5.out⟩⟩
            case measure => simp [intOf]; omega
        · have c1 : ¬ s.f0 < t := hc1
          have HOC := Lib.hid (HCN.out (by rw [HCD.out]; exact if_neg (fun h_ => hc1 h_.1)))
          clear HCS HCN HCD
          go_wp2
          go_roundw
          case rel => exact ⟨k + 1, by go_num, by omega, ⟨by rw [HOC.out]; exact HR5.out⟩, ⟨HB5.out⟩⟩
          case measure => simp [intOf]; omega
    · have hk2 : k = s.f5.length := by omega
      subst hk2
      clear hk
      have HSO := Lib.hid (sort_row HR.out HNL.out)
      go_wp2_with fail
      refine HSO.out.mono ?_
      rintro e wS ⟨rfl, ⟨E, hm, A6, cap6, hv, hx⟩, hg, hown⟩
      have HBS := Lib.hid (show Below W.heap.size W wS from ⟨hg.os.trans (HB.out.os.trans HB1.out.os), hg.tape.trans (HB.out.tape.trans HB1.out.tape), hg.output.trans (HB.out.output.trans HB1.out.output), by have := hg.size; have := HB.out.size; have := HB1.out.size; omega, fun b hb => by
        rw [hg.block b (by have := HB.out.size; have := HZ1.out; omega) (fun e_ => by have := hown _ e_.symm; have := HZ1.out; omega), HB.out.block b (by have := HZ1.out; omega)]
        exact HB1.out.block b hb⟩)
      have HMG := Lib.hid hm
      have HX := Lib.hid hx
      subst hv
      clear hm hx hg hown HSO HR HR0
      generalize cmL d s dy s.f5.length = xs at *
      have hnl := HNL.out
      have hnl2 : (xs.length : Int) ≤ 24 := by omega
      generalize wr = wq at *
      go_wp2
      go_loopw [11, 59] (fun v11 v59 wr => ∃ j : Nat, v59 = .int .i64 j ∧ j ≤ xs.length ∧ Aside0 (Kd.R Kd.string 9 wr wS.heap.size (fun _ => True) v11 (outL E j)) ∧ Aside0 (Below wS.heap.size wS wr)) (fun _ v59 _ => xs.length - (intOf v59).toNat)
      case atStart => exact ⟨0, rfl, Nat.zero_le _, ⟨Kd.R_nil _ _ _ _ _⟩, ⟨Below.refl _ _⟩⟩
      case round =>
        obtain ⟨j, rfl, hj, HO, HBW⟩ := hrel
        by_cases hjt : j < xs.length
        · have hjt2 : (j : Int) < (xs.length : Int) := by omega
          have HOS := Lib.hid (outL_succ E j)
          rcases HX.out with h0_ | ⟨g, rfl, hd⟩
          · omega
          obtain ⟨⟨y0, _⟩, y1, _⟩ := (hd.below HBW.out).cell hjt
          obtain ⟨p, hp⟩ : ∃ p, E j = p := ⟨_, rfl⟩
          rw [hp] at y0 y1 HOS
          have HO4 := Lib.hid (Kd.R_below HO.out (show Below wr.heap.size wr (wr.alloc (.cells #[.int .i64 p.t, .string p.x] 50 (0, 0))) from below_alloc (Below.refl _ _) _))
          have HB4 := Lib.hid (show Below wS.heap.size wS (wr.alloc (.cells #[.int .i64 p.t, .string p.x] 50 (0, 0))) from below_alloc HBW.out _)
          have z1 : (wr.alloc (.cells #[.int .i64 p.t, .string p.x] 50 (0, 0))).cell? ⟨wr.heap.size, 1, none⟩ = some (.string p.x) := (blk_cell (new_blk wr _) 1).trans rfl
          clear hd hp
          go_wp2_with ((with_reducible refine gate_builtin (b := .append) (xs := #[.tmp 63, .tmp 66]) rfl ?_); at_builtin; refine Kd.R_append Kd.string (w0 := wS) wS.heap.size rfl (.tmp 63) (.tmp 66) 34 9 (.string ⟨#[]⟩) 16 rfl Tryz.underlying34 info9 rfl (by decide) (by omega) u11 (outL E j) p.x [.string p.x] (fun _ => True) (fun _ => False) rfl (slice_sz (by first | rfl | exact alloc_sz _ _)) rfl (fun _ hk => hk.elim) (fun _ _ => trivial) HO4.out HB4.out HB4.out.size (by rw [outL_len]; omega) ?_; intro v9 w5 ho hb hg hat; clear hg hat)
          go_roundw
          case rel => exact ⟨j + 1, by go_num, by omega, ⟨by rw [HOS.out]; exact ho⟩, ⟨hb⟩⟩
          case measure => simp [intOf]; omega
        · have hj2 : j = xs.length := by omega
          subst hj2
          obtain ⟨AR, cR, hvr, hlr, hcr⟩ := Kd.R_reads HO.out
          subst hvr
          have HF := Lib.hid (And.intro hlr (And.intro hcr (below_tr HBS.out HBW.out)))
          clear hlr hcr
          rw [outL_len] at HF
          rw [outL_len]
          go_wp2
          go_ret2
          exact ⟨E, HMG.out, AR, cR, rfl, HF.out.1, HF.out.2.1, HF.out.2.2⟩
end Go.Proofs.YtafigkikblpbnaaGreatDoor.PG
namespace Go.Proofs.YtafigkikblpbnaaGreatDoor.PG
open Go.RowKit Go.Proofs.YtafigkikblpbnaaGreatDoorW.PrintWords Go.Proofs.YtafigkikblpbnaaGreatDoorW.PrintLast Go.Proofs.YtafigkikblpbnaaGreatDoorW.PrintMore
set_option linter.unusedVariables false
set_option linter.unusedSimpArgs false
set_option maxRecDepth 100000

/-- The dates in order, as a list. -/
structure PS (xs : List (Int × ByteArray)) (ys : List Dt) : Prop where
  srt : ys.Pairwise Dt.lt
  prm : ys.Perm ((List.range xs.length).map (dl xs))
theorem PS.nil : PS [] [] := ⟨List.Pairwise.nil, List.Perm.refl _⟩
theorem PS.len {xs : List (Int × ByteArray)} {ys : List Dt} (h : PS xs ys) : ys.length = xs.length := by rw [h.prm.length_eq, List.length_map, List.length_range]
theorem dl_app {xs : List (Int × ByteArray)} (p : Int × ByteArray) {j : Nat} (h : j < xs.length) : dl (xs ++ [p]) j = dl xs j := by
  unfold dl
  rw [List.getD_eq_getElem?_getD, List.getD_eq_getElem?_getD, List.getElem?_append_left h]
theorem dl_last (xs : List (Int × ByteArray)) (p : Int × ByteArray) : dl (xs ++ [p]) xs.length = ⟨p.1, p.2, xs.length⟩ := by
  unfold dl
  rw [List.getD_eq_getElem?_getD, List.getElem?_append_right (Nat.le_refl _), Nat.sub_self]
  rfl
theorem dl_map (xs : List (Int × ByteArray)) (p : Int × ByteArray) : (List.range (xs ++ [p]).length).map (dl (xs ++ [p])) = (List.range xs.length).map (dl xs) ++ [⟨p.1, p.2, xs.length⟩] := by
  rw [List.length_append, List.length_singleton, List.range_succ, List.map_append, List.map_cons, List.map_nil, dl_last]
  congr 1
  exact List.map_congr_left fun j hj => dl_app p (List.mem_range.1 hj)
/-- One more is put in behind those not later. -/
theorem PS.put {xs : List (Int × ByteArray)} {ys : List Dt} (h : PS xs ys) (p : Int × ByteArray) (i : Nat) (h1 : ∀ y ∈ ys.take i, ¬ p.1 < y.t) (h2 : ∀ y ∈ ys.drop i, p.1 < y.t) : PS (xs ++ [p]) (ys.take i ++ ⟨p.1, p.2, xs.length⟩ :: ys.drop i) := by
  have hg : ∀ y ∈ ys, y.g < xs.length := fun y hy => by
    obtain ⟨j, hj, e⟩ := List.mem_map.1 (h.prm.mem_iff.1 hy)
    rw [← e]
    exact List.mem_range.1 hj
  have hs := h.srt
  rw [← List.take_append_drop i ys] at hs
  obtain ⟨s1, s2, s3⟩ := List.pairwise_append.1 hs
  refine ⟨List.pairwise_append.2 ⟨s1, List.pairwise_cons.2 ⟨fun y hy => .inl (h2 y hy), s2⟩, fun a ha b hb => ?_⟩, ?_⟩
  · rcases List.mem_cons.1 hb with rfl | hb
    · have g1 := h1 a ha
      have g2 := hg a (List.mem_of_mem_take ha)
      show a.t < p.1 ∨ (a.t = p.1 ∧ a.g < xs.length)
      omega
    · exact s3 a ha b hb
  · rw [dl_map]
    refine List.perm_middle.trans ?_
    rw [List.take_append_drop]
    exact (List.Perm.cons _ h.prm).trans (List.perm_append_comm (l₁ := [_]))
/-- The list as what a sort brings about. -/
theorem PS.mg {xs : List (Int × ByteArray)} {ys : List Dt} (h : PS xs ys) : Mg (dl xs) (fun j => if j < xs.length then ys.getD j ⟨0, ⟨#[]⟩, 0⟩ else dl xs j) 0 xs.length := by
  have hl := h.len
  have hget : ∀ j (hj : j < xs.length), ys.getD j ⟨0, ⟨#[]⟩, 0⟩ = ys[j]'(by omega) := fun j hj => by
    rw [List.getD_eq_getElem?_getD, List.getElem?_eq_getElem (by omega)]
    rfl
  refine ⟨fun i j _ h2 h3 => ?_, fun i hi => if_neg (fun h_ => hi ⟨Nat.zero_le _, h_⟩), fun i _ hi => ?_, fun i _ hi => ?_⟩
  · show Dt.lt (if i < xs.length then _ else _) (if j < xs.length then _ else _)
    rw [if_pos (by omega), if_pos h3, hget i (by omega), hget j h3]
    exact List.pairwise_iff_getElem.1 h.srt i j (by omega) (by omega) h2
  · show ∃ j, 0 ≤ j ∧ j < xs.length ∧ (if i < xs.length then _ else _) = dl xs j
    rw [if_pos hi, hget i hi]
    obtain ⟨j, hj, e⟩ := List.mem_map.1 (h.prm.mem_iff.1 (List.getElem_mem (show i < ys.length by omega)))
    exact ⟨j, Nat.zero_le _, List.mem_range.1 hj, e.symm⟩
  · have hm := h.prm.mem_iff.2 (List.mem_map.2 ⟨i, List.mem_range.2 hi, rfl⟩)
    obtain ⟨j, hj, e⟩ := List.getElem_of_mem hm
    refine ⟨j, Nat.zero_le _, by omega, ?_⟩
    show dl xs i = if j < xs.length then _ else _
    rw [if_pos (by omega), hget j (by omega), e]
theorem PS.out {xs : List (Int × ByteArray)} {ys : List Dt} (h : PS xs ys) : outL (fun j => if j < xs.length then ys.getD j ⟨0, ⟨#[]⟩, 0⟩ else dl xs j) xs.length = ys.map (·.x) := by
  have hl := h.len
  unfold outL
  apply List.ext_getElem
  · rw [List.length_map, List.length_map, List.length_range, hl]
  · intro i h1 h2
    have hi : i < xs.length := by simpa using h1
    rw [List.getElem_map, List.getElem_map, List.getElem_range]
    show (if i < xs.length then ys.getD i ⟨0, ⟨#[]⟩, 0⟩ else dl xs i).x = _
    rw [if_pos hi, List.getD_eq_getElem?_getD, List.getElem?_eq_getElem (by omega)]
    rfl
theorem swap_any {α : Type} (M : List α) (c : α) (i : Nat) (h : i < M.length) : ((M.take (i + 1) ++ c :: M.drop (i + 1)).set i c).set (i + 1) M[i] = M.take i ++ c :: M.drop i := by
  rw [List.take_succ_eq_append_getElem h, List.append_assoc, List.set_append_right _ _ (by rw [List.length_take]; omega), List.set_append_right _ _ (by rw [List.length_take]; omega)]
  have e1 : i - (M.take i).length = 0 := by rw [List.length_take]; omega
  have e2 : i + 1 - (M.take i).length = 1 := by rw [List.length_take]; omega
  rw [e1, e2, List.drop_eq_getElem_cons h]
  rfl
end Go.Proofs.YtafigkikblpbnaaGreatDoor.PG
namespace Go.Proofs.YtafigkikblpbnaaGreatDoor.PG
open Go.RowKit Go.Proofs.YtafigkikblpbnaaGreatDoorW.PrintWords Go.Proofs.YtafigkikblpbnaaGreatDoorW.PrintLast Go.Proofs.YtafigkikblpbnaaGreatDoorW.PrintMore
set_option linter.unusedVariables false
set_option linter.unusedSimpArgs false
set_option maxRecDepth 100000

/-! A region in which two operations may come up: both ways are walked. -/
section
variable {P : Program} {ops : Array Oper} {Q : Exit → Act → World → Prop} {md : Region.Mode} {S : World → Prop} {ds : List Nat} {T : Bool × List (List Nat × List Nat)}
theorem WL.two {i j : Nat} {is js ks : List Nat} {ri rj : List Oper} {Ni Nj : Option Tmp} {oi oj : Oper} {fuel : Nat} {lb li lj : List Bool} {a : Act} {w : World} (hi : ops.toList.drop i = oi :: ri) (hj : ops.toList.drop j = oj :: rj) (hNi : oi.dst = Ni) (hNj : oj.dst = Nj) (hli : lb.set i true = li) (hlj : lb.set j true = lj) (hT : rtab md ops = T)
    (hc : (readyT T.2 lb == [i, j] && lb.set i true == li && lb.set j true == lj) = true) (hdi : i ∉ ds) (hdj : j ∉ ds)
    (h1 : ∀ K : Act → World → Prop, Shut (∀ a' w', S w' → (S w' → WL is (wpAnyLast P md ops Q S ds fuel li.toArray a' w')) → K a' w') → if Region.wanted oi (yielded ops a.tmps) = true then Oper.wp P oi a w K Q else K (a.put Ni undef) w)
    (h2 : ∀ K : Act → World → Prop, Shut (∀ a' w', S w' → (S w' → WL js (wpAnyLast P md ops Q S ds fuel lj.toArray a' w')) → K a' w') → if Region.wanted oj (yielded ops a.tmps) = true then Oper.wp P oj a w K Q else K (a.put Nj undef) w) :
    WL ks (wpAnyLast P md ops Q S ds (fuel + 1) lb.toArray a w) :=
  ⟨two_ _ _ (at_drop hi) (at_drop hj) hNi hNj (two_of hT (by simpa using hc)) hdi hdj (fun K hK => h1 K (fun a' w' hs hn => hK a' w' hs (fun hs => (hn hs).out))) (fun K hK => h2 K (fun a' w' hs hn => hK a' w' hs (fun hs => (hn hs).out)))⟩
end
/-! Rows of unlike types are apart. -/
theorem Kd.R_apart {α β : Type} {d : Kd α} {d' : Kd β} {e e' : Nat} {w : World} {base base' : Nat} {ok ok' : Nat → Prop} {v v' : Value} {xs : List α} {ys : List β} (hE : d.E = []) (hne : e ≠ e') (h : Kd.R d e w base ok v xs) (h' : Kd.R d' e' w base' ok' v' ys) : Kd.R d e w base (fun k => ok k ∧ some k ≠ v'.ownBlock) v xs := by
  refine Kd.R_mono (Kd.R_bound h) (fun k hk => ⟨hk.1, fun he => ?_⟩)
  obtain ⟨_, _, _, q, hq, cs, hc⟩ := hk
  obtain ⟨_, inner, ho, _⟩ := h'
  obtain ⟨cs', hc'⟩ := own_typed ho k he.symm
  rw [hE] at hq
  have hq2 : q = e := by simpa using hq
  rw [hq2] at hc
  rw [hc'] at hc
  simp only [Option.some.injEq, Obj.cells.injEq] at hc
  exact hne hc.2.1.symm
/-- Another row grows. -/
theorem Kd.R_grown_apart {α β : Type} {d : Kd α} {d' : Kd β} {e e' : Nat} {w w1 : World} {base base' : Nat} {ok ok' : Nat → Prop} {v v' : Value} {xs : List α} {ys : List β} (hE : d.E = []) (hne : e ≠ e') (h : Kd.R d e w base ok v xs) (h' : Kd.R d' e' w base' ok' v' ys) (hg : w.grownBy w1 v'.ownBlock) : Kd.R d e w1 base ok v xs :=
  Kd.R_mono (Kd.R_grown (Kd.R_apart hE hne h h') hg (fun _ hk => hk.2)) (fun _ hk => hk.1)
/-- A store into another row. -/
theorem Kd.R_far_apart {α β : Type} {d : Kd α} {d' : Kd β} {e e' : Nat} {w : World} {base base' : Nat} {ok ok' : Nat → Prop} {v : Value} {g n c : Nat} {xs : List α} {ys : List β} (hE : d.E = []) (hne : e ≠ e') (h : Kd.R d e w base ok v xs) (h' : Kd.R d' e' w base' ok' (.slice (some ⟨g, 0, none⟩) n c) ys) (i : Nat) (u : Value) : Kd.R d e (w.setCell ⟨g, i, none⟩ u) base ok v xs :=
  Kd.R_mono (Kd.R_far (Kd.R_apart hE hne h h') (p := ⟨g, i, none⟩) (fun k hk e_ => hk.2 (by rw [show k = g from e_]; rfl)) u) (fun _ hk => hk.1)
/-! The list with one more put in. -/
theorem putL_one {α β : Type} (M : List α) (c : α) (i : Nat) (h : i < M.length) (f : α → β) (d : β) : rdOf d ((M.take (i + 1) ++ c :: M.drop (i + 1)).map f) (i : Int) = f M[i] := by
  unfold rdOf
  rw [Int.toNat_natCast, List.getD_eq_getElem?_getD, List.getElem?_map, List.getElem?_append_left (by rw [List.length_take]; omega), List.getElem?_take_of_lt (by omega), List.getElem?_eq_getElem h]
  rfl
theorem putL_two {α β : Type} (M : List α) (c : α) (i : Nat) (h : i < M.length) (f : α → β) (d : β) : rdOf d ((M.take (i + 1) ++ c :: M.drop (i + 1)).map f) ((i + 1 : Nat) : Int) = f c := by
  unfold rdOf
  rw [Int.toNat_natCast, List.getD_eq_getElem?_getD, List.getElem?_map, List.getElem?_append_right (by rw [List.length_take]; omega), List.length_take, show i + 1 - min (i + 1) M.length = 0 by omega]
  rfl
theorem putL_swap {α β : Type} (M : List α) (c : α) (i : Nat) (h : i < M.length) (f : α → β) : ((((M.take (i + 1) ++ c :: M.drop (i + 1)).map f).set i (f c)).set (i + 1) (f M[i])) = (M.take i ++ c :: M.drop i).map f := by
  rw [← List.map_set, ← List.map_set, swap_any M c i h]
theorem putL_end {α β : Type} (M : List α) (c : α) (f : α → β) : (M.take M.length ++ c :: M.drop M.length).map f = M.map f ++ [f c] := by
  rw [List.take_length, List.drop_length, List.map_append]; rfl
/-- What lies ahead of one that isn't later isn't later. -/
theorem take_not_later {M : List Dt} (hs : M.Pairwise Dt.lt) (i : Nat) (h : i < M.length) (t : Int) (hn : ¬ t < M[i].t) : ∀ y ∈ M.take (i + 1), ¬ t < y.t := by
  intro y hy
  rw [List.take_succ_eq_append_getElem h, List.mem_append] at hy
  rcases hy with hy | hy
  · obtain ⟨j, hj, e⟩ := List.getElem_of_mem hy
    have hj2 : j < i := by rw [List.length_take] at hj; omega
    have h1 := List.pairwise_iff_getElem.1 hs j i (by omega) h hj2
    rw [List.getElem_take] at e
    rw [e] at h1
    unfold Dt.lt at h1
    omega
  · rw [List.mem_singleton.1 hy]
    exact hn
theorem drop_later {M : List Dt} (i : Nat) (h : i < M.length) (t : Int) (hd : ∀ y ∈ M.drop (i + 1), t < y.t) (hn : t < M[i].t) : ∀ y ∈ M.drop i, t < y.t := by
  intro y hy
  rw [List.drop_eq_getElem_cons h, List.mem_cons] at hy
  rcases hy with rfl | hy
  · exact hn
  · exact hd y hy
/-- It ends as it should, with this act, in this world. -/
def OnN (A : Act) (w1 : World) (e : Exit) (a : Act) (w : World) : Prop := match e with
  | .normal => a = A ∧ w = w1
  | _ => False
theorem OnN.mk (a : Act) (w : World) : OnN a w .normal a w := ⟨rfl, rfl⟩
theorem OnN.out {A a : Act} {w1 w : World} {e : Exit} (h : OnN A w1 e a w) : e = .normal ∧ a = A ∧ w = w1 := by
  cases e with
  | normal => exact ⟨rfl, h.1, h.2⟩
  | _ => exact h.elim
end Go.Proofs.YtafigkikblpbnaaGreatDoor.PG
