/- Records, holds and certificates that may be. A condition as a text. Rules as a text. A state that may be. Scopes: what the closures do, and five of the eight kinds. Scopes: what they match; no condition beyond each theorem its own. -/
import Derived.Test.YtafigkikblpbnaaGreatDoorZC07
import Derived.Test.YtafigkikblpbnaaGreatDoorZC05
import Derived.Test.YtafigkikblpbnaaGreatDoorZC10
import Derived.Test.YtafigkikblpbnaaGreatDoorZC04
namespace Go.Proofs.YtafigkikblpbnaaGreatDoor.PG
open Go.RowKit Go.Proofs.YtafigkikblpbnaaGreatDoorW.PrintWords Go.Proofs.YtafigkikblpbnaaGreatDoorW.PrintLast Go.Proofs.YtafigkikblpbnaaGreatDoorW.PrintMore
set_option linter.unusedVariables false
set_option linter.unusedSimpArgs false
set_option maxRecDepth 100000
theorem tab15_9 : rtab .any (opsOf Tryz.f43 9) = (true, [([], []), ([], []), ([1], [1]), ([0, 2], [0, 2]), ([3], [3]), ([], []), ([5], [5]), ([6], [6]), ([4, 7], [4, 7]), ([8, 3], [8]), ([9], [9]), ([10, 9], [9, 10]), ([11, 9], [9, 11]), ([12, 9, 9], [9, 12]), ([13], [13]), ([14, 13], [13, 14]), ([13], [13]), ([13], [13]), ([17, 13], [13, 17]), ([16, 18, 13, 13], [13, 16, 18]), ([15, 19, 13], [13, 15, 19]), ([20, 13], [13, 20]), ([21, 13], [13, 21]), ([13], [13]), ([23, 13], [13, 23]), ([24, 13], [13, 24]), ([22, 25, 13], [13, 22, 25]), ([13, 26, 9], [9, 13, 26]), ([9, 27], [9, 27])]) := by kernel_rfl
theorem tab15_14 : rtab .any (opsOf Tryz.f43 14) = (true, [([], []), ([0], [0]), ([], []), ([1, 2], [1, 2]), ([3], [3]), ([4], [4]), ([5], [5]), ([6], [6]), ([7, 6], [7]), ([8], [8]), ([9, 8], [8, 9]), ([8], [8]), ([11, 8], [8, 11]), ([8], [8]), ([12, 13, 8], [8, 12, 13]), ([14, 8], [8, 14]), ([15, 8], [8, 15]), ([10, 16, 8, 8], [8, 10, 16]), ([8], [8]), ([17, 18, 8], [8, 17, 18]), ([8, 19], [8, 19]), ([20, 17], [20]), ([21], [21]), ([22, 21], [21, 22]), ([21], [21]), ([23, 24, 21], [21, 23, 24]), ([25, 21], [21, 25]), ([26, 21], [21, 26]), ([27, 21, 21], [21, 27]), ([28, 21], [21, 28]), ([21, 29], [21, 29])]) := by kernel_rfl
theorem tab15_19 : rtab .any (opsOf Tryz.f43 19) = (true, [([], []), ([0], [0]), ([], []), ([1, 2], [1, 2]), ([3], [3]), ([4], [4]), ([5], [5]), ([6, 5], [6]), ([7], [7]), ([7], [7]), ([9, 7], [7, 9]), ([7], [7]), ([10, 11, 7], [7, 10, 11]), ([12, 7], [7, 12]), ([13, 7], [7, 13]), ([8, 14, 7, 7], [7, 8, 14]), ([7], [7]), ([15, 16, 7], [7, 15, 16]), ([7, 17], [7, 17]), ([18, 15], [18]), ([19], [19]), ([19], [19]), ([21, 19], [19, 21]), ([19], [19]), ([22, 23, 19], [19, 22, 23]), ([24, 19], [19, 24]), ([25, 19], [19, 25]), ([20, 26, 19, 19], [19, 20, 26]), ([27, 19], [19, 27]), ([19, 28], [19, 28]), ([29, 27], [29]), ([30], [30]), ([31, 30], [30, 31]), ([30], [30]), ([32, 33, 30], [30, 32, 33]), ([34, 30], [30, 34]), ([35, 30], [30, 35]), ([30], [30]), ([37, 30], [30, 37]), ([36, 38, 30], [30, 36, 38]), ([30, 39], [30, 39])]) := by kernel_rfl
theorem rd_mem73 {l : List S48} {k : Nat} (h : k < l.length) : rd_T48 l (k : Int) ∈ l := by
  have : rd_T48 l (k : Int) = l[k] := by unfold rd_T48; rw [Int.toNat_natCast, List.getD_eq_getElem?_getD, List.getElem?_eq_getElem h]; rfl
  rw [this]; exact List.getElem_mem h
theorem rd_mem100 {l : List S78} {k : Nat} (h : k < l.length) : rd_T78 l (k : Int) ∈ l := by
  have : rd_T78 l (k : Int) = l[k] := by unfold rd_T78; rw [Int.toNat_natCast, List.getD_eq_getElem?_getD, List.getElem?_eq_getElem h]; rfl
  rw [this]; exact List.getElem_mem h
theorem rd_mem61 {l : List S84} {k : Nat} (h : k < l.length) : rd_T84 l (k : Int) ∈ l := by
  have : rd_T84 l (k : Int) = l[k] := by unfold rd_T84; rw [Int.toNat_natCast, List.getD_eq_getElem?_getD, List.getElem?_eq_getElem h]; rfl
  rw [this]; exact List.getElem_mem h
/-- What is known of a state that may be: few records, whose names are apart. -/
def Ok5 (s : S31) : Prop := s.f5.length ≤ 24 ∧ ∀ k : Nat, k < s.f5.length → ix (nm73 (rd_T48 s.f5 (k : Int)).f0) s.f5 0 = (k : Int) ∧ (1 ≤ (rd_T48 s.f5 (k : Int)).f5 ∧ (rd_T48 s.f5 (k : Int)).f5 ≤ 4) ∧ nmOk (rd_T48 s.f5 (k : Int)).f3 = true
set_option maxHeartbeats 8000000 in
theorem rest_any (s : S31) (A2 A3 A4 A5 A6 A7 A8 : Option Addr) (c2 c3 c4 c5 c6 c7 c8 : Nat) (W : World) (hs : Rs W s A2 A3 A4 A5 A6 A7 A8 c2 c3 c4 c5 c6 c7 c8) (hz : Zs s) : Calls Tryz.prog 43 #[.agg #[.int .i64 s.f0, .int .u64 s.f1, .slice A2 s.f2.length c2, .slice A3 s.f3.length c3, .slice A4 s.f4.length c4, .slice A5 s.f5.length c5, .slice A6 s.f6.length c6, .slice A7 s.f7.length c7, .slice A8 s.f8.length c8, .int .i64 s.f9]] W (RBq (Ok5 s) W) := by
  have HB := Lib.hid (show Below W.heap.size W (W.alloc (.cells #[.int .i64 s.f0, .int .u64 s.f1, .slice A2 s.f2.length c2, .slice A3 s.f3.length c3, .slice A4 s.f4.length c4, .slice A5 s.f5.length c5, .slice A6 s.f6.length c6, .slice A7 s.f7.length c7, .slice A8 s.f8.length c8, .int .i64 s.f9] 31 (0, 0))) from below_alloc (Below.refl _ _) _)
  have HY := Lib.hid (new_blk W (.cells #[.int .i64 s.f0, .int .u64 s.f1, .slice A2 s.f2.length c2, .slice A3 s.f3.length c3, .slice A4 s.f4.length c4, .slice A5 s.f5.length c5, .slice A6 s.f6.length c6, .slice A7 s.f7.length c7, .slice A8 s.f8.length c8, .int .i64 s.f9] 31 (0, 0)))
  have HS := Lib.hid (hs.below HB.out)
  have m4 : s.f4.length ≤ 9223372036854775807 := hs.g4.2.1
  have m5 : s.f5.length ≤ 9223372036854775807 := hs.g5.2.1
  have m6 : s.f6.length ≤ 9223372036854775807 := hs.g6.2.1
  have m7 : s.f7.length ≤ 9223372036854775807 := hs.g7.2.1
  have m8 : s.f8.length ≤ 9223372036854775807 := hs.g8.2.1
  have HZ := Lib.hid hz
  clear hs hz
  by_cases h24 : 24 < s.f5.length
  · have h242 : (24 : Int) < (s.f5.length : Int) := by omega
    go_enter Tryz.func43, Tryz.ntmps43
    go_wp2
    go_ret
    exact RBq.no HB.out
  have h242 : ¬ (24 : Int) < (s.f5.length : Int) := by omega
  have H24 := Lib.hid h24
  clear h24
  go_enter Tryz.func43, Tryz.ntmps43
  go_wp2
  all_goals first
    | (go_ret; exact RBq.no HB.out)
    | skip
  generalize W.alloc (.cells #[.int .i64 s.f0, .int .u64 s.f1, .slice A2 s.f2.length c2, .slice A3 s.f3.length c3, .slice A4 s.f4.length c4, .slice A5 s.f5.length c5, .slice A6 s.f6.length c6, .slice A7 s.f7.length c7, .slice A8 s.f8.length c8, .int .i64 s.f9] 31 (0, 0)) = W1 at *
  go_loopw [3] (fun v3 wr => ∃ k : Nat, v3 = .int .i64 k ∧ k ≤ s.f5.length ∧ Aside0 (∀ j : Nat, j < k → ix (nm73 (rd_T48 s.f5 (j : Int)).f0) s.f5 0 = (j : Int) ∧ (1 ≤ (rd_T48 s.f5 (j : Int)).f5 ∧ (rd_T48 s.f5 (j : Int)).f5 ≤ 4) ∧ nmOk (rd_T48 s.f5 (j : Int)).f3 = true) ∧ Aside0 (Below W1.heap.size W1 wr)) (fun v3 _ => s.f5.length - (intOf v3).toNat)
  case atStart => exact ⟨0, rfl, Nat.zero_le _, ⟨fun j hj => by omega⟩, ⟨Below.refl _ _⟩⟩
  case round =>
    obtain ⟨k, rfl, hk, HA, HBW⟩ := hrel
    have HY2 := Lib.hid ((HBW.out.block W.heap.size (blk_lt HY.out)).trans HY.out)
    have HS2 := Lib.hid (HS.out.below HBW.out)
    have q0 : (wr).cell? ⟨W.heap.size, 0, none⟩ = some (.int .i64 s.f0) := (blk_cell HY2.out 0).trans rfl
    have q1 : (wr).cell? ⟨W.heap.size, 1, none⟩ = some (.int .u64 s.f1) := (blk_cell HY2.out 1).trans rfl
    have q2 : (wr).cell? ⟨W.heap.size, 2, none⟩ = some (.slice A2 s.f2.length c2) := (blk_cell HY2.out 2).trans rfl
    have q3 : (wr).cell? ⟨W.heap.size, 3, none⟩ = some (.slice A3 s.f3.length c3) := (blk_cell HY2.out 3).trans rfl
    have q4 : (wr).cell? ⟨W.heap.size, 4, none⟩ = some (.slice A4 s.f4.length c4) := (blk_cell HY2.out 4).trans rfl
    have q5 : (wr).cell? ⟨W.heap.size, 5, none⟩ = some (.slice A5 s.f5.length c5) := (blk_cell HY2.out 5).trans rfl
    have q6 : (wr).cell? ⟨W.heap.size, 6, none⟩ = some (.slice A6 s.f6.length c6) := (blk_cell HY2.out 6).trans rfl
    have q7 : (wr).cell? ⟨W.heap.size, 7, none⟩ = some (.slice A7 s.f7.length c7) := (blk_cell HY2.out 7).trans rfl
    have q8 : (wr).cell? ⟨W.heap.size, 8, none⟩ = some (.slice A8 s.f8.length c8) := (blk_cell HY2.out 8).trans rfl
    have q9 : (wr).cell? ⟨W.heap.size, 9, none⟩ = some (.int .i64 s.f9) := (blk_cell HY2.out 9).trans rfl
    by_cases hlt : k < s.f5.length
    · have hlt2 : (k : Int) < (s.f5.length : Int) := by omega
      obtain ⟨ad, e, h0, h1, h2, h3, h4, h5⟩ := at_T48 HS2.out.g5 (k : Int) (by omega) (by omega)
      subst e
      simp only [Int.toNat_natCast] at h0 h1 h2 h3 h4 h5
      have hzz := HZ.out.z5 _ (rd_mem73 hlt)
      obtain ⟨y, hy⟩ : ∃ y, y = rd_T48 s.f5 (k : Int) := ⟨_, rfl⟩
      rw [← hy] at h0 h1 h2 h3 h4 h5 hzz
      have HRD := Lib.hid hy
      clear hy
      obtain ⟨WE, hWE⟩ : ∃ WE, wr.alloc (.cells #[.string y.f0, .string y.f1, .string y.f2, .string y.f3, .int .i64 y.f4, .int .i64 y.f5] 48 (0, 0)) = WE := ⟨_, rfl⟩
      have HBE := Lib.hid (show Below wr.heap.size wr WE by rw [← hWE]; exact below_alloc (Below.refl _ _) _)
      have HNE := Lib.hid (show WE.heap[wr.heap.size]? = some (.cells #[.string y.f0, .string y.f1, .string y.f2, .string y.f3, .int .i64 y.f4, .int .i64 y.f5] 48 (0, 0)) by rw [← hWE]; exact new_blk wr _)
      have HSE := Lib.hid (HS2.out.below HBE.out)
      have HBC := Lib.hid (Below.refl WE.heap.size WE)
      have HN0 := fun w => Lib.hid (Name_eq y.f0 hzz.1 w)
      have HTK := fun w => Lib.hid (tick_any y.f4 w)
      have HN3 := fun w => Lib.hid (Name_eq y.f3 hzz.2.2.2 w)
      have HRE := fun w' (h : Below WE.heap.size WE w') => Lib.hid (Rec_eq s _ _ _ _ _ _ _ _ _ _ _ _ _ _ y.f0 w' (HSE.out.below h))
      have HCA := fun w' (h : Below WE.heap.size WE w') => Lib.hid (Case_eq s _ _ _ _ _ _ _ _ _ _ _ _ _ _ y.f1 w' (HSE.out.below h))
      have HSU := fun w' (h : Below WE.heap.size WE w') => Lib.hid (Sub_eq s _ _ _ _ _ _ _ _ _ _ _ _ _ _ y.f2 w' (HSE.out.below h))
      have HCE := fun w' (h : Below WE.heap.size WE w') => Lib.hid (Cert_eq s _ _ _ _ _ _ _ _ _ _ _ _ _ _ y.f0 w' (HSE.out.below h))
      have HJR := Lib.hid (ix_range (nm108 y.f2) s.f4 0)
      generalize hik : ix (nm73 y.f0) s.f5 0 = i at *
      generalize ix (nm59 y.f1) s.f3 0 = kc at *
      generalize ix (nm108 y.f2) s.f4 0 = j at *
      generalize ix (nm61 y.f0) s.f7 0 = ci at *
      have HIK := Lib.hid hik
      clear hzz hik
      have HWE := Lib.hid hWE
      have r0 : WE.cell? ⟨W.heap.size, 0, none⟩ = some (.int .i64 s.f0) := below_cell HBE.out q0
      have r1 : WE.cell? ⟨W.heap.size, 1, none⟩ = some (.int .u64 s.f1) := below_cell HBE.out q1
      have r2 : WE.cell? ⟨W.heap.size, 2, none⟩ = some (.slice A2 s.f2.length c2) := below_cell HBE.out q2
      have r3 : WE.cell? ⟨W.heap.size, 3, none⟩ = some (.slice A3 s.f3.length c3) := below_cell HBE.out q3
      have r4 : WE.cell? ⟨W.heap.size, 4, none⟩ = some (.slice A4 s.f4.length c4) := below_cell HBE.out q4
      have r5 : WE.cell? ⟨W.heap.size, 5, none⟩ = some (.slice (some ad) s.f5.length c5) := below_cell HBE.out q5
      have r6 : WE.cell? ⟨W.heap.size, 6, none⟩ = some (.slice A6 s.f6.length c6) := below_cell HBE.out q6
      have r7 : WE.cell? ⟨W.heap.size, 7, none⟩ = some (.slice A7 s.f7.length c7) := below_cell HBE.out q7
      have r8 : WE.cell? ⟨W.heap.size, 8, none⟩ = some (.slice A8 s.f8.length c8) := below_cell HBE.out q8
      have r9 : WE.cell? ⟨W.heap.size, 9, none⟩ = some (.int .i64 s.f9) := below_cell HBE.out q9
      have e0 : WE.cell? ⟨wr.heap.size, 0, none⟩ = some (.string y.f0) := (blk_cell HNE.out 0).trans rfl
      have e1 : WE.cell? ⟨wr.heap.size, 1, none⟩ = some (.string y.f1) := (blk_cell HNE.out 1).trans rfl
      have e2 : WE.cell? ⟨wr.heap.size, 2, none⟩ = some (.string y.f2) := (blk_cell HNE.out 2).trans rfl
      have e3 : WE.cell? ⟨wr.heap.size, 3, none⟩ = some (.string y.f3) := (blk_cell HNE.out 3).trans rfl
      have e4 : WE.cell? ⟨wr.heap.size, 4, none⟩ = some (.int .i64 y.f4) := (blk_cell HNE.out 4).trans rfl
      have e5 : WE.cell? ⟨wr.heap.size, 5, none⟩ = some (.int .i64 y.f5) := (blk_cell HNE.out 5).trans rfl
      clear hWE
      by_cases hik : i = (k : Int)
      all_goals by_cases hj0 : j < 0
      all_goals
        go_wp2_with fail
        rw [HWE.out]
        clear q0 q1 q2 q3 q4 q5 q6 q7 q8 q9 h0 h1 h2 h3 h4 h5
        refine (HN0 _).out.mono ?_
        rintro e w2 ⟨rfl, rfl⟩
        go_wp2_with (first | (go_at_call 68; with_reducible refine (HN3 _).out.mono ?_; rintro e w2 ⟨rfl, rfl⟩) | (go_at_call 41; with_reducible refine (HTK _).out.mono ?_; rintro e w2 ⟨b, rfl, rfl⟩) | (go_at_call 71; with_reducible refine (HRE _ HBC.out).out.mono ?_; rintro e w2 ⟨rfl, hb⟩; replace HBC := Lib.hid (below_tr HBC.out hb); replace r0 := below_cell hb r0; replace r1 := below_cell hb r1; replace r2 := below_cell hb r2; replace r3 := below_cell hb r3; replace r4 := below_cell hb r4; replace r5 := below_cell hb r5; replace r6 := below_cell hb r6; replace r7 := below_cell hb r7; replace r8 := below_cell hb r8; replace r9 := below_cell hb r9; replace e0 := below_cell hb e0; replace e1 := below_cell hb e1; replace e2 := below_cell hb e2; replace e3 := below_cell hb e3; replace e4 := below_cell hb e4; replace e5 := below_cell hb e5; clear hb) | (go_at_call 24; with_reducible refine (HCA _ HBC.out).out.mono ?_; rintro e w2 ⟨rfl, hb⟩; replace HBC := Lib.hid (below_tr HBC.out hb); replace r0 := below_cell hb r0; replace r1 := below_cell hb r1; replace r2 := below_cell hb r2; replace r3 := below_cell hb r3; replace r4 := below_cell hb r4; replace r5 := below_cell hb r5; replace r6 := below_cell hb r6; replace r7 := below_cell hb r7; replace r8 := below_cell hb r8; replace r9 := below_cell hb r9; replace e0 := below_cell hb e0; replace e1 := below_cell hb e1; replace e2 := below_cell hb e2; replace e3 := below_cell hb e3; replace e4 := below_cell hb e4; replace e5 := below_cell hb e5; clear hb) | (go_at_call 70; with_reducible refine (HSU _ HBC.out).out.mono ?_; rintro e w2 ⟨rfl, hb⟩; replace HBC := Lib.hid (below_tr HBC.out hb); replace r0 := below_cell hb r0; replace r1 := below_cell hb r1; replace r2 := below_cell hb r2; replace r3 := below_cell hb r3; replace r4 := below_cell hb r4; replace r5 := below_cell hb r5; replace r6 := below_cell hb r6; replace r7 := below_cell hb r7; replace r8 := below_cell hb r8; replace r9 := below_cell hb r9; replace e0 := below_cell hb e0; replace e1 := below_cell hb e1; replace e2 := below_cell hb e2; replace e3 := below_cell hb e3; replace e4 := below_cell hb e4; replace e5 := below_cell hb e5; clear hb))
        all_goals first
          | (go_ret; exact RBq.no (below_tr HB.out (below_tr HBW.out (below_tr HBE.out HBC.out))))
          | skip
      · have HKI := Lib.hid hik
        have hj1 : 0 ≤ j := by omega
        have hjl : j < (s.f4.length : Int) := by have := HJR.out; omega
        · skip
          refine (HTK _).out.mono ?_
          rintro e w2 ⟨b, rfl, rfl⟩
          go_wp2_with fail
          all_goals first
            | (go_ret; exact RBq.no (below_tr HB.out (below_tr HBW.out (below_tr HBE.out HBC.out))))
            | skip
          have HST := Lib.hid (show (1 ≤ y.f5 ∧ y.f5 ≤ 4) ∧ nmOk y.f3 = true from ⟨⟨by omega, by omega⟩, by first | assumption | simp_all⟩)
          have HBX := Lib.hid (below_tr HBW.out (below_tr HBE.out HBC.out))
          clear HRE HCA HN0 HN3 HTK
          generalize hb1 : (decide (0 ≤ ci) == decide (2 < y.f5)) = b1 at *
          have hjx : b1 = false ∨ b1 = true := by cases b1 <;> simp
          obtain ⟨ad4, e, g0, g1, g2⟩ := at_T115 (HSE.out.below HBC.out).g4 j hj1 hjl
          subst e
          generalize rd_T115 s.f4 j = z at *
          generalize hb3 : (y.f5 != 3) = b3 at *
          rcases hjx with rfl | rfl
          · skip
            refine WL.start (n := 29) (S := fun w' => Aside0 (Below w2.heap.size w2 w') ∧ w'.cell? ⟨W.heap.size, 0, none⟩ = some (.int .i64 s.f0) ∧ w'.cell? ⟨W.heap.size, 1, none⟩ = some (.int .u64 s.f1) ∧ w'.cell? ⟨W.heap.size, 2, none⟩ = some (.slice A2 s.f2.length c2) ∧ w'.cell? ⟨W.heap.size, 3, none⟩ = some (.slice A3 s.f3.length c3) ∧ w'.cell? ⟨W.heap.size, 4, none⟩ = some (.slice (some ad4) s.f4.length c4) ∧ w'.cell? ⟨W.heap.size, 5, none⟩ = some (.slice (some ad) s.f5.length c5) ∧ w'.cell? ⟨W.heap.size, 6, none⟩ = some (.slice A6 s.f6.length c6) ∧ w'.cell? ⟨W.heap.size, 7, none⟩ = some (.slice A7 s.f7.length c7) ∧ w'.cell? ⟨W.heap.size, 8, none⟩ = some (.slice A8 s.f8.length c8) ∧ w'.cell? ⟨W.heap.size, 9, none⟩ = some (.int .i64 s.f9) ∧ w'.cell? ⟨wr.heap.size, 0, none⟩ = some (.string y.f0) ∧ w'.cell? ⟨wr.heap.size, 1, none⟩ = some (.string y.f1) ∧ w'.cell? ⟨wr.heap.size, 2, none⟩ = some (.string y.f2) ∧ w'.cell? ⟨wr.heap.size, 3, none⟩ = some (.string y.f3) ∧ w'.cell? ⟨wr.heap.size, 4, none⟩ = some (.int .i64 y.f4) ∧ w'.cell? ⟨wr.heap.size, 5, none⟩ = some (.int .i64 y.f5) ∧ w'.cell? ⟨(ad4.add (j.toNat * 3)).block, (ad4.add (j.toNat * 3)).off + 2, none⟩ = some (.bool z.f2)) (ds := []) [false, false, false, false, false, false, false, false, false, false, false, false, false, false, false, false, false, false, false, false, false, false, false, false, false, false, false, false, false] (by kernel_rfl) rfl rfl ⟨⟨below_drew (Below.refl _ _)⟩, r0, r1, r2, r3, r4, r5, r6, r7, r8, r9, e0, e1, e2, e3, e4, e5, g2⟩ (fun hHeld => ?_)
            refine WL.tab tab15_9 (fun HT_ => ?_)
            refine WL.more [1, 5, 0, 2, 6, 7, 3, 4, 8, 9, 10, 11, 12, 13, 14, 17, 23, 15, 16, 18, 24, 25, 19, 20, 21, 22, 26, 27, 28] ?_
            repeat (first
              | (refine WL.off (lb' := ?_) (ys := ?_) rfl rfl (by rfl) ?_ HT_.out ?_ (fun _ _ _ h => h) ?_ ?_; rotate_left 2; (focus dsimp only [List.set_cons_zero, List.set_cons_succ]; rfl); (focus kernel_rfl); (focus dsimp only [List.set_cons_zero, List.set_cons_succ]; rfl))
              | (refine WL.pure (lb' := ?_) (v := ?_) (ys := ?_) rfl rfl (by rfl) ?_ HT_.out ?_ (fun _ _ _ h => h) ?_ ?_ ?_; rotate_left 3; (focus dsimp only [List.set_cons_zero, List.set_cons_succ]; rfl); (focus kernel_rfl); (focus intro w'; go_simp; with_reducible rfl); (focus dsimp only [List.set_cons_zero, List.set_cons_succ]; rfl))
              | (refine WL.take (lb' := ?_) (v := ?_) (ys := ?_) rfl rfl (by rfl) ?_ HT_.out ?_ (fun _ _ _ h => h) hHeld ?_ ?_ ?_; rotate_left 3; (focus dsimp only [List.set_cons_zero, List.set_cons_succ]; rfl); (focus kernel_rfl); (focus rintro w' ⟨s0, s1, s2, s3, s4, s5, s6, s7, s8, s9, s10, s11, s12, s13, s14, s15, s16, s17⟩; go_simp; with_reducible rfl); (focus dsimp only [List.set_cons_zero, List.set_cons_succ]; rfl))
              | (refine WL.one (lb' := ?_) rfl rfl ?_ HT_.out ?_ (by decide) (fun K hK => ?_); rotate_left; (focus dsimp only [List.set_cons_zero, List.set_cons_succ]; rfl); (focus kernel_rfl); first
                  | (refine goes_ Tryz.func72 (by kernel_rfl) rfl #[.agg #[.int .i64 s.f0, .int .u64 s.f1, .slice A2 s.f2.length c2, .slice A3 s.f3.length c3, .slice (some ad4) s.f4.length c4, .slice (some ad) s.f5.length c5, .slice A6 s.f6.length c6, .slice A7 s.f7.length c7, .slice A8 s.f8.length c8, .int .i64 s.f9], .string y.f0] (by rfl) rfl rfl (by simp only [List.map_toArray, List.map_cons, List.map_nil]; rfl) ?_; (with_reducible refine ((HCE _ (below_tr HBC.out hHeld.1.out)).out).mono ?_); rintro e w3 ⟨rfl, hb⟩; refine ⟨_, rfl, ?_⟩; refine hK.out _ _ (by have h_ := hHeld.2; refine ⟨⟨below_tr hHeld.1.out hb⟩, ?_⟩; repeat (first | exact below_cell hb h_ | (refine ⟨below_cell hb h_.1, ?_⟩; replace h_ := h_.2))) (fun hHeld => ?_); clear hK K; refine WL.put (ys := ?_) ?_ ?_; rotate_left; (focus dsimp only [List.set_cons_zero, List.set_cons_succ]; rfl))
                  | (refine goes_ Tryz.func70 (by kernel_rfl) rfl #[.agg #[.int .i64 s.f0, .int .u64 s.f1, .slice A2 s.f2.length c2, .slice A3 s.f3.length c3, .slice (some ad4) s.f4.length c4, .slice (some ad) s.f5.length c5, .slice A6 s.f6.length c6, .slice A7 s.f7.length c7, .slice A8 s.f8.length c8, .int .i64 s.f9], .string y.f2] (by rfl) rfl rfl (by simp only [List.map_toArray, List.map_cons, List.map_nil]; rfl) ?_; (with_reducible refine ((HSU _ (below_tr HBC.out hHeld.1.out)).out).mono ?_); rintro e w3 ⟨rfl, hb⟩; refine ⟨_, rfl, ?_⟩; refine hK.out _ _ (by have h_ := hHeld.2; refine ⟨⟨below_tr hHeld.1.out hb⟩, ?_⟩; repeat (first | exact below_cell hb h_ | (refine ⟨below_cell hb h_.1, ?_⟩; replace h_ := h_.2))) (fun hHeld => ?_); clear hK K; refine WL.put (ys := ?_) ?_ ?_; rotate_left; (focus dsimp only [List.set_cons_zero, List.set_cons_succ]; rfl))))
            refine WL.done HT_.out (by kernel_rfl) ?_
            have HBZ := Lib.hid (below_tr HBX.out hHeld.1.out)
            clear hHeld
            go_wp2
            all_goals first
              | (go_ret; exact RBq.no (below_tr HB.out HBZ.out))
              | (go_roundw
                 case rel => exact ⟨k + 1, by go_num, by omega, ⟨fun q hq => by
                   by_cases hqk : q = k
                   · subst hqk; rw [← HRD.out]; exact ⟨HIK.out.trans HKI.out, HST.out⟩
                   · exact HA.out q (by omega)⟩, ⟨HBZ.out⟩⟩
                 case measure => simp [intOf]; omega)
          · cases b3
            all_goals
              skip
              refine WL.start (n := 29) (S := fun w' => Aside0 (Below w2.heap.size w2 w') ∧ w'.cell? ⟨W.heap.size, 0, none⟩ = some (.int .i64 s.f0) ∧ w'.cell? ⟨W.heap.size, 1, none⟩ = some (.int .u64 s.f1) ∧ w'.cell? ⟨W.heap.size, 2, none⟩ = some (.slice A2 s.f2.length c2) ∧ w'.cell? ⟨W.heap.size, 3, none⟩ = some (.slice A3 s.f3.length c3) ∧ w'.cell? ⟨W.heap.size, 4, none⟩ = some (.slice (some ad4) s.f4.length c4) ∧ w'.cell? ⟨W.heap.size, 5, none⟩ = some (.slice (some ad) s.f5.length c5) ∧ w'.cell? ⟨W.heap.size, 6, none⟩ = some (.slice A6 s.f6.length c6) ∧ w'.cell? ⟨W.heap.size, 7, none⟩ = some (.slice A7 s.f7.length c7) ∧ w'.cell? ⟨W.heap.size, 8, none⟩ = some (.slice A8 s.f8.length c8) ∧ w'.cell? ⟨W.heap.size, 9, none⟩ = some (.int .i64 s.f9) ∧ w'.cell? ⟨wr.heap.size, 0, none⟩ = some (.string y.f0) ∧ w'.cell? ⟨wr.heap.size, 1, none⟩ = some (.string y.f1) ∧ w'.cell? ⟨wr.heap.size, 2, none⟩ = some (.string y.f2) ∧ w'.cell? ⟨wr.heap.size, 3, none⟩ = some (.string y.f3) ∧ w'.cell? ⟨wr.heap.size, 4, none⟩ = some (.int .i64 y.f4) ∧ w'.cell? ⟨wr.heap.size, 5, none⟩ = some (.int .i64 y.f5) ∧ w'.cell? ⟨(ad4.add (j.toNat * 3)).block, (ad4.add (j.toNat * 3)).off + 2, none⟩ = some (.bool z.f2)) (ds := []) [false, false, false, false, false, false, false, false, false, false, false, false, false, false, false, false, false, false, false, false, false, false, false, false, false, false, false, false, false] (by kernel_rfl) rfl rfl ⟨⟨below_drew (Below.refl _ _)⟩, r0, r1, r2, r3, r4, r5, r6, r7, r8, r9, e0, e1, e2, e3, e4, e5, g2⟩ (fun hHeld => ?_)
              refine WL.tab tab15_9 (fun HT_ => ?_)
              refine WL.more [1, 5, 0, 2, 6, 7, 3, 4, 8, 9, 10, 11, 12, 13, 14, 17, 23, 15, 16, 18, 24, 25, 19, 20, 21, 22, 26, 27, 28] ?_
              repeat (first
                | (refine WL.off (lb' := ?_) (ys := ?_) rfl rfl (by rfl) ?_ HT_.out ?_ (fun _ _ _ h => h) ?_ ?_; rotate_left 2; (focus dsimp only [List.set_cons_zero, List.set_cons_succ]; rfl); (focus kernel_rfl); (focus dsimp only [List.set_cons_zero, List.set_cons_succ]; rfl))
                | (refine WL.pure (lb' := ?_) (v := ?_) (ys := ?_) rfl rfl (by rfl) ?_ HT_.out ?_ (fun _ _ _ h => h) ?_ ?_ ?_; rotate_left 3; (focus dsimp only [List.set_cons_zero, List.set_cons_succ]; rfl); (focus kernel_rfl); (focus intro w'; go_simp; with_reducible rfl); (focus dsimp only [List.set_cons_zero, List.set_cons_succ]; rfl))
                | (refine WL.take (lb' := ?_) (v := ?_) (ys := ?_) rfl rfl (by rfl) ?_ HT_.out ?_ (fun _ _ _ h => h) hHeld ?_ ?_ ?_; rotate_left 3; (focus dsimp only [List.set_cons_zero, List.set_cons_succ]; rfl); (focus kernel_rfl); (focus rintro w' ⟨s0, s1, s2, s3, s4, s5, s6, s7, s8, s9, s10, s11, s12, s13, s14, s15, s16, s17⟩; go_simp; with_reducible rfl); (focus dsimp only [List.set_cons_zero, List.set_cons_succ]; rfl))
                | (refine WL.one (lb' := ?_) rfl rfl ?_ HT_.out ?_ (by decide) (fun K hK => ?_); rotate_left; (focus dsimp only [List.set_cons_zero, List.set_cons_succ]; rfl); (focus kernel_rfl); first
                    | (refine goes_ Tryz.func72 (by kernel_rfl) rfl #[.agg #[.int .i64 s.f0, .int .u64 s.f1, .slice A2 s.f2.length c2, .slice A3 s.f3.length c3, .slice (some ad4) s.f4.length c4, .slice (some ad) s.f5.length c5, .slice A6 s.f6.length c6, .slice A7 s.f7.length c7, .slice A8 s.f8.length c8, .int .i64 s.f9], .string y.f0] (by rfl) rfl rfl (by simp only [List.map_toArray, List.map_cons, List.map_nil]; rfl) ?_; (with_reducible refine ((HCE _ (below_tr HBC.out hHeld.1.out)).out).mono ?_); rintro e w3 ⟨rfl, hb⟩; refine ⟨_, rfl, ?_⟩; refine hK.out _ _ (by have h_ := hHeld.2; refine ⟨⟨below_tr hHeld.1.out hb⟩, ?_⟩; repeat (first | exact below_cell hb h_ | (refine ⟨below_cell hb h_.1, ?_⟩; replace h_ := h_.2))) (fun hHeld => ?_); clear hK K; refine WL.put (ys := ?_) ?_ ?_; rotate_left; (focus dsimp only [List.set_cons_zero, List.set_cons_succ]; rfl))
                    | (refine goes_ Tryz.func70 (by kernel_rfl) rfl #[.agg #[.int .i64 s.f0, .int .u64 s.f1, .slice A2 s.f2.length c2, .slice A3 s.f3.length c3, .slice (some ad4) s.f4.length c4, .slice (some ad) s.f5.length c5, .slice A6 s.f6.length c6, .slice A7 s.f7.length c7, .slice A8 s.f8.length c8, .int .i64 s.f9], .string y.f2] (by rfl) rfl rfl (by simp only [List.map_toArray, List.map_cons, List.map_nil]; rfl) ?_; (with_reducible refine ((HSU _ (below_tr HBC.out hHeld.1.out)).out).mono ?_); rintro e w3 ⟨rfl, hb⟩; refine ⟨_, rfl, ?_⟩; refine hK.out _ _ (by have h_ := hHeld.2; refine ⟨⟨below_tr hHeld.1.out hb⟩, ?_⟩; repeat (first | exact below_cell hb h_ | (refine ⟨below_cell hb h_.1, ?_⟩; replace h_ := h_.2))) (fun hHeld => ?_); clear hK K; refine WL.put (ys := ?_) ?_ ?_; rotate_left; (focus dsimp only [List.set_cons_zero, List.set_cons_succ]; rfl))))
              refine WL.done HT_.out (by kernel_rfl) ?_
              have HBZ := Lib.hid (below_tr HBX.out hHeld.1.out)
              clear hHeld
              go_wp2
              all_goals first
                | (go_ret; exact RBq.no (below_tr HB.out HBZ.out))
                | (go_roundw
                   case rel => exact ⟨k + 1, by go_num, by omega, ⟨fun q hq => by
                     by_cases hqk : q = k
                     · subst hqk; rw [← HRD.out]; exact ⟨HIK.out.trans HKI.out, HST.out⟩
                     · exact HA.out q (by omega)⟩, ⟨HBZ.out⟩⟩
                   case measure => simp [intOf]; omega)
    · have HOK := Lib.hid (show Ok5 s from ⟨by have := H24.out; omega, fun j hj => HA.out j (by omega)⟩)
      clear HA
      go_wp2
      clear q0 q1 q2 q3 q4 q5 q6 q7 q8 q9
      go_loopw [5] (fun v5 wr => ∃ k : Nat, v5 = .int .i64 k ∧ k ≤ s.f6.length ∧ Aside0 (Below W1.heap.size W1 wr)) (fun v5 _ => s.f6.length - (intOf v5).toNat)
      case atStart => exact ⟨0, rfl, Nat.zero_le _, ⟨HBW.out⟩⟩
      case round =>
        clear HBW HY2 HS2
        obtain ⟨k, rfl, hk, HBW⟩ := hrel
        have HY2 := Lib.hid ((HBW.out.block W.heap.size (blk_lt HY.out)).trans HY.out)
        have HS2 := Lib.hid (HS.out.below HBW.out)
        have q0 : (wr).cell? ⟨W.heap.size, 0, none⟩ = some (.int .i64 s.f0) := (blk_cell HY2.out 0).trans rfl
        have q1 : (wr).cell? ⟨W.heap.size, 1, none⟩ = some (.int .u64 s.f1) := (blk_cell HY2.out 1).trans rfl
        have q2 : (wr).cell? ⟨W.heap.size, 2, none⟩ = some (.slice A2 s.f2.length c2) := (blk_cell HY2.out 2).trans rfl
        have q3 : (wr).cell? ⟨W.heap.size, 3, none⟩ = some (.slice A3 s.f3.length c3) := (blk_cell HY2.out 3).trans rfl
        have q4 : (wr).cell? ⟨W.heap.size, 4, none⟩ = some (.slice A4 s.f4.length c4) := (blk_cell HY2.out 4).trans rfl
        have q5 : (wr).cell? ⟨W.heap.size, 5, none⟩ = some (.slice A5 s.f5.length c5) := (blk_cell HY2.out 5).trans rfl
        have q6 : (wr).cell? ⟨W.heap.size, 6, none⟩ = some (.slice A6 s.f6.length c6) := (blk_cell HY2.out 6).trans rfl
        have q7 : (wr).cell? ⟨W.heap.size, 7, none⟩ = some (.slice A7 s.f7.length c7) := (blk_cell HY2.out 7).trans rfl
        have q8 : (wr).cell? ⟨W.heap.size, 8, none⟩ = some (.slice A8 s.f8.length c8) := (blk_cell HY2.out 8).trans rfl
        have q9 : (wr).cell? ⟨W.heap.size, 9, none⟩ = some (.int .i64 s.f9) := (blk_cell HY2.out 9).trans rfl
        by_cases hlt : k < s.f6.length
        · have hlt2 : (k : Int) < (s.f6.length : Int) := by omega
          obtain ⟨ad, A4_, c4_, e, h0, h1, h2, h3, h4, h5, h6, hl4, hC4⟩ := at_T78 HS2.out.g6 (k : Int) (by omega) (by omega)
          subst e
          simp only [Int.toNat_natCast] at h0 h1 h2 h3 h4 h5 h6
          have hzz := HZ.out.z6 _ (rd_mem100 hlt)
          generalize rd_T78 s.f6 (k : Int) = y at *
          have HN := fun w => Lib.hid (Name_eq y.f0 hzz.1 w)
          have HFI := fun w' (h : Below wr.heap.size wr w') => Lib.hid (Find22_eq s.f6 _ c6 y.f0 w' (HS2.out.below h).g6)
          have HMY := fun w' (h : Below wr.heap.size wr w') => Lib.hid (May20_any y.f1 A4_ c4_ w' hzz.2 (Kd.C_below hC4 h) hl4)
          clear hzz hC4 hl4 q0 q1 q2 q3 q4 q5 q7 q8 q9 h6
          generalize ix (nm100 y.f0) s.f6 0 = i at *
          generalize hi3 : (i != (k : Int)) = d3 at *
          have hi2 : (i == (k : Int)) = !d3 := by rw [← hi3]; simp [bne]
          cases hnk : nmOk y.f0
          all_goals cases d3
          all_goals
            rw [hnk] at HN
            go_wp2_with fail
            refine WL.start (n := 31) (S := fun w' => Aside0 (Below wr.heap.size wr w') ∧ w'.cell? ⟨W.heap.size, 6, none⟩ = some (.slice (some ad) s.f6.length c6) ∧ w'.cell? (ad.add (k * 7)) = some (.string y.f0) ∧ w'.cell? ⟨(ad.add (k * 7)).block, (ad.add (k * 7)).off + 1, none⟩ = some (.int .i64 y.f1.f0) ∧ w'.cell? ⟨(ad.add (k * 7)).block, (ad.add (k * 7)).off + 2, none⟩ = some (.string y.f1.f1) ∧ w'.cell? ⟨(ad.add (k * 7)).block, (ad.add (k * 7)).off + 3, none⟩ = some (.int .i64 y.f1.f2) ∧ w'.cell? ⟨(ad.add (k * 7)).block, (ad.add (k * 7)).off + 4, none⟩ = some (.int .i64 y.f1.f3) ∧ w'.cell? ⟨(ad.add (k * 7)).block, (ad.add (k * 7)).off + 5, none⟩ = some (.slice A4_ y.f1.f4.length c4_)) (ds := []) [false, false, false, false, false, false, false, false, false, false, false, false, false, false, false, false, false, false, false, false, false, false, false, false, false, false, false, false, false, false, false] (by kernel_rfl) rfl rfl ⟨⟨below_drew (Below.refl _ _)⟩, q6, h0, h1, h2, h3, h4, h5⟩ (fun hHeld => ?_)
            refine WL.tab tab15_14 (fun HT_ => ?_)
            refine WL.more [0, 2, 1, 3, 4, 5, 6, 7, 8, 9, 11, 13, 18, 10, 12, 14, 15, 16, 17, 19, 20, 21, 22, 24, 23, 25, 26, 27, 28, 29, 30] ?_
            repeat (first
              | (refine WL.off (lb' := ?_) (ys := ?_) rfl rfl (by rfl) ?_ HT_.out ?_ (fun _ _ _ h => h) ?_ ?_; rotate_left 2; (focus dsimp only [List.set_cons_zero, List.set_cons_succ]; rfl); (focus kernel_rfl); (focus dsimp only [List.set_cons_zero, List.set_cons_succ]; rfl))
              | (refine WL.pure (lb' := ?_) (v := ?_) (ys := ?_) rfl rfl (by rfl) ?_ HT_.out ?_ (fun _ _ _ h => h) ?_ ?_ ?_; rotate_left 3; (focus dsimp only [List.set_cons_zero, List.set_cons_succ]; rfl); (focus kernel_rfl); (focus intro w'; go_simp; with_reducible rfl); (focus dsimp only [List.set_cons_zero, List.set_cons_succ]; rfl))
              | (refine WL.take (lb' := ?_) (v := ?_) (ys := ?_) rfl rfl (by rfl) ?_ HT_.out ?_ (fun _ _ _ h => h) hHeld ?_ ?_ ?_; rotate_left 3; (focus dsimp only [List.set_cons_zero, List.set_cons_succ]; rfl); (focus kernel_rfl); (focus rintro w' ⟨s0, s1, s2, s3, s4, s5, s6, s7⟩; go_simp; with_reducible rfl); (focus dsimp only [List.set_cons_zero, List.set_cons_succ]; rfl))
              | (refine WL.one (lb' := ?_) rfl rfl ?_ HT_.out ?_ (by decide) (fun K hK => ?_); rotate_left; (focus dsimp only [List.set_cons_zero, List.set_cons_succ]; rfl); (focus kernel_rfl); first
                  | (refine goes_ Tryz.func68 (by kernel_rfl) rfl #[.string y.f0] (by rfl) rfl rfl (by simp only [List.map_toArray, List.map_cons, List.map_nil]; rfl) ?_; (with_reducible refine ((HN _).out).mono ?_); rintro e w3 ⟨rfl, rfl⟩; refine ⟨_, rfl, ?_⟩; refine hK.out _ _ hHeld (fun hHeld => ?_); clear hK K; refine WL.put (ys := ?_) ?_ ?_; rotate_left; (focus dsimp only [List.set_cons_zero, List.set_cons_succ]; rfl))
                  | (refine goes_ Tryz.func73 (by kernel_rfl) rfl #[.slice (some ad) s.f6.length c6, .string y.f0] (by rfl) rfl rfl (by simp only [List.map_toArray, List.map_cons, List.map_nil]; rfl) ?_; (with_reducible refine ((HFI _ hHeld.1.out).out).mono ?_); rintro e w3 ⟨rfl, rfl⟩; refine ⟨_, rfl, ?_⟩; refine hK.out _ _ hHeld (fun hHeld => ?_); clear hK K; refine WL.put (ys := ?_) ?_ ?_; rotate_left; (focus dsimp only [List.set_cons_zero, List.set_cons_succ]; rfl))
                  | (refine goes_ Tryz.func74 (by kernel_rfl) rfl #[.agg #[.int .i64 y.f1.f0, .string y.f1.f1, .int .i64 y.f1.f2, .int .i64 y.f1.f3, .slice A4_ y.f1.f4.length c4_]] (by rfl) rfl rfl (by simp only [List.map_toArray, List.map_cons, List.map_nil]; rfl) ?_; (with_reducible refine ((HMY _ hHeld.1.out).out).mono ?_); rintro e w3 ⟨b, rfl, hb⟩; refine ⟨_, rfl, ?_⟩; refine hK.out _ _ (by have h_ := hHeld.2; refine ⟨⟨below_tr hHeld.1.out hb⟩, ?_⟩; repeat (first | exact below_cell hb h_ | (refine ⟨below_cell hb h_.1, ?_⟩; replace h_ := h_.2))) (fun hHeld => ?_); clear hK K; refine WL.put (ys := ?_) ?_ ?_; rotate_left; (focus dsimp only [List.set_cons_zero, List.set_cons_succ]; rfl))))
            refine WL.done HT_.out (by kernel_rfl) ?_
            have HBZ := Lib.hid (below_tr HBW.out hHeld.1.out)
            clear hHeld
            go_wp2
            all_goals first
              | (go_ret; exact RBq.no (below_tr HB.out HBZ.out))
              | (go_roundw
                 case rel => exact ⟨k + 1, by go_num, by omega, ⟨HBZ.out⟩⟩
                 case measure => simp [intOf]; omega)
        · go_wp2
          clear q0 q1 q2 q3 q4 q5 q6 q7 q8 q9
          go_loopw [6] (fun v6 wr => ∃ k : Nat, v6 = .int .i64 k ∧ k ≤ s.f7.length ∧ Aside0 (Below W1.heap.size W1 wr)) (fun v6 _ => s.f7.length - (intOf v6).toNat)
          case atStart => exact ⟨0, rfl, Nat.zero_le _, ⟨HBW.out⟩⟩
          case round =>
            clear HBW HY2 HS2
            obtain ⟨k, rfl, hk, HBW⟩ := hrel
            have HY2 := Lib.hid ((HBW.out.block W.heap.size (blk_lt HY.out)).trans HY.out)
            have HS2 := Lib.hid (HS.out.below HBW.out)
            have q0 : (wr).cell? ⟨W.heap.size, 0, none⟩ = some (.int .i64 s.f0) := (blk_cell HY2.out 0).trans rfl
            have q1 : (wr).cell? ⟨W.heap.size, 1, none⟩ = some (.int .u64 s.f1) := (blk_cell HY2.out 1).trans rfl
            have q2 : (wr).cell? ⟨W.heap.size, 2, none⟩ = some (.slice A2 s.f2.length c2) := (blk_cell HY2.out 2).trans rfl
            have q3 : (wr).cell? ⟨W.heap.size, 3, none⟩ = some (.slice A3 s.f3.length c3) := (blk_cell HY2.out 3).trans rfl
            have q4 : (wr).cell? ⟨W.heap.size, 4, none⟩ = some (.slice A4 s.f4.length c4) := (blk_cell HY2.out 4).trans rfl
            have q5 : (wr).cell? ⟨W.heap.size, 5, none⟩ = some (.slice A5 s.f5.length c5) := (blk_cell HY2.out 5).trans rfl
            have q6 : (wr).cell? ⟨W.heap.size, 6, none⟩ = some (.slice A6 s.f6.length c6) := (blk_cell HY2.out 6).trans rfl
            have q7 : (wr).cell? ⟨W.heap.size, 7, none⟩ = some (.slice A7 s.f7.length c7) := (blk_cell HY2.out 7).trans rfl
            have q8 : (wr).cell? ⟨W.heap.size, 8, none⟩ = some (.slice A8 s.f8.length c8) := (blk_cell HY2.out 8).trans rfl
            have q9 : (wr).cell? ⟨W.heap.size, 9, none⟩ = some (.int .i64 s.f9) := (blk_cell HY2.out 9).trans rfl
            by_cases hlt : k < s.f7.length
            · have hlt2 : (k : Int) < (s.f7.length : Int) := by omega
              obtain ⟨ad, A4_, c4_, e, h0, h1, h2, h3, hl4, hC4⟩ := at_T84 HS2.out.g7 (k : Int) (by omega) (by omega)
              subst e
              simp only [Int.toNat_natCast] at h0 h1 h2 h3
              have hzz := HZ.out.z7 _ (rd_mem61 hlt)
              generalize rd_T84 s.f7 (k : Int) = y at *
              have HMY := fun w' (h : Below wr.heap.size wr w') => Lib.hid (May25_any y A4_ c4_ w' (Kd.C_below hC4 h) hl4 hzz.2 hzz.1)
              have HCE := fun w' (h : Below wr.heap.size wr w') => Lib.hid (Cert_eq s _ _ _ _ _ _ _ _ _ _ _ _ _ _ y.f0 w' (HS2.out.below h))
              have HRE := fun w' (h : Below wr.heap.size wr w') => Lib.hid (Rec_eq s _ _ _ _ _ _ _ _ _ _ _ _ _ _ y.f0 w' (HS2.out.below h))
              clear hzz hC4 hl4
              generalize ix (nm61 y.f0) s.f7 0 = i at *
              generalize ix (nm73 y.f0) s.f5 0 = j at *
              go_wp2_with fail
              refine WL.start (n := 41) (S := fun w' => Aside0 (Below wr.heap.size wr w') ∧ w'.cell? ⟨W.heap.size, 0, none⟩ = some (.int .i64 s.f0) ∧ w'.cell? ⟨W.heap.size, 1, none⟩ = some (.int .u64 s.f1) ∧ w'.cell? ⟨W.heap.size, 2, none⟩ = some (.slice A2 s.f2.length c2) ∧ w'.cell? ⟨W.heap.size, 3, none⟩ = some (.slice A3 s.f3.length c3) ∧ w'.cell? ⟨W.heap.size, 4, none⟩ = some (.slice A4 s.f4.length c4) ∧ w'.cell? ⟨W.heap.size, 5, none⟩ = some (.slice A5 s.f5.length c5) ∧ w'.cell? ⟨W.heap.size, 6, none⟩ = some (.slice A6 s.f6.length c6) ∧ w'.cell? ⟨W.heap.size, 7, none⟩ = some (.slice (some ad) s.f7.length c7) ∧ w'.cell? ⟨W.heap.size, 8, none⟩ = some (.slice A8 s.f8.length c8) ∧ w'.cell? ⟨W.heap.size, 9, none⟩ = some (.int .i64 s.f9) ∧ w'.cell? (ad.add (k * 4)) = some (.string y.f0) ∧ w'.cell? ⟨(ad.add (k * 4)).block, (ad.add (k * 4)).off + 1, none⟩ = some (.int .i64 y.f1) ∧ w'.cell? ⟨(ad.add (k * 4)).block, (ad.add (k * 4)).off + 2, none⟩ = some (.int .u64 y.f2) ∧ w'.cell? ⟨(ad.add (k * 4)).block, (ad.add (k * 4)).off + 3, none⟩ = some (.slice A4_ y.f3.length c4_)) (ds := []) [false, false, false, false, false, false, false, false, false, false, false, false, false, false, false, false, false, false, false, false, false, false, false, false, false, false, false, false, false, false, false, false, false, false, false, false, false, false, false, false, false] (by kernel_rfl) rfl rfl ⟨⟨below_drew (Below.refl _ _)⟩, q0, q1, q2, q3, q4, q5, q6, q7, q8, q9, h0, h1, h2, h3⟩ (fun hHeld => ?_)
              refine WL.tab tab15_19 (fun HT_ => ?_)
              refine WL.more [0, 2, 1, 3, 4, 5] ?_
              repeat (first
                | (refine WL.off (lb' := ?_) (ys := ?_) rfl rfl (by rfl) ?_ HT_.out ?_ (fun _ _ _ h => h) ?_ ?_; rotate_left 2; (focus dsimp only [List.set_cons_zero, List.set_cons_succ]; rfl); (focus kernel_rfl); (focus dsimp only [List.set_cons_zero, List.set_cons_succ]; rfl))
                | (refine WL.pure (lb' := ?_) (v := ?_) (ys := ?_) rfl rfl (by rfl) ?_ HT_.out ?_ (fun _ _ _ h => h) ?_ ?_ ?_; rotate_left 3; (focus dsimp only [List.set_cons_zero, List.set_cons_succ]; rfl); (focus kernel_rfl); (focus intro w'; go_simp; with_reducible rfl); (focus dsimp only [List.set_cons_zero, List.set_cons_succ]; rfl))
                | (refine WL.take (lb' := ?_) (v := ?_) (ys := ?_) rfl rfl (by rfl) ?_ HT_.out ?_ (fun _ _ _ h => h) hHeld ?_ ?_ ?_; rotate_left 3; (focus dsimp only [List.set_cons_zero, List.set_cons_succ]; rfl); (focus kernel_rfl); (focus rintro w' ⟨s0, s1, s2, s3, s4, s5, s6, s7, s8, s9, s10, s11, s12, s13, s14⟩; go_simp; with_reducible rfl); (focus dsimp only [List.set_cons_zero, List.set_cons_succ]; rfl))
                | (refine WL.one (lb' := ?_) rfl rfl ?_ HT_.out ?_ (by decide) (fun K hK => ?_); rotate_left; (focus dsimp only [List.set_cons_zero, List.set_cons_succ]; rfl); (focus kernel_rfl); first
                    | (refine goes_ Tryz.func75 (by kernel_rfl) rfl #[.agg #[.string y.f0, .int .i64 y.f1, .int .u64 y.f2, .slice A4_ y.f3.length c4_]] (by rfl) rfl rfl (by simp only [List.map_toArray, List.map_cons, List.map_nil]; rfl) ?_; (with_reducible refine ((HMY _ hHeld.1.out).out).mono ?_); rintro e w3 ⟨b, rfl, hb⟩; refine ⟨_, rfl, ?_⟩; refine hK.out _ _ (by have h_ := hHeld.2; refine ⟨⟨below_tr hHeld.1.out hb⟩, ?_⟩; repeat (first | exact below_cell hb h_ | (refine ⟨below_cell hb h_.1, ?_⟩; replace h_ := h_.2))) (fun hHeld => ?_); clear hK K; refine WL.put (ys := ?_) ?_ ?_; rotate_left; (focus dsimp only [List.set_cons_zero, List.set_cons_succ]; rfl))))
              generalize hi3 : (i != (k : Int)) = d3 at *
              have hi2 : (i == (k : Int)) = !d3 := by rw [← hi3]; simp [bne]
              generalize hj3 : decide (j < 0) = d4 at *
              cases b
              all_goals cases d3
              all_goals cases d4
              all_goals
                skip
                refine WL.more [6, 7, 9, 11, 16, 8, 10, 12, 13, 14, 15, 17, 18, 19, 21, 23, 20, 22, 24, 25, 26, 27, 28, 29, 30, 31, 33, 37, 32, 34, 35, 36, 38, 39, 40] ?_
                repeat (first
                  | (refine WL.off (lb' := ?_) (ys := ?_) rfl rfl (by rfl) ?_ HT_.out ?_ (fun _ _ _ h => h) ?_ ?_; rotate_left 2; (focus dsimp only [List.set_cons_zero, List.set_cons_succ]; rfl); (focus kernel_rfl); (focus dsimp only [List.set_cons_zero, List.set_cons_succ]; rfl))
                  | (refine WL.pure (lb' := ?_) (v := ?_) (ys := ?_) rfl rfl (by rfl) ?_ HT_.out ?_ (fun _ _ _ h => h) ?_ ?_ ?_; rotate_left 3; (focus dsimp only [List.set_cons_zero, List.set_cons_succ]; rfl); (focus kernel_rfl); (focus intro w'; go_simp; with_reducible rfl); (focus dsimp only [List.set_cons_zero, List.set_cons_succ]; rfl))
                  | (refine WL.take (lb' := ?_) (v := ?_) (ys := ?_) rfl rfl (by rfl) ?_ HT_.out ?_ (fun _ _ _ h => h) hHeld ?_ ?_ ?_; rotate_left 3; (focus dsimp only [List.set_cons_zero, List.set_cons_succ]; rfl); (focus kernel_rfl); (focus rintro w' ⟨s0, s1, s2, s3, s4, s5, s6, s7, s8, s9, s10, s11, s12, s13, s14⟩; go_simp; with_reducible rfl); (focus dsimp only [List.set_cons_zero, List.set_cons_succ]; rfl))
                  | (refine WL.one (lb' := ?_) rfl rfl ?_ HT_.out ?_ (by decide) (fun K hK => ?_); rotate_left; (focus dsimp only [List.set_cons_zero, List.set_cons_succ]; rfl); (focus kernel_rfl); first
                      | (refine goes_ Tryz.func72 (by kernel_rfl) rfl #[.agg #[.int .i64 s.f0, .int .u64 s.f1, .slice A2 s.f2.length c2, .slice A3 s.f3.length c3, .slice A4 s.f4.length c4, .slice A5 s.f5.length c5, .slice A6 s.f6.length c6, .slice (some ad) s.f7.length c7, .slice A8 s.f8.length c8, .int .i64 s.f9], .string y.f0] (by rfl) rfl rfl (by simp only [List.map_toArray, List.map_cons, List.map_nil]; rfl) ?_; (with_reducible refine ((HCE _ hHeld.1.out).out).mono ?_); rintro e w4 ⟨rfl, hb⟩; refine ⟨_, rfl, ?_⟩; refine hK.out _ _ (by have h_ := hHeld.2; refine ⟨⟨below_tr hHeld.1.out hb⟩, ?_⟩; repeat (first | exact below_cell hb h_ | (refine ⟨below_cell hb h_.1, ?_⟩; replace h_ := h_.2))) (fun hHeld => ?_); clear hK K; refine WL.put (ys := ?_) ?_ ?_; rotate_left; (focus dsimp only [List.set_cons_zero, List.set_cons_succ]; rfl))
                      | (refine goes_ Tryz.func71 (by kernel_rfl) rfl #[.agg #[.int .i64 s.f0, .int .u64 s.f1, .slice A2 s.f2.length c2, .slice A3 s.f3.length c3, .slice A4 s.f4.length c4, .slice A5 s.f5.length c5, .slice A6 s.f6.length c6, .slice (some ad) s.f7.length c7, .slice A8 s.f8.length c8, .int .i64 s.f9], .string y.f0] (by rfl) rfl rfl (by simp only [List.map_toArray, List.map_cons, List.map_nil]; rfl) ?_; (with_reducible refine ((HRE _ hHeld.1.out).out).mono ?_); rintro e w5 ⟨rfl, hb⟩; refine ⟨_, rfl, ?_⟩; refine hK.out _ _ (by have h_ := hHeld.2; refine ⟨⟨below_tr hHeld.1.out hb⟩, ?_⟩; repeat (first | exact below_cell hb h_ | (refine ⟨below_cell hb h_.1, ?_⟩; replace h_ := h_.2))) (fun hHeld => ?_); clear hK K; refine WL.put (ys := ?_) ?_ ?_; rotate_left; (focus dsimp only [List.set_cons_zero, List.set_cons_succ]; rfl))))
                refine WL.done HT_.out (by kernel_rfl) ?_
                have HBZ := Lib.hid (below_tr HBW.out hHeld.1.out)
                clear hHeld
                go_wp2
                all_goals first
                  | (go_ret; exact RBq.no (below_tr HB.out HBZ.out))
                  | (go_roundw
                     case rel => exact ⟨k + 1, by go_num, by omega, ⟨HBZ.out⟩⟩
                     case measure => simp [intOf]; omega)
            · go_wp2
              clear q0 q1 q2 q3 q4 q5 q6 q7 q8 q9
              go_loopw [7] (fun v7 wr => ∃ k : Nat, v7 = .int .i64 k ∧ k ≤ s.f8.length ∧ Aside0 (Below W1.heap.size W1 wr)) (fun v7 _ => s.f8.length - (intOf v7).toNat)
              case atStart => exact ⟨0, rfl, Nat.zero_le _, ⟨HBW.out⟩⟩
              case round =>
                clear HBW HY2 HS2
                obtain ⟨k, rfl, hk, HBW⟩ := hrel
                have HY2 := Lib.hid ((HBW.out.block W.heap.size (blk_lt HY.out)).trans HY.out)
                have HS2 := Lib.hid (HS.out.below HBW.out)
                have q0 : (wr).cell? ⟨W.heap.size, 0, none⟩ = some (.int .i64 s.f0) := (blk_cell HY2.out 0).trans rfl
                have q1 : (wr).cell? ⟨W.heap.size, 1, none⟩ = some (.int .u64 s.f1) := (blk_cell HY2.out 1).trans rfl
                have q2 : (wr).cell? ⟨W.heap.size, 2, none⟩ = some (.slice A2 s.f2.length c2) := (blk_cell HY2.out 2).trans rfl
                have q3 : (wr).cell? ⟨W.heap.size, 3, none⟩ = some (.slice A3 s.f3.length c3) := (blk_cell HY2.out 3).trans rfl
                have q4 : (wr).cell? ⟨W.heap.size, 4, none⟩ = some (.slice A4 s.f4.length c4) := (blk_cell HY2.out 4).trans rfl
                have q5 : (wr).cell? ⟨W.heap.size, 5, none⟩ = some (.slice A5 s.f5.length c5) := (blk_cell HY2.out 5).trans rfl
                have q6 : (wr).cell? ⟨W.heap.size, 6, none⟩ = some (.slice A6 s.f6.length c6) := (blk_cell HY2.out 6).trans rfl
                have q7 : (wr).cell? ⟨W.heap.size, 7, none⟩ = some (.slice A7 s.f7.length c7) := (blk_cell HY2.out 7).trans rfl
                have q8 : (wr).cell? ⟨W.heap.size, 8, none⟩ = some (.slice A8 s.f8.length c8) := (blk_cell HY2.out 8).trans rfl
                have q9 : (wr).cell? ⟨W.heap.size, 9, none⟩ = some (.int .i64 s.f9) := (blk_cell HY2.out 9).trans rfl
                by_cases hlt : k < s.f8.length
                · have hlt2 : (k : Int) < (s.f8.length : Int) := by omega
                  obtain ⟨ad, e, h0⟩ := Kd.at_int HS2.out.g8 (k : Int) (by omega) (by omega)
                  subst e
                  simp only [Int.toNat_natCast] at h0
                  generalize rd s.f8 (k : Int) = x at *
                  clear q0 q1 q2 q3 q4 q5 q6 q7
                  generalize hx1 : decide (x < 0) = d1 at *
                  generalize hx3 : decide (s.f9 ≤ x) = d2 at *
                  have hw : IntKind.i64.wrap ((k : Int) - 1) = (k : Int) - 1 := by rw [i64_w]; unfold wrap64; omega
                  by_cases hk0 : (0 : Int) < k
                  all_goals cases d1
                  all_goals cases d2
                  all_goals first
                    | (have hk1 : decide ((0 : Int) < (k : Int)) = true := decide_eq_true hk0
                       have hk2 : decide (0 < k) = true := decide_eq_true (by omega)
                       obtain ⟨ad2, e2, h1⟩ := Kd.at_int HS2.out.g8 ((k : Int) - 1) (by omega) (by omega)
                       injection e2 with e2
                       subst e2
                       have hkk : ((k : Int) - 1).toNat = k - 1 := by omega
                       rw [hkk] at h1
                       have hb1 : (1 : Int) ≤ (k : Int) := by omega
                       have hb2 : (k : Int) - 1 < (s.f8.length : Int) := by omega
                       clear hk0)
                    | (have hk1 : decide ((0 : Int) < (k : Int)) = false := decide_eq_false hk0
                       have hk2 : decide (0 < k) = false := decide_eq_false (by omega))
                  all_goals
                    go_wp2_with fail
                    go_quiet (fail)
                    have HBZ := Lib.hid (pw_below_drewN HBW.out nq)
                    go_wp2
                    all_goals first
                      | (go_ret; exact RBq.no (below_tr HB.out HBZ.out))
                      | (go_roundw
                         case rel => exact ⟨k + 1, by go_num, by omega, ⟨HBZ.out⟩⟩
                         case measure => simp [intOf]; omega)
                · go_wp2
                  go_ret
                  exact ⟨true, rfl, fun _ => HOK.out, below_tr HB.out HBW.out⟩

end Go.Proofs.YtafigkikblpbnaaGreatDoor.PG
namespace Go.Proofs.YtafigkikblpbnaaGreatDoor.PG
open Go.RowKit Go.Proofs.YtafigkikblpbnaaGreatDoorW.PrintWords Go.Proofs.YtafigkikblpbnaaGreatDoorW.PrintLast Go.Proofs.YtafigkikblpbnaaGreatDoorW.PrintMore
set_option linter.unusedVariables false
set_option linter.unusedSimpArgs false
set_option maxRecDepth 100000

/-- How long a condition's text is at most. -/
def EB : Nat → Nat
  | 0 => 0
  | d + 1 => 24 * (EB d + 7) + 60
/-- It answers a text of such a size; nothing that was there is turned. -/
def RTb (n : Nat) (w : World) (e : Ending) (w' : World) : Prop := ∃ s : ByteArray, e = .returned (.string s) ∧ s.size ≤ n ∧ Below w.heap.size w w'
set_option maxHeartbeats 4000000 in
theorem Expr17 : ∀ (d : Nat) (x : S94) (A : Option Addr) (c : Nat) (W : World), EB d ≤ 100000000000000 → H95 d x → Kd.C k94 W A x.f3.length x.f3 → x.f3.length ≤ c →
    Calls Tryz.prog 66 #[.agg #[.int .i64 x.f0, .int .i64 x.f1, .string x.f2, .slice A x.f3.length c]] W (RTb (EB d) W) := by
  intro d
  induction d with
  | zero => intro x A c W _ h; exact absurd h id
  | succ d ih =>
    intro x A c W hE hH hC hl
    have HIH := Lib.hid ih
    clear ih
    have HB := Lib.hid (show Below W.heap.size W (W.alloc (.cells #[.int .i64 x.f0, .int .i64 x.f1, .string x.f2, .slice A x.f3.length c] 94 (0, 0))) from below_alloc (Below.refl _ _) _)
    have HY := Lib.hid (new_blk W (.cells #[.int .i64 x.f0, .int .i64 x.f1, .string x.f2, .slice A x.f3.length c] 94 (0, 0)))
    have HC := Lib.hid (Kd.C_below hC HB.out)
    have HH := Lib.hid hH
    have hm : x.f3.length ≤ 24 := hH.2.1
    have h16 : x.f2.size ≤ 16 := hH.1
    have hE2 : 24 * (EB d + 7) + 60 ≤ 100000000000000 := hE
    have HEB := Lib.hid (show EB (d + 1) = 24 * (EB d + 7) + 60 from rfl)
    clear hC hH hE
    have q0 : (W.alloc (.cells #[.int .i64 x.f0, .int .i64 x.f1, .string x.f2, .slice A x.f3.length c] 94 (0, 0))).cell? ⟨W.heap.size, 0, none⟩ = some (.int .i64 x.f0) := (blk_cell HY.out 0).trans rfl
    have q1 : (W.alloc (.cells #[.int .i64 x.f0, .int .i64 x.f1, .string x.f2, .slice A x.f3.length c] 94 (0, 0))).cell? ⟨W.heap.size, 1, none⟩ = some (.int .i64 x.f1) := (blk_cell HY.out 1).trans rfl
    have q2 : (W.alloc (.cells #[.int .i64 x.f0, .int .i64 x.f1, .string x.f2, .slice A x.f3.length c] 94 (0, 0))).cell? ⟨W.heap.size, 2, none⟩ = some (.string x.f2) := (blk_cell HY.out 2).trans rfl
    have q3 : (W.alloc (.cells #[.int .i64 x.f0, .int .i64 x.f1, .string x.f2, .slice A x.f3.length c] 94 (0, 0))).cell? ⟨W.heap.size, 3, none⟩ = some (.slice A x.f3.length c) := (blk_cell HY.out 3).trans rfl
    by_cases hop : x.f0 = 1
    · have hop' : (x.f0 == 1) = true := by simp [hop]
      obtain ⟨tx, HT, htx⟩ : ∃ tx : ByteArray, (∀ w, Hid (Calls Tryz.prog 104 #[.int .i64 x.f1] w fun e w' => e = .returned (.string tx) ∧ ∃ m, w' = w.drewN m)) ∧ tx.size ≤ 21 := ⟨_, fun w => Text_any x.f1 w, by
        split
        · exact Nat.zero_le _
        · exact txS_size _⟩
      have hz1 : tx.size + (⟨#[32, 97, 102, 116, 101, 114, 32]⟩ : ByteArray).size ≤ 9223372036854775807 := by rw [show (⟨#[32, 97, 102, 116, 101, 114, 32]⟩ : ByteArray).size = 7 from rfl]; omega
      have hz2 : (tx ++ (⟨#[32, 97, 102, 116, 101, 114, 32]⟩ : ByteArray)).size + x.f2.size ≤ 9223372036854775807 := by rw [ByteArray.size_append, show (⟨#[32, 97, 102, 116, 101, 114, 32]⟩ : ByteArray).size = 7 from rfl]; omega
      go_enter Tryz.func66, Tryz.ntmps66
      go_wp2_with fail
      go_quiet (first | (go_at_call 104; exact Calls.quiet_of (HT _).out))
      go_wp2
      go_ret
      exact ⟨_, rfl, by rw [HEB.out, ByteArray.size_append, ByteArray.size_append, show (⟨#[32, 97, 102, 116, 101, 114, 32]⟩ : ByteArray).size = 7 from rfl]; omega, pw_below_drewN (below_alloc (Below.refl _ _) _) _⟩
    · have hop' : (x.f0 == 1) = false := by simp [hop]
      go_enter Tryz.func66, Tryz.ntmps66
      go_wp2
      generalize W.alloc (.cells #[.int .i64 x.f0, .int .i64 x.f1, .string x.f2, .slice A x.f3.length c] 94 (0, 0)) = W1 at *
      clear q0 q1 q2 q3
      go_loopw [3, 4] (fun v3 v4 wr => ∃ (k : Nat) (t : ByteArray), v4 = .int .i64 k ∧ k ≤ x.f3.length ∧ v3 = .string t ∧ Aside0 (t.size ≤ k * (EB d + 7)) ∧ Aside0 (Below W1.heap.size W1 wr)) (fun v3 v4 _ => x.f3.length - (intOf v4).toNat)
      case atStart => exact ⟨0, _, rfl, Nat.zero_le _, rfl, ⟨Nat.zero_le _⟩, ⟨Below.refl _ _⟩⟩
      case round =>
        obtain ⟨k, t, rfl, hk, rfl, HS, HBW⟩ := hrel
        have HY2 := Lib.hid ((HBW.out.block W.heap.size (blk_lt HY.out)).trans HY.out)
        have q0 : (wr).cell? ⟨W.heap.size, 0, none⟩ = some (.int .i64 x.f0) := (blk_cell HY2.out 0).trans rfl
        have q1 : (wr).cell? ⟨W.heap.size, 1, none⟩ = some (.int .i64 x.f1) := (blk_cell HY2.out 1).trans rfl
        have q2 : (wr).cell? ⟨W.heap.size, 2, none⟩ = some (.string x.f2) := (blk_cell HY2.out 2).trans rfl
        have q3 : (wr).cell? ⟨W.heap.size, 3, none⟩ = some (.slice A x.f3.length c) := (blk_cell HY2.out 3).trans rfl
        by_cases hlt : k < x.f3.length
        · have hlt2 : (k : Int) < (x.f3.length : Int) := by omega
          obtain ⟨ad, A4, c4, e, h0, h1, h2, h3, hl4, hC4⟩ := at_T94 (Kd.C_below HC.out HBW.out) (k : Int) (by omega) (by omega)
          subst e
          simp only [Int.toNat_natCast] at h0 h1 h2 h3
          have hy := HH.out.2.2 _ (rd_mem95 hlt)
          generalize rd_T94 x.f3 (k : Int) = y at *
          have HBA := Lib.hid (below_alloc (Below.refl wr.heap.size wr) (.cells #[.int .i64 y.f0, .int .i64 y.f1, .string y.f2, .slice A4 y.f3.length c4] 94 (0, 0)))
          have HYA := Lib.hid (new_blk wr (.cells #[.int .i64 y.f0, .int .i64 y.f1, .string y.f2, .slice A4 y.f3.length c4] 94 (0, 0)))
          have HYB := Lib.hid ((HBA.out.block W.heap.size (blk_lt HY2.out)).trans HY2.out)
          have HCALL := Lib.hid (HIH.out y A4 c4 (wr.alloc (.cells #[.int .i64 y.f0, .int .i64 y.f1, .string y.f2, .slice A4 y.f3.length c4] 94 (0, 0))) (by omega) hy (Kd.C_below hC4 HBA.out) hl4)
          clear hC4 hl4 hy
          go_wp2_with fail
          refine HCALL.out.mono ?_
          rintro e w2 ⟨s, rfl, hs, hb⟩
          have HB2 := Lib.hid (below_tr HBW.out (below_tr HBA.out hb))
          have HY3 := Lib.hid ((hb.block W.heap.size (blk_lt HYB.out)).trans HYB.out)
          have HY4 := Lib.hid ((hb.block wr.heap.size (blk_lt HYA.out)).trans HYA.out)
          clear hb q0 q1 q2 q3 h0 h1 h2 h3
          have q0 : w2.cell? ⟨W.heap.size, 0, none⟩ = some (.int .i64 x.f0) := (blk_cell HY3.out 0).trans rfl
          have q1 : w2.cell? ⟨W.heap.size, 1, none⟩ = some (.int .i64 x.f1) := (blk_cell HY3.out 1).trans rfl
          have q2 : w2.cell? ⟨W.heap.size, 2, none⟩ = some (.string x.f2) := (blk_cell HY3.out 2).trans rfl
          have q3 : w2.cell? ⟨W.heap.size, 3, none⟩ = some (.slice (some ad) x.f3.length c) := (blk_cell HY3.out 3).trans rfl
          have r0 : w2.cell? ⟨wr.heap.size, 0, none⟩ = some (.int .i64 y.f0) := (blk_cell HY4.out 0).trans rfl
          have r1 : w2.cell? ⟨wr.heap.size, 1, none⟩ = some (.int .i64 y.f1) := (blk_cell HY4.out 1).trans rfl
          have r2 : w2.cell? ⟨wr.heap.size, 2, none⟩ = some (.string y.f2) := (blk_cell HY4.out 2).trans rfl
          have r3 : w2.cell? ⟨wr.heap.size, 3, none⟩ = some (.slice A4 y.f3.length c4) := (blk_cell HY4.out 3).trans rfl
          have ht : t.size ≤ 100000000000000 := by have h := HS.out; have h3 : k * (EB d + 7) ≤ 24 * (EB d + 7) := Nat.mul_le_mul_right _ (by omega); omega
          go_wp2
          all_goals first
            | (exfalso; omega)
            | (go_roundw
               case rel => exact ⟨k + 1, _, by go_num, by omega, rfl, ⟨by
                 have h := HS.out
                 have e1 : (⟨#[40]⟩ : ByteArray).size = 1 := rfl
                 have e2 : (⟨#[41]⟩ : ByteArray).size = 1 := rfl
                 have e3 : (⟨#[32, 111, 114, 32]⟩ : ByteArray).size = 4 := rfl
                 have e4 : (⟨#[32, 97, 110, 100, 32]⟩ : ByteArray).size = 5 := rfl
                 rw [Nat.succ_mul]
                 simp only [ByteArray.size_append, e1, e2, e3, e4]
                 omega⟩, ⟨HB2.out⟩⟩
               case measure => simp [intOf]; omega)
        · go_wp2
          go_ret
          exact ⟨t, rfl, by have h := HS.out; have h2 := HEB.out; have h3 : k * (EB d + 7) ≤ 24 * (EB d + 7) := Nat.mul_le_mul_right _ (by omega); omega, below_tr HB.out HBW.out⟩
end Go.Proofs.YtafigkikblpbnaaGreatDoor.PG
namespace Go.Proofs.YtafigkikblpbnaaGreatDoor.PG
open Go.RowKit Go.Proofs.YtafigkikblpbnaaGreatDoorW.PrintWords Go.Proofs.YtafigkikblpbnaaGreatDoorW.PrintLast Go.Proofs.YtafigkikblpbnaaGreatDoorW.PrintMore
set_option linter.unusedVariables false
set_option linter.unusedSimpArgs false
set_option maxRecDepth 100000

/-- It answers a text and a number; where it is 0 p holds; nothing that was there is turned. -/
def RTI (p : Prop) (w : World) (e : Ending) (w' : World) : Prop := ∃ (s : ByteArray) (r : Int), e = .returned (.tuple #[.string s, .int .i64 r]) ∧ (r = 0 → p) ∧ Below w.heap.size w w'
end Go.Proofs.YtafigkikblpbnaaGreatDoor.PG
namespace Go.Proofs.YtafigkikblpbnaaGreatDoor.PG
open Go.RowKit Go.Proofs.YtafigkikblpbnaaGreatDoorW.PrintWords Go.Proofs.YtafigkikblpbnaaGreatDoorW.PrintLast Go.Proofs.YtafigkikblpbnaaGreatDoorW.PrintMore
set_option linter.unusedVariables false
set_option linter.unusedSimpArgs false
set_option maxRecDepth 100000

/-- What is known of a state that may be. -/
structure May5 (s : S31) : Prop where
  rules : s.f2.length ≤ 12 ∧ ∀ x ∈ s.f2, H95 8 x.f1 ∧ x.f0.size ≤ 16
  miles : ∀ y ∈ s.f3, y.f1.length ≤ 8
  recs : Ok5 s

end Go.Proofs.YtafigkikblpbnaaGreatDoor.PG
namespace Go.Proofs.YtafigkikblpbnaaGreatDoor.PG
open Go.RowKit Go.Proofs.YtafigkikblpbnaaGreatDoorW.PrintWords Go.Proofs.YtafigkikblpbnaaGreatDoorW.PrintLast Go.Proofs.YtafigkikblpbnaaGreatDoorW.PrintMore
set_option linter.unusedVariables false
set_option linter.unusedSimpArgs false
set_option maxRecDepth 100000
theorem ix_any {α : Type} (p : α → Bool) : ∀ (l : List α) (i : Nat), decide (ix p l i ≥ 0) = l.any p
  | [], _ => rfl
  | x :: xs, i => by
    unfold ix
    by_cases h : p x = true
    · rw [if_pos h, List.any_cons, h]; simp
    · rw [if_neg h, ix_any p xs (i + 1), List.any_cons]
      simp [h]
/-- What a scope matches, so deep. -/
def mt : Nat → S76 → S48 → Bool
  | 0, _, _ => false
  | d + 1, x, r => if x.f0 = 1 then true else if x.f0 = 2 then (r.f1.toList == x.f1.toList) else if x.f0 = 3 then (r.f2.toList == x.f1.toList) else if x.f0 = 4 then (r.f3.toList == x.f1.toList)
      else if x.f0 = 5 then (decide (r.f4 ≥ x.f2) && decide (r.f4 ≤ x.f3)) else if x.f0 = 7 then x.f4.any (fun y => mt d y r) else if x.f0 = 6 then !(x.f4.any (fun y => !mt d y r))
      else if x.f0 = 8 then (if x.f4.length = 0 then true else !mt d (rd_T76 x.f4 0) r) else false
/-- A scope is at most so deep. -/
def dp : Nat → S76 → Prop
  | 0, _ => False
  | d + 1, x => ∀ y ∈ x.f4, dp d y
def MatchAt (d : Nat) : Prop := ∀ (x : S76) (r : S48) (A : Option Addr) (c : Nat) (W : World), dp d x → Kd.C k76 W A x.f4.length x.f4 → x.f4.length ≤ c →
  Calls Tryz.prog 34 #[.agg #[.int .i64 x.f0, .string x.f1, .int .i64 x.f2, .int .i64 x.f3, .slice A x.f4.length c], .agg #[.string r.f0, .string r.f1, .string r.f2, .string r.f3, .int .i64 r.f4, .int .i64 r.f5]] W fun e W' => e = .returned (.bool (mt d x r)) ∧ Below W.heap.size W W'
set_option maxHeartbeats 1000000 in
theorem lit1_any (d : Nat) (IH : MatchAt d) (y : S76) (r : S48) (A : Option Addr) (c : Nat) (br : Nat) (W : World) (hd : dp d y) (hC : Kd.C k76 W A y.f4.length y.f4) (hl : y.f4.length ≤ c) (hbr : W.heap[br]? = some (.cells #[.string r.f0, .string r.f1, .string r.f2, .string r.f3, .int .i64 r.f4, .int .i64 r.f5] 48 (0, 0))) :
    Calls Tryz.prog 57 #[.agg #[.int .i64 y.f0, .string y.f1, .int .i64 y.f2, .int .i64 y.f3, .slice A y.f4.length c], .pointer (some ⟨br, 0, none⟩)] W fun e W' => e = .returned (.bool (mt d y r)) ∧ Below W.heap.size W W' := by
  have HB := Lib.hid (show Below W.heap.size W (W.alloc (.cells #[.int .i64 y.f0, .string y.f1, .int .i64 y.f2, .int .i64 y.f3, .slice A y.f4.length c] 76 (0, 0))) from below_alloc (Below.refl _ _) _)
  have HY := Lib.hid (new_blk W (.cells #[.int .i64 y.f0, .string y.f1, .int .i64 y.f2, .int .i64 y.f3, .slice A y.f4.length c] 76 (0, 0)))
  have HR := Lib.hid ((HB.out.block br (blk_lt hbr)).trans hbr)
  have HCALL := Lib.hid (IH y r A c (W.alloc (.cells #[.int .i64 y.f0, .string y.f1, .int .i64 y.f2, .int .i64 y.f3, .slice A y.f4.length c] 76 (0, 0))) hd (Kd.C_below hC HB.out) hl)
  have q0 : (W.alloc (.cells #[.int .i64 y.f0, .string y.f1, .int .i64 y.f2, .int .i64 y.f3, .slice A y.f4.length c] 76 (0, 0))).cell? ⟨W.heap.size, 0, none⟩ = some (.int .i64 y.f0) := (blk_cell HY.out 0).trans rfl
  have q1 : (W.alloc (.cells #[.int .i64 y.f0, .string y.f1, .int .i64 y.f2, .int .i64 y.f3, .slice A y.f4.length c] 76 (0, 0))).cell? ⟨W.heap.size, 1, none⟩ = some (.string y.f1) := (blk_cell HY.out 1).trans rfl
  have q2 : (W.alloc (.cells #[.int .i64 y.f0, .string y.f1, .int .i64 y.f2, .int .i64 y.f3, .slice A y.f4.length c] 76 (0, 0))).cell? ⟨W.heap.size, 2, none⟩ = some (.int .i64 y.f2) := (blk_cell HY.out 2).trans rfl
  have q3 : (W.alloc (.cells #[.int .i64 y.f0, .string y.f1, .int .i64 y.f2, .int .i64 y.f3, .slice A y.f4.length c] 76 (0, 0))).cell? ⟨W.heap.size, 3, none⟩ = some (.int .i64 y.f3) := (blk_cell HY.out 3).trans rfl
  have q4 : (W.alloc (.cells #[.int .i64 y.f0, .string y.f1, .int .i64 y.f2, .int .i64 y.f3, .slice A y.f4.length c] 76 (0, 0))).cell? ⟨W.heap.size, 4, none⟩ = some (.slice A y.f4.length c) := (blk_cell HY.out 4).trans rfl
  have r0 : (W.alloc (.cells #[.int .i64 y.f0, .string y.f1, .int .i64 y.f2, .int .i64 y.f3, .slice A y.f4.length c] 76 (0, 0))).cell? ⟨br, 0, none⟩ = some (.string r.f0) := (blk_cell HR.out 0).trans rfl
  have r1 : (W.alloc (.cells #[.int .i64 y.f0, .string y.f1, .int .i64 y.f2, .int .i64 y.f3, .slice A y.f4.length c] 76 (0, 0))).cell? ⟨br, 1, none⟩ = some (.string r.f1) := (blk_cell HR.out 1).trans rfl
  have r2 : (W.alloc (.cells #[.int .i64 y.f0, .string y.f1, .int .i64 y.f2, .int .i64 y.f3, .slice A y.f4.length c] 76 (0, 0))).cell? ⟨br, 2, none⟩ = some (.string r.f2) := (blk_cell HR.out 2).trans rfl
  have r3 : (W.alloc (.cells #[.int .i64 y.f0, .string y.f1, .int .i64 y.f2, .int .i64 y.f3, .slice A y.f4.length c] 76 (0, 0))).cell? ⟨br, 3, none⟩ = some (.string r.f3) := (blk_cell HR.out 3).trans rfl
  have r4 : (W.alloc (.cells #[.int .i64 y.f0, .string y.f1, .int .i64 y.f2, .int .i64 y.f3, .slice A y.f4.length c] 76 (0, 0))).cell? ⟨br, 4, none⟩ = some (.int .i64 r.f4) := (blk_cell HR.out 4).trans rfl
  have r5 : (W.alloc (.cells #[.int .i64 y.f0, .string y.f1, .int .i64 y.f2, .int .i64 y.f3, .slice A y.f4.length c] 76 (0, 0))).cell? ⟨br, 5, none⟩ = some (.int .i64 r.f5) := (blk_cell HR.out 5).trans rfl
  clear hbr hC IH
  go_enter Tryz.func57, Tryz.ntmps57
  go_wp2_with fail
  refine HCALL.out.mono ?_
  rintro e w2 ⟨rfl, hb⟩
  go_wp2
  go_ret
  exact ⟨rfl, below_tr HB.out hb⟩
set_option maxHeartbeats 1000000 in
theorem lit2_any (d : Nat) (IH : MatchAt d) (y : S76) (r : S48) (A : Option Addr) (c : Nat) (br bm : Nat) (W : World) (hd : dp d y) (hC : Kd.C k76 W A y.f4.length y.f4) (hl : y.f4.length ≤ c) (hbr : W.heap[br]? = some (.cells #[.string r.f0, .string r.f1, .string r.f2, .string r.f3, .int .i64 r.f4, .int .i64 r.f5] 48 (0, 0)))
    (hbm : W.heap[bm]? = some (.cells #[.func (Fn.func 57) #[] #[.pointer (some ⟨br, 0, none⟩)]] 106 (0, 0))) :
    Calls Tryz.prog 59 #[.agg #[.int .i64 y.f0, .string y.f1, .int .i64 y.f2, .int .i64 y.f3, .slice A y.f4.length c], .pointer (some ⟨bm, 0, none⟩)] W fun e W' => e = .returned (.bool (!mt d y r)) ∧ Below W.heap.size W W' := by
  have HB := Lib.hid (show Below W.heap.size W (W.alloc (.cells #[.int .i64 y.f0, .string y.f1, .int .i64 y.f2, .int .i64 y.f3, .slice A y.f4.length c] 76 (0, 0))) from below_alloc (Below.refl _ _) _)
  have HY := Lib.hid (new_blk W (.cells #[.int .i64 y.f0, .string y.f1, .int .i64 y.f2, .int .i64 y.f3, .slice A y.f4.length c] 76 (0, 0)))
  have HM := Lib.hid ((HB.out.block bm (blk_lt hbm)).trans hbm)
  have HCALL := Lib.hid (lit1_any d IH y r A c br (W.alloc (.cells #[.int .i64 y.f0, .string y.f1, .int .i64 y.f2, .int .i64 y.f3, .slice A y.f4.length c] 76 (0, 0))) hd (Kd.C_below hC HB.out) hl ((HB.out.block br (blk_lt hbr)).trans hbr))
  have q0 : (W.alloc (.cells #[.int .i64 y.f0, .string y.f1, .int .i64 y.f2, .int .i64 y.f3, .slice A y.f4.length c] 76 (0, 0))).cell? ⟨W.heap.size, 0, none⟩ = some (.int .i64 y.f0) := (blk_cell HY.out 0).trans rfl
  have q1 : (W.alloc (.cells #[.int .i64 y.f0, .string y.f1, .int .i64 y.f2, .int .i64 y.f3, .slice A y.f4.length c] 76 (0, 0))).cell? ⟨W.heap.size, 1, none⟩ = some (.string y.f1) := (blk_cell HY.out 1).trans rfl
  have q2 : (W.alloc (.cells #[.int .i64 y.f0, .string y.f1, .int .i64 y.f2, .int .i64 y.f3, .slice A y.f4.length c] 76 (0, 0))).cell? ⟨W.heap.size, 2, none⟩ = some (.int .i64 y.f2) := (blk_cell HY.out 2).trans rfl
  have q3 : (W.alloc (.cells #[.int .i64 y.f0, .string y.f1, .int .i64 y.f2, .int .i64 y.f3, .slice A y.f4.length c] 76 (0, 0))).cell? ⟨W.heap.size, 3, none⟩ = some (.int .i64 y.f3) := (blk_cell HY.out 3).trans rfl
  have q4 : (W.alloc (.cells #[.int .i64 y.f0, .string y.f1, .int .i64 y.f2, .int .i64 y.f3, .slice A y.f4.length c] 76 (0, 0))).cell? ⟨W.heap.size, 4, none⟩ = some (.slice A y.f4.length c) := (blk_cell HY.out 4).trans rfl
  have m0 : (W.alloc (.cells #[.int .i64 y.f0, .string y.f1, .int .i64 y.f2, .int .i64 y.f3, .slice A y.f4.length c] 76 (0, 0))).cell? ⟨bm, 0, none⟩ = some (.func (Fn.func 57) #[] #[.pointer (some ⟨br, 0, none⟩)]) := (blk_cell HM.out 0).trans rfl
  clear hbr hbm hC IH
  generalize hmm : mt d y r = b at *
  clear hmm
  go_enter Tryz.func59, Tryz.ntmps59
  go_wp2_with fail
  refine HCALL.out.mono ?_
  rintro e w2 ⟨rfl, hb⟩
  go_wp2
  go_ret
  exact ⟨rfl, below_tr HB.out hb⟩

theorem drop_idxS1 {l : List S76} {i : Nat} (h : i < l.length) : l.drop i = rd_T76 l (i : Int) :: l.drop (i + 1) := by
  rw [List.drop_eq_getElem_cons h]
  simp [rd_T76, List.getElem?_eq_getElem h, List.getD_eq_getElem?_getD]
set_option maxHeartbeats 1000000 in
theorem idxS1 (p : S76 → Bool) (A : Option Addr) (c : Nat) (l : List S76) (br : Nat) (w : World) (hr : Kd.C k76 w A l.length l)
    (hf : ∀ x ∈ l, ∀ A4 c4 W, Below w.heap.size w W → Kd.C k76 W A4 x.f4.length x.f4 → x.f4.length ≤ c4 → Calls Tryz.prog 57 #[.agg #[.int .i64 x.f0, .string x.f1, .int .i64 x.f2, .int .i64 x.f3, .slice A4 x.f4.length c4], .pointer (some ⟨br, 0, none⟩)] W fun e W' => e = .returned (.bool (p x)) ∧ Below W.heap.size W W') :
    Calls Tryz.prog 100 #[.slice A l.length c, .func (Fn.func 57) #[] #[.pointer (some ⟨br, 0, none⟩)]] w fun e w' => e = .returned (.int .i64 (ix p l 0)) ∧ Below w.heap.size w w' := by
  have hm : l.length ≤ 9223372036854775807 := hr.2.1
  have HF := Lib.hid hf
  clear hf
  go_enter Tryz.func100, Tryz.ntmps100
  go_wp2
  go_loopw [8] (fun v8 wr => ∃ k : Nat, k ≤ l.length ∧ v8 = .int .i64 k ∧ Aside0 (Below w.heap.size w wr) ∧ Aside0 (ix p l 0 = ix p (l.drop k) k)) (fun v8 _ => l.length - (intOf v8).toNat)
  case atStart => exact ⟨0, Nat.zero_le _, rfl, ⟨Below.refl _ _⟩, ⟨by rw [List.drop_zero]⟩⟩
  case round =>
    obtain ⟨k, hk, rfl, HB, HI⟩ := hrel
    by_cases hlt : k < l.length
    · obtain ⟨ad, A4, c4, e, h0, h1, h2, h3, h4, hl4, hC4⟩ := at_T76 (Kd.C_below hr HB.out) (k : Int) (by omega) (by omega)
      subst e
      simp only [Int.toNat_natCast] at h0 h1 h2 h3 h4
      have hd := drop_idxS1 hlt
      have hmem : rd_T76 l (k : Int) ∈ l := by
        have : rd_T76 l (k : Int) ∈ l.drop k := by rw [hd]; exact List.mem_cons.2 (.inl rfl)
        exact List.mem_of_mem_drop this
      have HI2 := Lib.hid (show ix p l 0 = if p (rd_T76 l (k : Int)) = true then (k : Int) else ix p (l.drop (k + 1)) (k + 1) by rw [HI.out, hd]; rfl)
      have HCALL := Lib.hid (HF.out _ hmem A4 c4 wr HB.out hC4 hl4)
      clear hd hmem hC4 hl4
      generalize rd_T76 l (k : Int) = x at *
      generalize hpx : p x = px at *
      clear hpx
      go_wp2_with fail
      refine HCALL.out.mono ?_
      rintro e w2 ⟨rfl, hb⟩
      have HB2 := Lib.hid (below_tr HB.out hb)
      clear hb h0 h1 h2 h3 h4
      cases px
      · go_wp2
        go_roundw
        case rel => exact ⟨k + 1, by omega, by go_num, ⟨HB2.out⟩, ⟨by rw [HI2.out, if_neg (by decide)]⟩⟩
        case measure => simp [intOf]; omega
      · go_wp2
        go_ret
        exact ⟨ret_i (by rw [HI2.out]; simp), HB2.out⟩
    · have hk2 : k = l.length := by omega
      have HK := Lib.hid hk2
      clear hk2
      go_wp2
      go_ret
      exact ⟨ret_i (by rw [HI.out, HK.out, List.drop_of_length_le (Nat.le_refl _)]; rfl), HB.out⟩

theorem drop_idxS2 {l : List S76} {i : Nat} (h : i < l.length) : l.drop i = rd_T76 l (i : Int) :: l.drop (i + 1) := by
  rw [List.drop_eq_getElem_cons h]
  simp [rd_T76, List.getElem?_eq_getElem h, List.getD_eq_getElem?_getD]
set_option maxHeartbeats 1000000 in
theorem idxS2 (p : S76 → Bool) (A : Option Addr) (c : Nat) (l : List S76) (br : Nat) (w : World) (hr : Kd.C k76 w A l.length l)
    (hf : ∀ x ∈ l, ∀ A4 c4 W, Below w.heap.size w W → Kd.C k76 W A4 x.f4.length x.f4 → x.f4.length ≤ c4 → Calls Tryz.prog 59 #[.agg #[.int .i64 x.f0, .string x.f1, .int .i64 x.f2, .int .i64 x.f3, .slice A4 x.f4.length c4], .pointer (some ⟨br, 0, none⟩)] W fun e W' => e = .returned (.bool (p x)) ∧ Below W.heap.size W W') :
    Calls Tryz.prog 100 #[.slice A l.length c, .func (Fn.func 59) #[] #[.pointer (some ⟨br, 0, none⟩)]] w fun e w' => e = .returned (.int .i64 (ix p l 0)) ∧ Below w.heap.size w w' := by
  have hm : l.length ≤ 9223372036854775807 := hr.2.1
  have HF := Lib.hid hf
  clear hf
  go_enter Tryz.func100, Tryz.ntmps100
  go_wp2
  go_loopw [8] (fun v8 wr => ∃ k : Nat, k ≤ l.length ∧ v8 = .int .i64 k ∧ Aside0 (Below w.heap.size w wr) ∧ Aside0 (ix p l 0 = ix p (l.drop k) k)) (fun v8 _ => l.length - (intOf v8).toNat)
  case atStart => exact ⟨0, Nat.zero_le _, rfl, ⟨Below.refl _ _⟩, ⟨by rw [List.drop_zero]⟩⟩
  case round =>
    obtain ⟨k, hk, rfl, HB, HI⟩ := hrel
    by_cases hlt : k < l.length
    · obtain ⟨ad, A4, c4, e, h0, h1, h2, h3, h4, hl4, hC4⟩ := at_T76 (Kd.C_below hr HB.out) (k : Int) (by omega) (by omega)
      subst e
      simp only [Int.toNat_natCast] at h0 h1 h2 h3 h4
      have hd := drop_idxS2 hlt
      have hmem : rd_T76 l (k : Int) ∈ l := by
        have : rd_T76 l (k : Int) ∈ l.drop k := by rw [hd]; exact List.mem_cons.2 (.inl rfl)
        exact List.mem_of_mem_drop this
      have HI2 := Lib.hid (show ix p l 0 = if p (rd_T76 l (k : Int)) = true then (k : Int) else ix p (l.drop (k + 1)) (k + 1) by rw [HI.out, hd]; rfl)
      have HCALL := Lib.hid (HF.out _ hmem A4 c4 wr HB.out hC4 hl4)
      clear hd hmem hC4 hl4
      generalize rd_T76 l (k : Int) = x at *
      generalize hpx : p x = px at *
      clear hpx
      go_wp2_with fail
      refine HCALL.out.mono ?_
      rintro e w2 ⟨rfl, hb⟩
      have HB2 := Lib.hid (below_tr HB.out hb)
      clear hb h0 h1 h2 h3 h4
      cases px
      · go_wp2
        go_roundw
        case rel => exact ⟨k + 1, by omega, by go_num, ⟨HB2.out⟩, ⟨by rw [HI2.out, if_neg (by decide)]⟩⟩
        case measure => simp [intOf]; omega
      · go_wp2
        go_ret
        exact ⟨ret_i (by rw [HI2.out]; simp), HB2.out⟩
    · have hk2 : k = l.length := by omega
      have HK := Lib.hid hk2
      clear hk2
      go_wp2
      go_ret
      exact ⟨ret_i (by rw [HI.out, HK.out, List.drop_of_length_le (Nat.le_refl _)]; rfl), HB.out⟩

theorem contS1 (p : S76 → Bool) (A : Option Addr) (c : Nat) (l : List S76) (br : Nat) (w : World) (hr : Kd.C k76 w A l.length l)
    (hf : ∀ x ∈ l, ∀ A4 c4 W, Below w.heap.size w W → Kd.C k76 W A4 x.f4.length x.f4 → x.f4.length ≤ c4 → Calls Tryz.prog 57 #[.agg #[.int .i64 x.f0, .string x.f1, .int .i64 x.f2, .int .i64 x.f3, .slice A4 x.f4.length c4], .pointer (some ⟨br, 0, none⟩)] W fun e W' => e = .returned (.bool (p x)) ∧ Below W.heap.size W W') :
    Calls Tryz.prog 58 #[.slice A l.length c, .func (Fn.func 57) #[] #[.pointer (some ⟨br, 0, none⟩)]] w fun e w' => e = .returned (.bool (l.any p)) ∧ Below w.heap.size w w' := by
  have HC := Lib.hid (idxS1 p A c l br w hr hf)
  have hx := ix_any p l 0
  generalize ix p l 0 = i at *
  clear hf hr
  go_enter Tryz.func58, Tryz.ntmps58
  go_wp2_with fail
  refine HC.out.mono ?_
  rintro e w2 ⟨rfl, hb⟩
  have HX := Lib.hid hx
  clear hx
  go_wp2
  go_ret
  exact ⟨ret_b HX.out, hb⟩

theorem contS2 (p : S76 → Bool) (A : Option Addr) (c : Nat) (l : List S76) (br : Nat) (w : World) (hr : Kd.C k76 w A l.length l)
    (hf : ∀ x ∈ l, ∀ A4 c4 W, Below w.heap.size w W → Kd.C k76 W A4 x.f4.length x.f4 → x.f4.length ≤ c4 → Calls Tryz.prog 59 #[.agg #[.int .i64 x.f0, .string x.f1, .int .i64 x.f2, .int .i64 x.f3, .slice A4 x.f4.length c4], .pointer (some ⟨br, 0, none⟩)] W fun e W' => e = .returned (.bool (p x)) ∧ Below W.heap.size W W') :
    Calls Tryz.prog 58 #[.slice A l.length c, .func (Fn.func 59) #[] #[.pointer (some ⟨br, 0, none⟩)]] w fun e w' => e = .returned (.bool (l.any p)) ∧ Below w.heap.size w w' := by
  have HC := Lib.hid (idxS2 p A c l br w hr hf)
  have hx := ix_any p l 0
  generalize ix p l 0 = i at *
  clear hf hr
  go_enter Tryz.func58, Tryz.ntmps58
  go_wp2_with fail
  refine HC.out.mono ?_
  rintro e w2 ⟨rfl, hb⟩
  have HX := Lib.hid hx
  clear hx
  go_wp2
  go_ret
  exact ⟨ret_b HX.out, hb⟩

theorem run_store_new (w : World) (u v : Value) (ty : TypeId) (hv : v.oneCell' = true) : Sem.run Tryz.prog (store ⟨w.heap.size, 0, none⟩ v) (w.alloc (.cells #[u] ty (0, 0))) = .ok () (w.alloc (.cells #[v] ty (0, 0))) := by
  have hb := new_blk w (.cells #[u] ty (0, 0))
  have hc : (w.alloc (.cells #[u] ty (0, 0))).cell? ⟨w.heap.size, 0, none⟩ = some u := (blk_cell hb 0).trans rfl
  have hf := blk_frozen hb 0
  have hs : (w.alloc (.cells #[u] ty (0, 0))).setCell ⟨w.heap.size, 0, none⟩ v = w.alloc (.cells #[v] ty (0, 0)) := by
    rw [World.setCell_alloc_new]
    rfl
  rw [run_store _ _ _ _ _ hv, hc]
  simp only [hf, hs]
  rfl

theorem match_op1 (nm : ByteArray) (fr tt : Int) (ks : List S76) (r : S48) (A : Option Addr) (c : Nat) (W : World) : Calls Tryz.prog 34 #[.agg #[.int .i64 1, .string nm, .int .i64 fr, .int .i64 tt, .slice A ks.length c], .agg #[.string r.f0, .string r.f1, .string r.f2, .string r.f3, .int .i64 r.f4, .int .i64 r.f5]] W fun e W' => e = .returned (.bool (true)) ∧ Below W.heap.size W W' := by
  have hz : ((W.alloc (.cells #[.int .i64 1, .string nm, .int .i64 fr, .int .i64 tt, .slice A ks.length c] 76 (0, 0))).alloc (.cells #[.string r.f0, .string r.f1, .string r.f2, .string r.f3, .int .i64 r.f4, .int .i64 r.f5] 48 (0, 0))).heap.size = W.heap.size + 1 + 1 := by show ((W.heap.push _).push _).size = _; rw [Array.size_push, Array.size_push]
  have hst := run_store_new ((W.alloc (.cells #[.int .i64 1, .string nm, .int .i64 fr, .int .i64 tt, .slice A ks.length c] 76 (0, 0))).alloc (.cells #[.string r.f0, .string r.f1, .string r.f2, .string r.f3, .int .i64 r.f4, .int .i64 r.f5] 48 (0, 0))) .nilFunc (.func (Fn.func 57) #[] #[.pointer (some ⟨W.heap.size + 1, 0, none⟩)]) 106 rfl
  rw [hz] at hst
  go_enter Tryz.func34, Tryz.ntmps34
  go_wp2
  all_goals (go_ret; exact ⟨by first | rfl | (simp_all; done) | (simp_all; omega), below_alloc (below_alloc (below_alloc (Below.refl _ _) _) _) _⟩)

theorem match_op2 (nm : ByteArray) (fr tt : Int) (ks : List S76) (r : S48) (A : Option Addr) (c : Nat) (W : World) : Calls Tryz.prog 34 #[.agg #[.int .i64 2, .string nm, .int .i64 fr, .int .i64 tt, .slice A ks.length c], .agg #[.string r.f0, .string r.f1, .string r.f2, .string r.f3, .int .i64 r.f4, .int .i64 r.f5]] W fun e W' => e = .returned (.bool (r.f1.toList == nm.toList)) ∧ Below W.heap.size W W' := by
  have hz : ((W.alloc (.cells #[.int .i64 2, .string nm, .int .i64 fr, .int .i64 tt, .slice A ks.length c] 76 (0, 0))).alloc (.cells #[.string r.f0, .string r.f1, .string r.f2, .string r.f3, .int .i64 r.f4, .int .i64 r.f5] 48 (0, 0))).heap.size = W.heap.size + 1 + 1 := by show ((W.heap.push _).push _).size = _; rw [Array.size_push, Array.size_push]
  have hst := run_store_new ((W.alloc (.cells #[.int .i64 2, .string nm, .int .i64 fr, .int .i64 tt, .slice A ks.length c] 76 (0, 0))).alloc (.cells #[.string r.f0, .string r.f1, .string r.f2, .string r.f3, .int .i64 r.f4, .int .i64 r.f5] 48 (0, 0))) .nilFunc (.func (Fn.func 57) #[] #[.pointer (some ⟨W.heap.size + 1, 0, none⟩)]) 106 rfl
  rw [hz] at hst
  go_enter Tryz.func34, Tryz.ntmps34
  go_wp2
  all_goals (go_ret; exact ⟨by first | rfl | (simp_all; done) | (simp_all; omega), below_alloc (below_alloc (below_alloc (Below.refl _ _) _) _) _⟩)

theorem match_op3 (nm : ByteArray) (fr tt : Int) (ks : List S76) (r : S48) (A : Option Addr) (c : Nat) (W : World) : Calls Tryz.prog 34 #[.agg #[.int .i64 3, .string nm, .int .i64 fr, .int .i64 tt, .slice A ks.length c], .agg #[.string r.f0, .string r.f1, .string r.f2, .string r.f3, .int .i64 r.f4, .int .i64 r.f5]] W fun e W' => e = .returned (.bool (r.f2.toList == nm.toList)) ∧ Below W.heap.size W W' := by
  have hz : ((W.alloc (.cells #[.int .i64 3, .string nm, .int .i64 fr, .int .i64 tt, .slice A ks.length c] 76 (0, 0))).alloc (.cells #[.string r.f0, .string r.f1, .string r.f2, .string r.f3, .int .i64 r.f4, .int .i64 r.f5] 48 (0, 0))).heap.size = W.heap.size + 1 + 1 := by show ((W.heap.push _).push _).size = _; rw [Array.size_push, Array.size_push]
  have hst := run_store_new ((W.alloc (.cells #[.int .i64 3, .string nm, .int .i64 fr, .int .i64 tt, .slice A ks.length c] 76 (0, 0))).alloc (.cells #[.string r.f0, .string r.f1, .string r.f2, .string r.f3, .int .i64 r.f4, .int .i64 r.f5] 48 (0, 0))) .nilFunc (.func (Fn.func 57) #[] #[.pointer (some ⟨W.heap.size + 1, 0, none⟩)]) 106 rfl
  rw [hz] at hst
  go_enter Tryz.func34, Tryz.ntmps34
  go_wp2
  all_goals (go_ret; exact ⟨by first | rfl | (simp_all; done) | (simp_all; omega), below_alloc (below_alloc (below_alloc (Below.refl _ _) _) _) _⟩)

theorem match_op4 (nm : ByteArray) (fr tt : Int) (ks : List S76) (r : S48) (A : Option Addr) (c : Nat) (W : World) : Calls Tryz.prog 34 #[.agg #[.int .i64 4, .string nm, .int .i64 fr, .int .i64 tt, .slice A ks.length c], .agg #[.string r.f0, .string r.f1, .string r.f2, .string r.f3, .int .i64 r.f4, .int .i64 r.f5]] W fun e W' => e = .returned (.bool (r.f3.toList == nm.toList)) ∧ Below W.heap.size W W' := by
  have hz : ((W.alloc (.cells #[.int .i64 4, .string nm, .int .i64 fr, .int .i64 tt, .slice A ks.length c] 76 (0, 0))).alloc (.cells #[.string r.f0, .string r.f1, .string r.f2, .string r.f3, .int .i64 r.f4, .int .i64 r.f5] 48 (0, 0))).heap.size = W.heap.size + 1 + 1 := by show ((W.heap.push _).push _).size = _; rw [Array.size_push, Array.size_push]
  have hst := run_store_new ((W.alloc (.cells #[.int .i64 4, .string nm, .int .i64 fr, .int .i64 tt, .slice A ks.length c] 76 (0, 0))).alloc (.cells #[.string r.f0, .string r.f1, .string r.f2, .string r.f3, .int .i64 r.f4, .int .i64 r.f5] 48 (0, 0))) .nilFunc (.func (Fn.func 57) #[] #[.pointer (some ⟨W.heap.size + 1, 0, none⟩)]) 106 rfl
  rw [hz] at hst
  go_enter Tryz.func34, Tryz.ntmps34
  go_wp2
  all_goals (go_ret; exact ⟨by first | rfl | (simp_all; done) | (simp_all; omega), below_alloc (below_alloc (below_alloc (Below.refl _ _) _) _) _⟩)

theorem match_op5 (nm : ByteArray) (fr tt : Int) (ks : List S76) (r : S48) (A : Option Addr) (c : Nat) (W : World) : Calls Tryz.prog 34 #[.agg #[.int .i64 5, .string nm, .int .i64 fr, .int .i64 tt, .slice A ks.length c], .agg #[.string r.f0, .string r.f1, .string r.f2, .string r.f3, .int .i64 r.f4, .int .i64 r.f5]] W fun e W' => e = .returned (.bool (decide (r.f4 ≥ fr) && decide (r.f4 ≤ tt))) ∧ Below W.heap.size W W' := by
  have hz : ((W.alloc (.cells #[.int .i64 5, .string nm, .int .i64 fr, .int .i64 tt, .slice A ks.length c] 76 (0, 0))).alloc (.cells #[.string r.f0, .string r.f1, .string r.f2, .string r.f3, .int .i64 r.f4, .int .i64 r.f5] 48 (0, 0))).heap.size = W.heap.size + 1 + 1 := by show ((W.heap.push _).push _).size = _; rw [Array.size_push, Array.size_push]
  have hst := run_store_new ((W.alloc (.cells #[.int .i64 5, .string nm, .int .i64 fr, .int .i64 tt, .slice A ks.length c] 76 (0, 0))).alloc (.cells #[.string r.f0, .string r.f1, .string r.f2, .string r.f3, .int .i64 r.f4, .int .i64 r.f5] 48 (0, 0))) .nilFunc (.func (Fn.func 57) #[] #[.pointer (some ⟨W.heap.size + 1, 0, none⟩)]) 106 rfl
  rw [hz] at hst
  go_enter Tryz.func34, Tryz.ntmps34
  go_wp2
  all_goals (go_ret; exact ⟨by first | rfl | (simp_all; done) | (simp_all; omega), below_alloc (below_alloc (below_alloc (Below.refl _ _) _) _) _⟩)
end Go.Proofs.YtafigkikblpbnaaGreatDoor.PG
namespace Go.Proofs.YtafigkikblpbnaaGreatDoor.PG
open Go.RowKit Go.Proofs.YtafigkikblpbnaaGreatDoorW.PrintWords Go.Proofs.YtafigkikblpbnaaGreatDoorW.PrintLast Go.Proofs.YtafigkikblpbnaaGreatDoorW.PrintMore
set_option linter.unusedVariables false
set_option linter.unusedSimpArgs false
set_option maxRecDepth 100000

set_option maxHeartbeats 1000000 in
theorem match_op7 (d : Nat) (IH : MatchAt d) (nm : ByteArray) (fr tt : Int) (ks : List S76) (hd : ∀ y ∈ ks, dp d y) (r : S48) (A : Option Addr) (c : Nat) (W : World) (hC : Kd.C k76 W A ks.length ks) (hl : ks.length ≤ c) : Calls Tryz.prog 34 #[.agg #[.int .i64 7, .string nm, .int .i64 fr, .int .i64 tt, .slice A ks.length c], .agg #[.string r.f0, .string r.f1, .string r.f2, .string r.f3, .int .i64 r.f4, .int .i64 r.f5]] W fun e W' => e = .returned (.bool (ks.any (fun y => mt d y r))) ∧ Below W.heap.size W W' := by
  have hz : ((W.alloc (.cells #[.int .i64 7, .string nm, .int .i64 fr, .int .i64 tt, .slice A ks.length c] 76 (0, 0))).alloc (.cells #[.string r.f0, .string r.f1, .string r.f2, .string r.f3, .int .i64 r.f4, .int .i64 r.f5] 48 (0, 0))).heap.size = W.heap.size + 1 + 1 := by show ((W.heap.push _).push _).size = _; rw [Array.size_push, Array.size_push]
  have hst := run_store_new ((W.alloc (.cells #[.int .i64 7, .string nm, .int .i64 fr, .int .i64 tt, .slice A ks.length c] 76 (0, 0))).alloc (.cells #[.string r.f0, .string r.f1, .string r.f2, .string r.f3, .int .i64 r.f4, .int .i64 r.f5] 48 (0, 0))) .nilFunc (.func (Fn.func 57) #[] #[.pointer (some ⟨W.heap.size + 1, 0, none⟩)]) 106 rfl
  rw [hz] at hst
  have HB := Lib.hid (show Below W.heap.size W (((W.alloc (.cells #[.int .i64 7, .string nm, .int .i64 fr, .int .i64 tt, .slice A ks.length c] 76 (0, 0))).alloc (.cells #[.string r.f0, .string r.f1, .string r.f2, .string r.f3, .int .i64 r.f4, .int .i64 r.f5] 48 (0, 0))).alloc (.cells #[(.func (Fn.func 57) #[] #[.pointer (some ⟨W.heap.size + 1, 0, none⟩)])] 106 (0, 0))) from below_alloc (below_alloc (below_alloc (Below.refl _ _) _) _) _)
  have hb1 := Below.block (below_alloc (below_alloc (Below.refl _ (W.alloc (.cells #[.int .i64 7, .string nm, .int .i64 fr, .int .i64 tt, .slice A ks.length c] 76 (0, 0)))) (.cells #[.string r.f0, .string r.f1, .string r.f2, .string r.f3, .int .i64 r.f4, .int .i64 r.f5] 48 (0, 0))) (.cells #[(.func (Fn.func 57) #[] #[.pointer (some ⟨W.heap.size + 1, 0, none⟩)])] 106 (0, 0))) W.heap.size (blk_lt (new_blk W (.cells #[.int .i64 7, .string nm, .int .i64 fr, .int .i64 tt, .slice A ks.length c] 76 (0, 0))))
  have HYX := Lib.hid (hb1.trans (new_blk W (.cells #[.int .i64 7, .string nm, .int .i64 fr, .int .i64 tt, .slice A ks.length c] 76 (0, 0))))
  have hz1 : (W.alloc (.cells #[.int .i64 7, .string nm, .int .i64 fr, .int .i64 tt, .slice A ks.length c] 76 (0, 0))).heap.size = W.heap.size + 1 := by show (W.heap.push _).size = _; rw [Array.size_push]
  have hy2 := new_blk (W.alloc (.cells #[.int .i64 7, .string nm, .int .i64 fr, .int .i64 tt, .slice A ks.length c] 76 (0, 0))) (.cells #[.string r.f0, .string r.f1, .string r.f2, .string r.f3, .int .i64 r.f4, .int .i64 r.f5] 48 (0, 0))
  rw [hz1] at hy2
  have hb2 := Below.block (below_alloc (Below.refl _ ((W.alloc (.cells #[.int .i64 7, .string nm, .int .i64 fr, .int .i64 tt, .slice A ks.length c] 76 (0, 0))).alloc (.cells #[.string r.f0, .string r.f1, .string r.f2, .string r.f3, .int .i64 r.f4, .int .i64 r.f5] 48 (0, 0)))) (.cells #[(.func (Fn.func 57) #[] #[.pointer (some ⟨W.heap.size + 1, 0, none⟩)])] 106 (0, 0))) (W.heap.size + 1) (by rw [hz]; omega)
  have HYR := Lib.hid (hb2.trans hy2)
  have hy3 := new_blk ((W.alloc (.cells #[.int .i64 7, .string nm, .int .i64 fr, .int .i64 tt, .slice A ks.length c] 76 (0, 0))).alloc (.cells #[.string r.f0, .string r.f1, .string r.f2, .string r.f3, .int .i64 r.f4, .int .i64 r.f5] 48 (0, 0))) (.cells #[(.func (Fn.func 57) #[] #[.pointer (some ⟨W.heap.size + 1, 0, none⟩)])] 106 (0, 0))
  rw [hz] at hy3
  have HYF := Lib.hid hy3
  have HC3 := Lib.hid (Kd.C_below hC HB.out)
  clear hz hz1 hy2 hb1 hb2 hy3 hC
  have HCALL := Lib.hid (contS1 (fun y => mt d y r) A c ks (W.heap.size + 1) (((W.alloc (.cells #[.int .i64 7, .string nm, .int .i64 fr, .int .i64 tt, .slice A ks.length c] 76 (0, 0))).alloc (.cells #[.string r.f0, .string r.f1, .string r.f2, .string r.f3, .int .i64 r.f4, .int .i64 r.f5] 48 (0, 0))).alloc (.cells #[(.func (Fn.func 57) #[] #[.pointer (some ⟨W.heap.size + 1, 0, none⟩)])] 106 (0, 0))) HC3.out (fun x hx A4 c4 W' hb hC4 hl4 => lit1_any d IH x r A4 c4 (W.heap.size + 1) W' (hd x hx) hC4 hl4 ((hb.block _ (blk_lt HYR.out)).trans HYR.out)))
  clear hd IH
  go_enter Tryz.func34, Tryz.ntmps34
  go_wp2_with fail
  refine HCALL.out.mono ?_
  rintro e w2 ⟨rfl, hb⟩
  have HB2 := Lib.hid (below_tr HB.out hb)
  clear hb
  go_wp2
  go_ret
  exact ⟨rfl, HB2.out⟩

set_option maxHeartbeats 1000000 in
theorem match_op6 (d : Nat) (IH : MatchAt d) (nm : ByteArray) (fr tt : Int) (ks : List S76) (hd : ∀ y ∈ ks, dp d y) (r : S48) (A : Option Addr) (c : Nat) (W : World) (hC : Kd.C k76 W A ks.length ks) (hl : ks.length ≤ c) : Calls Tryz.prog 34 #[.agg #[.int .i64 6, .string nm, .int .i64 fr, .int .i64 tt, .slice A ks.length c], .agg #[.string r.f0, .string r.f1, .string r.f2, .string r.f3, .int .i64 r.f4, .int .i64 r.f5]] W fun e W' => e = .returned (.bool (!(ks.any (fun y => !mt d y r)))) ∧ Below W.heap.size W W' := by
  have hz : ((W.alloc (.cells #[.int .i64 6, .string nm, .int .i64 fr, .int .i64 tt, .slice A ks.length c] 76 (0, 0))).alloc (.cells #[.string r.f0, .string r.f1, .string r.f2, .string r.f3, .int .i64 r.f4, .int .i64 r.f5] 48 (0, 0))).heap.size = W.heap.size + 1 + 1 := by show ((W.heap.push _).push _).size = _; rw [Array.size_push, Array.size_push]
  have hst := run_store_new ((W.alloc (.cells #[.int .i64 6, .string nm, .int .i64 fr, .int .i64 tt, .slice A ks.length c] 76 (0, 0))).alloc (.cells #[.string r.f0, .string r.f1, .string r.f2, .string r.f3, .int .i64 r.f4, .int .i64 r.f5] 48 (0, 0))) .nilFunc (.func (Fn.func 57) #[] #[.pointer (some ⟨W.heap.size + 1, 0, none⟩)]) 106 rfl
  rw [hz] at hst
  have HB := Lib.hid (show Below W.heap.size W (((W.alloc (.cells #[.int .i64 6, .string nm, .int .i64 fr, .int .i64 tt, .slice A ks.length c] 76 (0, 0))).alloc (.cells #[.string r.f0, .string r.f1, .string r.f2, .string r.f3, .int .i64 r.f4, .int .i64 r.f5] 48 (0, 0))).alloc (.cells #[(.func (Fn.func 57) #[] #[.pointer (some ⟨W.heap.size + 1, 0, none⟩)])] 106 (0, 0))) from below_alloc (below_alloc (below_alloc (Below.refl _ _) _) _) _)
  have hb1 := Below.block (below_alloc (below_alloc (Below.refl _ (W.alloc (.cells #[.int .i64 6, .string nm, .int .i64 fr, .int .i64 tt, .slice A ks.length c] 76 (0, 0)))) (.cells #[.string r.f0, .string r.f1, .string r.f2, .string r.f3, .int .i64 r.f4, .int .i64 r.f5] 48 (0, 0))) (.cells #[(.func (Fn.func 57) #[] #[.pointer (some ⟨W.heap.size + 1, 0, none⟩)])] 106 (0, 0))) W.heap.size (blk_lt (new_blk W (.cells #[.int .i64 6, .string nm, .int .i64 fr, .int .i64 tt, .slice A ks.length c] 76 (0, 0))))
  have HYX := Lib.hid (hb1.trans (new_blk W (.cells #[.int .i64 6, .string nm, .int .i64 fr, .int .i64 tt, .slice A ks.length c] 76 (0, 0))))
  have hz1 : (W.alloc (.cells #[.int .i64 6, .string nm, .int .i64 fr, .int .i64 tt, .slice A ks.length c] 76 (0, 0))).heap.size = W.heap.size + 1 := by show (W.heap.push _).size = _; rw [Array.size_push]
  have hy2 := new_blk (W.alloc (.cells #[.int .i64 6, .string nm, .int .i64 fr, .int .i64 tt, .slice A ks.length c] 76 (0, 0))) (.cells #[.string r.f0, .string r.f1, .string r.f2, .string r.f3, .int .i64 r.f4, .int .i64 r.f5] 48 (0, 0))
  rw [hz1] at hy2
  have hb2 := Below.block (below_alloc (Below.refl _ ((W.alloc (.cells #[.int .i64 6, .string nm, .int .i64 fr, .int .i64 tt, .slice A ks.length c] 76 (0, 0))).alloc (.cells #[.string r.f0, .string r.f1, .string r.f2, .string r.f3, .int .i64 r.f4, .int .i64 r.f5] 48 (0, 0)))) (.cells #[(.func (Fn.func 57) #[] #[.pointer (some ⟨W.heap.size + 1, 0, none⟩)])] 106 (0, 0))) (W.heap.size + 1) (by rw [hz]; omega)
  have HYR := Lib.hid (hb2.trans hy2)
  have hy3 := new_blk ((W.alloc (.cells #[.int .i64 6, .string nm, .int .i64 fr, .int .i64 tt, .slice A ks.length c] 76 (0, 0))).alloc (.cells #[.string r.f0, .string r.f1, .string r.f2, .string r.f3, .int .i64 r.f4, .int .i64 r.f5] 48 (0, 0))) (.cells #[(.func (Fn.func 57) #[] #[.pointer (some ⟨W.heap.size + 1, 0, none⟩)])] 106 (0, 0))
  rw [hz] at hy3
  have HYF := Lib.hid hy3
  have HC3 := Lib.hid (Kd.C_below hC HB.out)
  clear hz hz1 hy2 hb1 hb2 hy3 hC
  have HCALL := Lib.hid (contS2 (fun y => !mt d y r) A c ks (W.heap.size + 1 + 1) (((W.alloc (.cells #[.int .i64 6, .string nm, .int .i64 fr, .int .i64 tt, .slice A ks.length c] 76 (0, 0))).alloc (.cells #[.string r.f0, .string r.f1, .string r.f2, .string r.f3, .int .i64 r.f4, .int .i64 r.f5] 48 (0, 0))).alloc (.cells #[(.func (Fn.func 57) #[] #[.pointer (some ⟨W.heap.size + 1, 0, none⟩)])] 106 (0, 0))) HC3.out (fun x hx A4 c4 W' hb hC4 hl4 => lit2_any d IH x r A4 c4 (W.heap.size + 1) (W.heap.size + 1 + 1) W' (hd x hx) hC4 hl4 ((hb.block _ (blk_lt HYR.out)).trans HYR.out) ((hb.block _ (blk_lt HYF.out)).trans HYF.out)))
  clear hd IH
  generalize ks.any (fun y => !mt d y r) = q at *
  go_enter Tryz.func34, Tryz.ntmps34
  go_wp2_with fail
  refine HCALL.out.mono ?_
  rintro e w2 ⟨rfl, hb⟩
  have HB2 := Lib.hid (below_tr HB.out hb)
  clear hb
  go_wp2
  go_ret
  exact ⟨rfl, HB2.out⟩

set_option maxHeartbeats 1000000 in
theorem match_op8 (d : Nat) (IH : MatchAt d) (nm : ByteArray) (fr tt : Int) (ks : List S76) (hd : ∀ y ∈ ks, dp d y) (r : S48) (A : Option Addr) (c : Nat) (W : World) (hC : Kd.C k76 W A ks.length ks) (hl : ks.length ≤ c) : Calls Tryz.prog 34 #[.agg #[.int .i64 8, .string nm, .int .i64 fr, .int .i64 tt, .slice A ks.length c], .agg #[.string r.f0, .string r.f1, .string r.f2, .string r.f3, .int .i64 r.f4, .int .i64 r.f5]] W fun e W' => e = .returned (.bool (if ks.length = 0 then true else !mt d (rd_T76 ks 0) r)) ∧ Below W.heap.size W W' := by
  have hz : ((W.alloc (.cells #[.int .i64 8, .string nm, .int .i64 fr, .int .i64 tt, .slice A ks.length c] 76 (0, 0))).alloc (.cells #[.string r.f0, .string r.f1, .string r.f2, .string r.f3, .int .i64 r.f4, .int .i64 r.f5] 48 (0, 0))).heap.size = W.heap.size + 1 + 1 := by show ((W.heap.push _).push _).size = _; rw [Array.size_push, Array.size_push]
  have hst := run_store_new ((W.alloc (.cells #[.int .i64 8, .string nm, .int .i64 fr, .int .i64 tt, .slice A ks.length c] 76 (0, 0))).alloc (.cells #[.string r.f0, .string r.f1, .string r.f2, .string r.f3, .int .i64 r.f4, .int .i64 r.f5] 48 (0, 0))) .nilFunc (.func (Fn.func 57) #[] #[.pointer (some ⟨W.heap.size + 1, 0, none⟩)]) 106 rfl
  rw [hz] at hst
  have HB := Lib.hid (show Below W.heap.size W (((W.alloc (.cells #[.int .i64 8, .string nm, .int .i64 fr, .int .i64 tt, .slice A ks.length c] 76 (0, 0))).alloc (.cells #[.string r.f0, .string r.f1, .string r.f2, .string r.f3, .int .i64 r.f4, .int .i64 r.f5] 48 (0, 0))).alloc (.cells #[(.func (Fn.func 57) #[] #[.pointer (some ⟨W.heap.size + 1, 0, none⟩)])] 106 (0, 0))) from below_alloc (below_alloc (below_alloc (Below.refl _ _) _) _) _)
  have hb1 := Below.block (below_alloc (below_alloc (Below.refl _ (W.alloc (.cells #[.int .i64 8, .string nm, .int .i64 fr, .int .i64 tt, .slice A ks.length c] 76 (0, 0)))) (.cells #[.string r.f0, .string r.f1, .string r.f2, .string r.f3, .int .i64 r.f4, .int .i64 r.f5] 48 (0, 0))) (.cells #[(.func (Fn.func 57) #[] #[.pointer (some ⟨W.heap.size + 1, 0, none⟩)])] 106 (0, 0))) W.heap.size (blk_lt (new_blk W (.cells #[.int .i64 8, .string nm, .int .i64 fr, .int .i64 tt, .slice A ks.length c] 76 (0, 0))))
  have HYX := Lib.hid (hb1.trans (new_blk W (.cells #[.int .i64 8, .string nm, .int .i64 fr, .int .i64 tt, .slice A ks.length c] 76 (0, 0))))
  have hz1 : (W.alloc (.cells #[.int .i64 8, .string nm, .int .i64 fr, .int .i64 tt, .slice A ks.length c] 76 (0, 0))).heap.size = W.heap.size + 1 := by show (W.heap.push _).size = _; rw [Array.size_push]
  have hy2 := new_blk (W.alloc (.cells #[.int .i64 8, .string nm, .int .i64 fr, .int .i64 tt, .slice A ks.length c] 76 (0, 0))) (.cells #[.string r.f0, .string r.f1, .string r.f2, .string r.f3, .int .i64 r.f4, .int .i64 r.f5] 48 (0, 0))
  rw [hz1] at hy2
  have hb2 := Below.block (below_alloc (Below.refl _ ((W.alloc (.cells #[.int .i64 8, .string nm, .int .i64 fr, .int .i64 tt, .slice A ks.length c] 76 (0, 0))).alloc (.cells #[.string r.f0, .string r.f1, .string r.f2, .string r.f3, .int .i64 r.f4, .int .i64 r.f5] 48 (0, 0)))) (.cells #[(.func (Fn.func 57) #[] #[.pointer (some ⟨W.heap.size + 1, 0, none⟩)])] 106 (0, 0))) (W.heap.size + 1) (by rw [hz]; omega)
  have HYR := Lib.hid (hb2.trans hy2)
  have hy3 := new_blk ((W.alloc (.cells #[.int .i64 8, .string nm, .int .i64 fr, .int .i64 tt, .slice A ks.length c] 76 (0, 0))).alloc (.cells #[.string r.f0, .string r.f1, .string r.f2, .string r.f3, .int .i64 r.f4, .int .i64 r.f5] 48 (0, 0))) (.cells #[(.func (Fn.func 57) #[] #[.pointer (some ⟨W.heap.size + 1, 0, none⟩)])] 106 (0, 0))
  rw [hz] at hy3
  have HYF := Lib.hid hy3
  have HC3 := Lib.hid (Kd.C_below hC HB.out)
  clear hz hz1 hy2 hb1 hb2 hy3 hC
  have q4 : (((W.alloc (.cells #[.int .i64 8, .string nm, .int .i64 fr, .int .i64 tt, .slice A ks.length c] 76 (0, 0))).alloc (.cells #[.string r.f0, .string r.f1, .string r.f2, .string r.f3, .int .i64 r.f4, .int .i64 r.f5] 48 (0, 0))).alloc (.cells #[(.func (Fn.func 57) #[] #[.pointer (some ⟨W.heap.size + 1, 0, none⟩)])] 106 (0, 0))).cell? ⟨W.heap.size, 4, none⟩ = some (.slice A ks.length c) := (blk_cell HYX.out 4).trans rfl
  have q0 : (((W.alloc (.cells #[.int .i64 8, .string nm, .int .i64 fr, .int .i64 tt, .slice A ks.length c] 76 (0, 0))).alloc (.cells #[.string r.f0, .string r.f1, .string r.f2, .string r.f3, .int .i64 r.f4, .int .i64 r.f5] 48 (0, 0))).alloc (.cells #[(.func (Fn.func 57) #[] #[.pointer (some ⟨W.heap.size + 1, 0, none⟩)])] 106 (0, 0))).cell? ⟨W.heap.size, 0, none⟩ = some (.int .i64 8) := (blk_cell HYX.out 0).trans rfl
  have q5 : (((W.alloc (.cells #[.int .i64 8, .string nm, .int .i64 fr, .int .i64 tt, .slice A ks.length c] 76 (0, 0))).alloc (.cells #[.string r.f0, .string r.f1, .string r.f2, .string r.f3, .int .i64 r.f4, .int .i64 r.f5] 48 (0, 0))).alloc (.cells #[(.func (Fn.func 57) #[] #[.pointer (some ⟨W.heap.size + 1, 0, none⟩)])] 106 (0, 0))).cell? ⟨W.heap.size + 1 + 1, 0, none⟩ = some ((.func (Fn.func 57) #[] #[.pointer (some ⟨W.heap.size + 1, 0, none⟩)])) := (blk_cell HYF.out 0).trans rfl
  have hm : ks.length ≤ 9223372036854775807 := HC3.out.2.1
  by_cases h0 : ks.length = 0
  · rw [if_pos h0]
    have h0' : ((ks.length : Int) == 0) = true := by simp [h0]
    clear hd IH h0
    go_enter Tryz.func34, Tryz.ntmps34
    go_wp2_with fail
    go_quiet (fail)
    go_wp2
    go_ret
    exact ⟨rfl, pw_below_drewN HB.out _⟩
  · rw [if_neg h0]
    have hk0 : 0 < ks.length := by omega
    have h0' : ((ks.length : Int) == 0) = false := by simp [h0]
    have hk1 : (0 : Int) < (ks.length : Int) := by omega
    obtain ⟨ad, A4, c4, e, g0, g1, g2, g3, g4, hl4, hC4⟩ := at_T76 HC3.out 0 (by omega) (by omega)
    subst e
    rw [show (0 : Int).toNat * 5 = 0 from rfl, show ad.add 0 = ad by obtain ⟨b, o, s⟩ := ad; unfold Addr.add; cases s <;> simp] at g0 g1 g2 g3 g4
    have hdy := hd _ (rd_mem52 hk0)
    rw [show ((0 : Nat) : Int) = 0 from rfl] at hdy
    generalize rd_T76 ks 0 = y at *
    generalize hW4 : (((W.alloc (.cells #[.int .i64 8, .string nm, .int .i64 fr, .int .i64 tt, .slice (some ad) ks.length c] 76 (0, 0))).alloc (.cells #[.string r.f0, .string r.f1, .string r.f2, .string r.f3, .int .i64 r.f4, .int .i64 r.f5] 48 (0, 0))).alloc (.cells #[(.func (Fn.func 57) #[] #[.pointer (some ⟨W.heap.size + 1, 0, none⟩)])] 106 (0, 0))) = W4 at *
    have HL := fun w' (h : (Aside0 (Below W4.heap.size W4 w') ∧ w'.cell? ⟨W.heap.size, 4, none⟩ = some (.slice (some ad) ks.length c) ∧ w'.cell? ⟨W.heap.size + 1 + 1, 0, none⟩ = some ((.func (Fn.func 57) #[] #[.pointer (some ⟨W.heap.size + 1, 0, none⟩)])) ∧ w'.cell? ad = some (.int .i64 y.f0) ∧ w'.cell? ⟨ad.block, ad.off + 1, none⟩ = some (.string y.f1) ∧ w'.cell? ⟨ad.block, ad.off + 2, none⟩ = some (.int .i64 y.f2) ∧ w'.cell? ⟨ad.block, ad.off + 3, none⟩ = some (.int .i64 y.f3) ∧ w'.cell? ⟨ad.block, ad.off + 4, none⟩ = some (.slice A4 y.f4.length c4))) => Lib.hid (lit1_any d IH y r A4 c4 (W.heap.size + 1) w' hdy (Kd.C_below hC4 h.1.out) hl4 ((h.1.out.block _ (blk_lt HYR.out)).trans HYR.out))
    have HKEEP := Lib.hid (show ∀ w1 w2 : World, (Aside0 (Below W4.heap.size W4 w1) ∧ w1.cell? ⟨W.heap.size, 4, none⟩ = some (.slice (some ad) ks.length c) ∧ w1.cell? ⟨W.heap.size + 1 + 1, 0, none⟩ = some ((.func (Fn.func 57) #[] #[.pointer (some ⟨W.heap.size + 1, 0, none⟩)])) ∧ w1.cell? ad = some (.int .i64 y.f0) ∧ w1.cell? ⟨ad.block, ad.off + 1, none⟩ = some (.string y.f1) ∧ w1.cell? ⟨ad.block, ad.off + 2, none⟩ = some (.int .i64 y.f2) ∧ w1.cell? ⟨ad.block, ad.off + 3, none⟩ = some (.int .i64 y.f3) ∧ w1.cell? ⟨ad.block, ad.off + 4, none⟩ = some (.slice A4 y.f4.length c4)) → Below w1.heap.size w1 w2 → (Aside0 (Below W4.heap.size W4 w2) ∧ w2.cell? ⟨W.heap.size, 4, none⟩ = some (.slice (some ad) ks.length c) ∧ w2.cell? ⟨W.heap.size + 1 + 1, 0, none⟩ = some ((.func (Fn.func 57) #[] #[.pointer (some ⟨W.heap.size + 1, 0, none⟩)])) ∧ w2.cell? ad = some (.int .i64 y.f0) ∧ w2.cell? ⟨ad.block, ad.off + 1, none⟩ = some (.string y.f1) ∧ w2.cell? ⟨ad.block, ad.off + 2, none⟩ = some (.int .i64 y.f2) ∧ w2.cell? ⟨ad.block, ad.off + 3, none⟩ = some (.int .i64 y.f3) ∧ w2.cell? ⟨ad.block, ad.off + 4, none⟩ = some (.slice A4 y.f4.length c4)) from fun w1 w2 h hb => ⟨⟨below_tr h.1.out hb⟩, below_cell hb h.2.1, below_cell hb h.2.2.1, below_cell hb h.2.2.2.1, below_cell hb h.2.2.2.2.1, below_cell hb h.2.2.2.2.2.1, below_cell hb h.2.2.2.2.2.2.1, below_cell hb h.2.2.2.2.2.2.2⟩)
    have HS0 := Lib.hid (show (Aside0 (Below W4.heap.size W4 W4.drew) ∧ W4.drew.cell? ⟨W.heap.size, 4, none⟩ = some (.slice (some ad) ks.length c) ∧ W4.drew.cell? ⟨W.heap.size + 1 + 1, 0, none⟩ = some ((.func (Fn.func 57) #[] #[.pointer (some ⟨W.heap.size + 1, 0, none⟩)])) ∧ W4.drew.cell? ad = some (.int .i64 y.f0) ∧ W4.drew.cell? ⟨ad.block, ad.off + 1, none⟩ = some (.string y.f1) ∧ W4.drew.cell? ⟨ad.block, ad.off + 2, none⟩ = some (.int .i64 y.f2) ∧ W4.drew.cell? ⟨ad.block, ad.off + 3, none⟩ = some (.int .i64 y.f3) ∧ W4.drew.cell? ⟨ad.block, ad.off + 4, none⟩ = some (.slice A4 y.f4.length c4)) from ⟨⟨below_drew (Below.refl _ _)⟩, q4, q5, g0, g1, g2, g3, g4⟩)
    clear hd IH hW4 hC4 hl4
    go_enter Tryz.func34, Tryz.ntmps34
    go_wp2_with fail
    go_region_held3 (fun w' => (Aside0 (Below W4.heap.size W4 w') ∧ w'.cell? ⟨W.heap.size, 4, none⟩ = some (.slice (some ad) ks.length c) ∧ w'.cell? ⟨W.heap.size + 1 + 1, 0, none⟩ = some ((.func (Fn.func 57) #[] #[.pointer (some ⟨W.heap.size + 1, 0, none⟩)])) ∧ w'.cell? ad = some (.int .i64 y.f0) ∧ w'.cell? ⟨ad.block, ad.off + 1, none⟩ = some (.string y.f1) ∧ w'.cell? ⟨ad.block, ad.off + 2, none⟩ = some (.int .i64 y.f2) ∧ w'.cell? ⟨ad.block, ad.off + 3, none⟩ = some (.int .i64 y.f3) ∧ w'.cell? ⟨ad.block, ad.off + 4, none⟩ = some (.slice A4 y.f4.length c4))) (first | assumption | with_reducible exact HS0.out | with_reducible exact HKEEP.out _ _ (by assumption) hb) (first | (go_at_call 57; refine (HL _ (by assumption)).out.mono ?_; rintro e w3 ⟨rfl, hb⟩))
    have HBX := Lib.hid (below_tr HB.out (Aside0.out (And.left (by assumption))))
    go_wp2
    go_ret
    exact ⟨rfl, HBX.out⟩
theorem match_else (o : Int) (h1 : o ≠ 1) (h2 : o ≠ 2) (h3 : o ≠ 3) (h4 : o ≠ 4) (h5 : o ≠ 5) (h6 : o ≠ 6) (h7 : o ≠ 7) (h8 : o ≠ 8) (nm : ByteArray) (fr tt : Int) (ks : List S76) (r : S48) (A : Option Addr) (c : Nat) (W : World) : Calls Tryz.prog 34 #[.agg #[.int .i64 o, .string nm, .int .i64 fr, .int .i64 tt, .slice A ks.length c], .agg #[.string r.f0, .string r.f1, .string r.f2, .string r.f3, .int .i64 r.f4, .int .i64 r.f5]] W fun e W' => e = .returned (.bool false) ∧ Below W.heap.size W W' := by
  have hz : ((W.alloc (.cells #[.int .i64 o, .string nm, .int .i64 fr, .int .i64 tt, .slice A ks.length c] 76 (0, 0))).alloc (.cells #[.string r.f0, .string r.f1, .string r.f2, .string r.f3, .int .i64 r.f4, .int .i64 r.f5] 48 (0, 0))).heap.size = W.heap.size + 1 + 1 := by show ((W.heap.push _).push _).size = _; rw [Array.size_push, Array.size_push]
  have hst := run_store_new ((W.alloc (.cells #[.int .i64 o, .string nm, .int .i64 fr, .int .i64 tt, .slice A ks.length c] 76 (0, 0))).alloc (.cells #[.string r.f0, .string r.f1, .string r.f2, .string r.f3, .int .i64 r.f4, .int .i64 r.f5] 48 (0, 0))) .nilFunc (.func (Fn.func 57) #[] #[.pointer (some ⟨W.heap.size + 1, 0, none⟩)]) 106 rfl
  rw [hz] at hst
  have b1 : (o == 1) = false := by simp [h1]
  have b2 : (o == 2) = false := by simp [h2]
  have b3 : (o == 3) = false := by simp [h3]
  have b4 : (o == 4) = false := by simp [h4]
  have b5 : (o == 5) = false := by simp [h5]
  have b6 : (o == 6) = false := by simp [h6]
  have b7 : (o == 7) = false := by simp [h7]
  have b8 : (o == 8) = false := by simp [h8]
  clear h1 h2 h3 h4 h5 h6 h7 h8
  go_enter Tryz.func34, Tryz.ntmps34
  go_wp2
  go_ret
  exact ⟨rfl, below_alloc (below_alloc (below_alloc (Below.refl _ _) _) _) _⟩
/-- A scope matches, however deep. -/
theorem match_any : ∀ d, MatchAt d
  | 0 => fun x r A c W hd => absurd hd id
  | d + 1 => by
    intro x r A c W hd hC hl
    obtain ⟨o, nm, fr, tt, ks⟩ := x
    have hd' : ∀ y ∈ ks, dp d y := hd
    simp only at hC hl
    show Calls Tryz.prog 34 #[.agg #[.int .i64 o, .string nm, .int .i64 fr, .int .i64 tt, .slice A ks.length c], .agg #[.string r.f0, .string r.f1, .string r.f2, .string r.f3, .int .i64 r.f4, .int .i64 r.f5]] W fun e W' => e = .returned (.bool (if o = 1 then true else if o = 2 then (r.f1.toList == nm.toList) else if o = 3 then (r.f2.toList == nm.toList) else if o = 4 then (r.f3.toList == nm.toList)
      else if o = 5 then (decide (r.f4 ≥ fr) && decide (r.f4 ≤ tt)) else if o = 7 then ks.any (fun y => mt d y r) else if o = 6 then !(ks.any (fun y => !mt d y r))
      else if o = 8 then (if ks.length = 0 then true else !mt d (rd_T76 ks 0) r) else false)) ∧ Below W.heap.size W W'
    by_cases h1 : o = 1
    · rw [if_pos h1]; subst h1; exact match_op1 nm fr tt ks r A c W
    by_cases h2 : o = 2
    · rw [if_neg h1, if_pos h2]; subst h2; exact match_op2 nm fr tt ks r A c W
    by_cases h3 : o = 3
    · rw [if_neg h1, if_neg h2, if_pos h3]; subst h3; exact match_op3 nm fr tt ks r A c W
    by_cases h4 : o = 4
    · rw [if_neg h1, if_neg h2, if_neg h3, if_pos h4]; subst h4; exact match_op4 nm fr tt ks r A c W
    by_cases h5 : o = 5
    · rw [if_neg h1, if_neg h2, if_neg h3, if_neg h4, if_pos h5]; subst h5; exact match_op5 nm fr tt ks r A c W
    by_cases h7 : o = 7
    · rw [if_neg h1, if_neg h2, if_neg h3, if_neg h4, if_neg h5, if_pos h7]; subst h7; exact match_op7 d (match_any d) nm fr tt ks hd' r A c W hC hl
    by_cases h6 : o = 6
    · rw [if_neg h1, if_neg h2, if_neg h3, if_neg h4, if_neg h5, if_neg h7, if_pos h6]; subst h6; exact match_op6 d (match_any d) nm fr tt ks hd' r A c W hC hl
    by_cases h8 : o = 8
    · rw [if_neg h1, if_neg h2, if_neg h3, if_neg h4, if_neg h5, if_neg h7, if_neg h6, if_pos h8]; subst h8; exact match_op8 d (match_any d) nm fr tt ks hd' r A c W hC hl
    rw [if_neg h1, if_neg h2, if_neg h3, if_neg h4, if_neg h5, if_neg h7, if_neg h6, if_neg h8]
    exact match_else o h1 h2 h3 h4 h5 h6 h7 h8 nm fr tt ks r A c W
/-- Every scope is so deep. -/
theorem dp_up : ∀ d e x, d ≤ e → dp d x → dp e x
  | 0, _, _, _, h => absurd h id
  | d + 1, 0, _, h, _ => absurd h (by omega)
  | d + 1, e + 1, x, h, hx => fun y hy => dp_up d e y (by omega) (hx y hy)
end Go.Proofs.YtafigkikblpbnaaGreatDoor.PG
