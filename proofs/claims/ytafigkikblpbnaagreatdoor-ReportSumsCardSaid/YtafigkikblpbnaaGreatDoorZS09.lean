/- Records, holds and certificates that may be. A condition as a text. Rules as a text. A state that may be. Scopes: what the closures do, and five of the eight kinds; no condition beyond each theorem its own. -/
import Derived.Test.YtafigkikblpbnaaGreatDoorZS07
import Derived.Test.YtafigkikblpbnaaGreatDoorZS05
import Derived.Test.YtafigkikblpbnaaGreatDoorZS08
import Derived.Test.YtafigkikblpbnaaGreatDoorZS04
namespace Go.Proofs.YtafigkikblpbnaaGreatDoor.PG
open Go.RowKit Go.Proofs.YtafigkikblpbnaaGreatDoorW.PrintWords Go.Proofs.YtafigkikblpbnaaGreatDoorW.PrintLast Go.Proofs.YtafigkikblpbnaaGreatDoorW.PrintMore
set_option linter.unusedVariables false
set_option linter.unusedSimpArgs false
set_option maxRecDepth 100000
theorem tab15_9 : rtab .any (opsOf Tryz.f43 9) = (true, [([], []), ([], []), ([1], [1]), ([0, 2], [0, 2]), ([3], [3]), ([], []), ([5], [5]), ([6], [6]), ([4, 7], [4, 7]), ([8, 3], [8]), ([9], [9]), ([10, 9], [9, 10]), ([11, 9], [9, 11]), ([12, 9, 9], [9, 12]), ([13], [13]), ([14, 13], [13, 14]), ([13], [13]), ([13], [13]), ([17, 13], [13, 17]), ([16, 18, 13, 13], [13, 16, 18]), ([15, 19, 13], [13, 15, 19]), ([20, 13], [13, 20]), ([21, 13], [13, 21]), ([13], [13]), ([23, 13], [13, 23]), ([24, 13], [13, 24]), ([22, 25, 13], [13, 22, 25]), ([13, 26, 9], [9, 13, 26]), ([9, 27], [9, 27])]) := by kernel_rfl
theorem tab15_14 : rtab .any (opsOf Tryz.f43 14) = (true, [([], []), ([0], [0]), ([], []), ([1, 2], [1, 2]), ([3], [3]), ([4], [4]), ([5], [5]), ([6], [6]), ([7, 6], [7]), ([8], [8]), ([9, 8], [8, 9]), ([8], [8]), ([11, 8], [8, 11]), ([8], [8]), ([12, 13, 8], [8, 12, 13]), ([14, 8], [8, 14]), ([15, 8], [8, 15]), ([10, 16, 8, 8], [8, 10, 16]), ([8], [8]), ([17, 18, 8], [8, 17, 18]), ([8, 19], [8, 19]), ([20, 17], [20]), ([21], [21]), ([22, 21], [21, 22]), ([21], [21]), ([23, 24, 21], [21, 23, 24]), ([25, 21], [21, 25]), ([26, 21], [21, 26]), ([27, 21, 21], [21, 27]), ([28, 21], [21, 28]), ([21, 29], [21, 29])]) := by kernel_rfl
theorem tab15_19 : rtab .any (opsOf Tryz.f43 19) = (true, [([], []), ([0], [0]), ([], []), ([1, 2], [1, 2]), ([3], [3]), ([4], [4]), ([5], [5]), ([6, 5], [6]), ([7], [7]), ([7], [7]), ([9, 7], [7, 9]), ([7], [7]), ([10, 11, 7], [7, 10, 11]), ([12, 7], [7, 12]), ([13, 7], [7, 13]), ([8, 14, 7, 7], [7, 8, 14]), ([7], [7]), ([15, 16, 7], [7, 15, 16]), ([7, 17], [7, 17]), ([18, 15], [18]), ([19], [19]), ([19], [19]), ([21, 19], [19, 21]), ([19], [19]), ([22, 23, 19], [19, 22, 23]), ([24, 19], [19, 24]), ([25, 19], [19, 25]), ([20, 26, 19, 19], [19, 20, 26]), ([27, 19], [19, 27]), ([19, 28], [19, 28]), ([29, 27], [29]), ([30], [30]), ([31, 30], [30, 31]), ([30], [30]), ([32, 33, 30], [30, 32, 33]), ([34, 30], [30, 34]), ([35, 30], [30, 35]), ([30], [30]), ([37, 30], [30, 37]), ([36, 38, 30], [30, 36, 38]), ([30, 39], [30, 39])]) := by kernel_rfl
theorem rd_mem73 {l : List S48} {k : Nat} (h : k < l.length) : rd_T48 l (k : Int) ∈ l := by
  have : rd_T48 l (k : Int) = l[k] := by unfold rd_T48; rw [Int.toNat_natCast, List.getD_eq_getElem?_getD, List.getElem?_eq_getElem h]; rfl
  rw [this]; exact List.getElem_mem h
theorem rd_mem100 {l : List S78} {k : Nat} (h : k < l.length) : rd_T78 l (k : Int) ∈ l := by
  have : rd_T78 l (k : Int) = l[k] := by unfold rd_T78; rw [Int.toNat_natCast, List.getD_eq_getElem?_getD, List.getElem?_eq_getElem h]; rfl
  rw [this]; exact List.getElem_mem h
theorem rd_mem61 {l : List S84} {k : Nat} (h : k < l.length) : rd_T84 l (k : Int) ∈ l := by
  have : rd_T84 l (k : Int) = l[k] := by unfold rd_T84; rw [Int.toNat_natCast, List.getD_eq_getElem?_getD, List.getElem?_eq_getElem h]; rfl
  rw [this]; exact List.getElem_mem h
/-- What is known of a state that may be: few records, whose names are apart. -/
def Ok5 (s : S31) : Prop := s.f5.length ≤ 24 ∧ ∀ k : Nat, k < s.f5.length → ix (nm73 (rd_T48 s.f5 (k : Int)).f0) s.f5 0 = (k : Int) ∧ (1 ≤ (rd_T48 s.f5 (k : Int)).f5 ∧ (rd_T48 s.f5 (k : Int)).f5 ≤ 4) ∧ nmOk (rd_T48 s.f5 (k : Int)).f3 = true
set_option maxHeartbeats 8000000 in
theorem rest_any (s : S31) (A2 A3 A4 A5 A6 A7 A8 : Option Addr) (c2 c3 c4 c5 c6 c7 c8 : Nat) (W : World) (hs : Rs W s A2 A3 A4 A5 A6 A7 A8 c2 c3 c4 c5 c6 c7 c8) (hz : Zs s) : Calls Tryz.prog 43 #[.agg #[.int .i64 s.f0, .int .u64 s.f1, .slice A2 s.f2.length c2, .slice A3 s.f3.length c3, .slice A4 s.f4.length c4, .slice A5 s.f5.length c5, .slice A6 s.f6.length c6, .slice A7 s.f7.length c7, .slice A8 s.f8.length c8, .int .i64 s.f9]] W (RBq (Ok5 s) W) := by
  have HB := Lib.hid (show Below W.heap.size W (W.alloc (.cells #[.int .i64 s.f0, .int .u64 s.f1, .slice A2 s.f2.length c2, .slice A3 s.f3.length c3, .slice A4 s.f4.length c4, .slice A5 s.f5.length c5, .slice A6 s.f6.length c6, .slice A7 s.f7.length c7, .slice A8 s.f8.length c8, .int .i64 s.f9] 31 (0, 0))) from below_alloc (Below.refl _ _) _)
  have HY := Lib.hid (new_blk W (.cells #[.int .i64 s.f0, .int .u64 s.f1, .slice A2 s.f2.length c2, .slice A3 s.f3.length c3, .slice A4 s.f4.length c4, .slice A5 s.f5.length c5, .slice A6 s.f6.length c6, .slice A7 s.f7.length c7, .slice A8 s.f8.length c8, .int .i64 s.f9] 31 (0, 0)))
  have HS := Lib.hid (hs.below HB.out)
  have m4 : s.f4.length ≤ 9223372036854775807 := hs.g4.2.1
  have m5 : s.f5.length ≤ 9223372036854775807 := hs.g5.2.1
  have m6 : s.f6.length ≤ 9223372036854775807 := hs.g6.2.1
  have m7 : s.f7.length ≤ 9223372036854775807 := hs.g7.2.1
  have m8 : s.f8.length ≤ 9223372036854775807 := hs.g8.2.1
  have HZ := Lib.hid hz
  clear hs hz
  by_cases h24 : 24 < s.f5.length
  · have h242 : (24 : Int) < (s.f5.length : Int) := by omega
    go_enter Tryz.func43, Tryz.ntmps43
    go_wp2
    go_ret
    exact RBq.no HB.out
  have h242 : ¬ (24 : Int) < (s.f5.length : Int) := by omega
  have H24 := Lib.hid h24
  clear h24
  go_enter Tryz.func43, Tryz.ntmps43
  go_wp2
  all_goals first
    | (go_ret; exact RBq.no HB.out)
    | skip
  generalize W.alloc (.cells #[.int .i64 s.f0, .int .u64 s.f1, .slice A2 s.f2.length c2, .slice A3 s.f3.length c3, .slice A4 s.f4.length c4, .slice A5 s.f5.length c5, .slice A6 s.f6.length c6, .slice A7 s.f7.length c7, .slice A8 s.f8.length c8, .int .i64 s.f9] 31 (0, 0)) = W1 at *
  go_loopw [3] (fun v3 wr => ∃ k : Nat, v3 = .int .i64 k ∧ k ≤ s.f5.length ∧ Aside0 (∀ j : Nat, j < k → ix (nm73 (rd_T48 s.f5 (j : Int)).f0) s.f5 0 = (j : Int) ∧ (1 ≤ (rd_T48 s.f5 (j : Int)).f5 ∧ (rd_T48 s.f5 (j : Int)).f5 ≤ 4) ∧ nmOk (rd_T48 s.f5 (j : Int)).f3 = true) ∧ Aside0 (Below W1.heap.size W1 wr)) (fun v3 _ => s.f5.length - (intOf v3).toNat)
  case atStart => exact ⟨0, rfl, Nat.zero_le _, ⟨fun j hj => by omega⟩, ⟨Below.refl _ _⟩⟩
  case round =>
    obtain ⟨k, rfl, hk, HA, HBW⟩ := hrel
    have HY2 := Lib.hid ((HBW.out.block W.heap.size (blk_lt HY.out)).trans HY.out)
    have HS2 := Lib.hid (HS.out.below HBW.out)
    have q0 : (wr).cell? ⟨W.heap.size, 0, none⟩ = some (.int .i64 s.f0) := (blk_cell HY2.out 0).trans rfl
    have q1 : (wr).cell? ⟨W.heap.size, 1, none⟩ = some (.int .u64 s.f1) := (blk_cell HY2.out 1).trans rfl
    have q2 : (wr).cell? ⟨W.heap.size, 2, none⟩ = some (.slice A2 s.f2.length c2) := (blk_cell HY2.out 2).trans rfl
    have q3 : (wr).cell? ⟨W.heap.size, 3, none⟩ = some (.slice A3 s.f3.length c3) := (blk_cell HY2.out 3).trans rfl
    have q4 : (wr).cell? ⟨W.heap.size, 4, none⟩ = some (.slice A4 s.f4.length c4) := (blk_cell HY2.out 4).trans rfl
    have q5 : (wr).cell? ⟨W.heap.size, 5, none⟩ = some (.slice A5 s.f5.length c5) := (blk_cell HY2.out 5).trans rfl
    have q6 : (wr).cell? ⟨W.heap.size, 6, none⟩ = some (.slice A6 s.f6.length c6) := (blk_cell HY2.out 6).trans rfl
    have q7 : (wr).cell? ⟨W.heap.size, 7, none⟩ = some (.slice A7 s.f7.length c7) := (blk_cell HY2.out 7).trans rfl
    have q8 : (wr).cell? ⟨W.heap.size, 8, none⟩ = some (.slice A8 s.f8.length c8) := (blk_cell HY2.out 8).trans rfl
    have q9 : (wr).cell? ⟨W.heap.size, 9, none⟩ = some (.int .i64 s.f9) := (blk_cell HY2.out 9).trans rfl
    by_cases hlt : k < s.f5.length
    · have hlt2 : (k : Int) < (s.f5.length : Int) := by omega
      obtain ⟨ad, e, h0, h1, h2, h3, h4, h5⟩ := at_T48 HS2.out.g5 (k : Int) (by omega) (by omega)
      subst e
      simp only [Int.toNat_natCast] at h0 h1 h2 h3 h4 h5
      have hzz := HZ.out.z5 _ (rd_mem73 hlt)
      obtain ⟨y, hy⟩ : ∃ y, y = rd_T48 s.f5 (k : Int) := ⟨_, rfl⟩
      rw [← hy] at h0 h1 h2 h3 h4 h5 hzz
      have HRD := Lib.hid hy
      clear hy
      obtain ⟨WE, hWE⟩ : ∃ WE, wr.alloc (.cells #[.string y.f0, .string y.f1, .string y.f2, .string y.f3, .int .i64 y.f4, .int .i64 y.f5] 48 (0, 0)) = WE := ⟨_, rfl⟩
      have HBE := Lib.hid (show Below wr.heap.size wr WE by rw [← hWE]; exact below_alloc (Below.refl _ _) _)
      have HNE := Lib.hid (show WE.heap[wr.heap.size]? = some (.cells #[.string y.f0, .string y.f1, .string y.f2, .string y.f3, .int .i64 y.f4, .int .i64 y.f5] 48 (0, 0)) by rw [← hWE]; exact new_blk wr _)
      have HSE := Lib.hid (HS2.out.below HBE.out)
      have HBC := Lib.hid (Below.refl WE.heap.size WE)
      have HN0 := fun w => Lib.hid (Name_eq y.f0 hzz.1 w)
      have HTK := fun w => Lib.hid (tick_any y.f4 w)
      have HN3 := fun w => Lib.hid (Name_eq y.f3 hzz.2.2.2 w)
      have HRE := fun w' (h : Below WE.heap.size WE w') => Lib.hid (Rec_eq s _ _ _ _ _ _ _ _ _ _ _ _ _ _ y.f0 w' (HSE.out.below h))
      have HCA := fun w' (h : Below WE.heap.size WE w') => Lib.hid (Case_eq s _ _ _ _ _ _ _ _ _ _ _ _ _ _ y.f1 w' (HSE.out.below h))
      have HSU := fun w' (h : Below WE.heap.size WE w') => Lib.hid (Sub_eq s _ _ _ _ _ _ _ _ _ _ _ _ _ _ y.f2 w' (HSE.out.below h))
      have HCE := fun w' (h : Below WE.heap.size WE w') => Lib.hid (Cert_eq s _ _ _ _ _ _ _ _ _ _ _ _ _ _ y.f0 w' (HSE.out.below h))
      have HJR := Lib.hid (ix_range (nm108 y.f2) s.f4 0)
      generalize hik : ix (nm73 y.f0) s.f5 0 = i at *
      generalize ix (nm59 y.f1) s.f3 0 = kc at *
      generalize ix (nm108 y.f2) s.f4 0 = j at *
      generalize ix (nm61 y.f0) s.f7 0 = ci at *
      have HIK := Lib.hid hik
      clear hzz hik
      have HWE := Lib.hid hWE
      have r0 : WE.cell? ⟨W.heap.size, 0, none⟩ = some (.int .i64 s.f0) := below_cell HBE.out q0
      have r1 : WE.cell? ⟨W.heap.size, 1, none⟩ = some (.int .u64 s.f1) := below_cell HBE.out q1
      have r2 : WE.cell? ⟨W.heap.size, 2, none⟩ = some (.slice A2 s.f2.length c2) := below_cell HBE.out q2
      have r3 : WE.cell? ⟨W.heap.size, 3, none⟩ = some (.slice A3 s.f3.length c3) := below_cell HBE.out q3
      have r4 : WE.cell? ⟨W.heap.size, 4, none⟩ = some (.slice A4 s.f4.length c4) := below_cell HBE.out q4
      have r5 : WE.cell? ⟨W.heap.size, 5, none⟩ = some (.slice (some ad) s.f5.length c5) := below_cell HBE.out q5
      have r6 : WE.cell? ⟨W.heap.size, 6, none⟩ = some (.slice A6 s.f6.length c6) := below_cell HBE.out q6
      have r7 : WE.cell? ⟨W.heap.size, 7, none⟩ = some (.slice A7 s.f7.length c7) := below_cell HBE.out q7
      have r8 : WE.cell? ⟨W.heap.size, 8, none⟩ = some (.slice A8 s.f8.length c8) := below_cell HBE.out q8
      have r9 : WE.cell? ⟨W.heap.size, 9, none⟩ = some (.int .i64 s.f9) := below_cell HBE.out q9
      have e0 : WE.cell? ⟨wr.heap.size, 0, none⟩ = some (.string y.f0) := (blk_cell HNE.out 0).trans rfl
      have e1 : WE.cell? ⟨wr.heap.size, 1, none⟩ = some (.string y.f1) := (blk_cell HNE.out 1).trans rfl
      have e2 : WE.cell? ⟨wr.heap.size, 2, none⟩ = some (.string y.f2) := (blk_cell HNE.out 2).trans rfl
      have e3 : WE.cell? ⟨wr.heap.size, 3, none⟩ = some (.string y.f3) := (blk_cell HNE.out 3).trans rfl
      have e4 : WE.cell? ⟨wr.heap.size, 4, none⟩ = some (.int .i64 y.f4) := (blk_cell HNE.out 4).trans rfl
      have e5 : WE.cell? ⟨wr.heap.size, 5, none⟩ = some (.int .i64 y.f5) := (blk_cell HNE.out 5).trans rfl
      clear hWE
      by_cases hik : i = (k : Int)
      all_goals by_cases hj0 : j < 0
      all_goals
        go_wp2_with fail
        rw [HWE.out]
        clear q0 q1 q2 q3 q4 q5 q6 q7 q8 q9 h0 h1 h2 h3 h4 h5
        refine (HN0 _).out.mono ?_
        rintro e w2 ⟨rfl, rfl⟩
        go_wp2_with (first | (go_at_call 68; with_reducible refine (HN3 _).out.mono ?_; rintro e w2 ⟨rfl, rfl⟩) | (go_at_call 41; with_reducible refine (HTK _).out.mono ?_; rintro e w2 ⟨b, rfl, rfl⟩) | (go_at_call 71; with_reducible refine (HRE _ HBC.out).out.mono ?_; rintro e w2 ⟨rfl, hb⟩; replace HBC := Lib.hid (below_tr HBC.out hb); replace r0 := below_cell hb r0; replace r1 := below_cell hb r1; replace r2 := below_cell hb r2; replace r3 := below_cell hb r3; replace r4 := below_cell hb r4; replace r5 := below_cell hb r5; replace r6 := below_cell hb r6; replace r7 := below_cell hb r7; replace r8 := below_cell hb r8; replace r9 := below_cell hb r9; replace e0 := below_cell hb e0; replace e1 := below_cell hb e1; replace e2 := below_cell hb e2; replace e3 := below_cell hb e3; replace e4 := below_cell hb e4; replace e5 := below_cell hb e5; clear hb) | (go_at_call 24; with_reducible refine (HCA _ HBC.out).out.mono ?_; rintro e w2 ⟨rfl, hb⟩; replace HBC := Lib.hid (below_tr HBC.out hb); replace r0 := below_cell hb r0; replace r1 := below_cell hb r1; replace r2 := below_cell hb r2; replace r3 := below_cell hb r3; replace r4 := below_cell hb r4; replace r5 := below_cell hb r5; replace r6 := below_cell hb r6; replace r7 := below_cell hb r7; replace r8 := below_cell hb r8; replace r9 := below_cell hb r9; replace e0 := below_cell hb e0; replace e1 := below_cell hb e1; replace e2 := below_cell hb e2; replace e3 := below_cell hb e3; replace e4 := below_cell hb e4; replace e5 := below_cell hb e5; clear hb) | (go_at_call 70; with_reducible refine (HSU _ HBC.out).out.mono ?_; rintro e w2 ⟨rfl, hb⟩; replace HBC := Lib.hid (below_tr HBC.out hb); replace r0 := below_cell hb r0; replace r1 := below_cell hb r1; replace r2 := below_cell hb r2; replace r3 := below_cell hb r3; replace r4 := below_cell hb r4; replace r5 := below_cell hb r5; replace r6 := below_cell hb r6; replace r7 := below_cell hb r7; replace r8 := below_cell hb r8; replace r9 := below_cell hb r9; replace e0 := below_cell hb e0; replace e1 := below_cell hb e1; replace e2 := below_cell hb e2; replace e3 := below_cell hb e3; replace e4 := below_cell hb e4; replace e5 := below_cell hb e5; clear hb))
        all_goals first
          | (go_ret; exact RBq.no (below_tr HB.out (below_tr HBW.out (below_tr HBE.out HBC.out))))
          | skip
      · have HKI := Lib.hid hik
        have hj1 : 0 ≤ j := by omega
        have hjl : j < (s.f4.length : Int) := by have := HJR.out; omega
        · skip
          refine (HTK _).out.mono ?_
          rintro e w2 ⟨b, rfl, rfl⟩
          go_wp2_with fail
          all_goals first
            | (go_ret; exact RBq.no (below_tr HB.out (below_tr HBW.out (below_tr HBE.out HBC.out))))
            | skip
          have HST := Lib.hid (show (1 ≤ y.f5 ∧ y.f5 ≤ 4) ∧ nmOk y.f3 = true from ⟨⟨by omega, by omega⟩, by first | assumption | simp_all⟩)
          have HBX := Lib.hid (below_tr HBW.out (below_tr HBE.out HBC.out))
          clear HRE HCA HN0 HN3 HTK
          generalize hb1 : (decide (0 ≤ ci) == decide (2 < y.f5)) = b1 at *
          have hjx : b1 = false ∨ b1 = true := by cases b1 <;> simp
          obtain ⟨ad4, e, g0, g1, g2⟩ := at_T115 (HSE.out.below HBC.out).g4 j hj1 hjl
          subst e
          generalize rd_T115 s.f4 j = z at *
          generalize hb3 : (y.f5 != 3) = b3 at *
          rcases hjx with rfl | rfl
          · skip
            refine WL.start (n := 29) (S := fun w' => Aside0 (Below w2.heap.size w2 w') ∧ w'.cell? ⟨W.heap.size, 0, none⟩ = some (.int .i64 s.f0) ∧ w'.cell? ⟨W.heap.size, 1, none⟩ = some (.int .u64 s.f1) ∧ w'.cell? ⟨W.heap.size, 2, none⟩ = some (.slice A2 s.f2.length c2) ∧ w'.cell? ⟨W.heap.size, 3, none⟩ = some (.slice A3 s.f3.length c3) ∧ w'.cell? ⟨W.heap.size, 4, none⟩ = some (.slice (some ad4) s.f4.length c4) ∧ w'.cell? ⟨W.heap.size, 5, none⟩ = some (.slice (some ad) s.f5.length c5) ∧ w'.cell? ⟨W.heap.size, 6, none⟩ = some (.slice A6 s.f6.length c6) ∧ w'.cell? ⟨W.heap.size, 7, none⟩ = some (.slice A7 s.f7.length c7) ∧ w'.cell? ⟨W.heap.size, 8, none⟩ = some (.slice A8 s.f8.length c8) ∧ w'.cell? ⟨W.heap.size, 9, none⟩ = some (.int .i64 s.f9) ∧ w'.cell? ⟨wr.heap.size, 0, none⟩ = some (.string y.f0) ∧ w'.cell? ⟨wr.heap.size, 1, none⟩ = some (.string y.f1) ∧ w'.cell? ⟨wr.heap.size, 2, none⟩ = some (.string y.f2) ∧ w'.cell? ⟨wr.heap.size, 3, none⟩ = some (.string y.f3) ∧ w'.cell? ⟨wr.heap.size, 4, none⟩ = some (.int .i64 y.f4) ∧ w'.cell? ⟨wr.heap.size, 5, none⟩ = some (.int .i64 y.f5) ∧ w'.cell? ⟨(ad4.add (j.toNat * 3)).block, (ad4.add (j.toNat * 3)).off + 2, none⟩ = some (.bool z.f2)) (ds := []) [false, false, false, false, false, false, false, false, false, false, false, false, false, false, false, false, false, false, false, false, false, false, false, false, false, false, false, false, false] (by kernel_rfl) rfl rfl ⟨⟨below_drew (Below.refl _ _)⟩, r0, r1, r2, r3, r4, r5, r6, r7, r8, r9, e0, e1, e2, e3, e4, e5, g2⟩ (fun hHeld => ?_)
            refine WL.tab tab15_9 (fun HT_ => ?_)
            refine WL.more [1, 5, 0, 2, 6, 7, 3, 4, 8, 9, 10, 11, 12, 13, 14, 17, 23, 15, 16, 18, 24, 25, 19, 20, 21, 22, 26, 27, 28] ?_
            repeat (first
              | (refine WL.off (lb' := ?_) (ys := ?_) rfl rfl (by rfl) ?_ HT_.out ?_ (fun _ _ _ h => h) ?_ ?_; rotate_left 2; (focus dsimp only [List.set_cons_zero, List.set_cons_succ]; rfl); (focus kernel_rfl); (focus dsimp only [List.set_cons_zero, List.set_cons_succ]; rfl))
              | (refine WL.pure (lb' := ?_) (v := ?_) (ys := ?_) rfl rfl (by rfl) ?_ HT_.out ?_ (fun _ _ _ h => h) ?_ ?_ ?_; rotate_left 3; (focus dsimp only [List.set_cons_zero, List.set_cons_succ]; rfl); (focus kernel_rfl); (focus intro w'; go_simp; with_reducible rfl); (focus dsimp only [List.set_cons_zero, List.set_cons_succ]; rfl))
              | (refine WL.take (lb' := ?_) (v := ?_) (ys := ?_) rfl rfl (by rfl) ?_ HT_.out ?_ (fun _ _ _ h => h) hHeld ?_ ?_ ?_; rotate_left 3; (focus dsimp only [List.set_cons_zero, List.set_cons_succ]; rfl); (focus kernel_rfl); (focus rintro w' ⟨s0, s1, s2, s3, s4, s5, s6, s7, s8, s9, s10, s11, s12, s13, s14, s15, s16, s17⟩; go_simp; with_reducible rfl); (focus dsimp only [List.set_cons_zero, List.set_cons_succ]; rfl))
              | (refine WL.one (lb' := ?_) rfl rfl ?_ HT_.out ?_ (by decide) (fun K hK => ?_); rotate_left; (focus dsimp only [List.set_cons_zero, List.set_cons_succ]; rfl); (focus kernel_rfl); first
                  | (refine goes_ Tryz.func72 (by kernel_rfl) rfl #[.agg #[.int .i64 s.f0, .int .u64 s.f1, .slice A2 s.f2.length c2, .slice A3 s.f3.length c3, .slice (some ad4) s.f4.length c4, .slice (some ad) s.f5.length c5, .slice A6 s.f6.length c6, .slice A7 s.f7.length c7, .slice A8 s.f8.length c8, .int .i64 s.f9], .string y.f0] (by rfl) rfl rfl (by simp only [List.map_toArray, List.map_cons, List.map_nil]; rfl) ?_; (with_reducible refine ((HCE _ (below_tr HBC.out hHeld.1.out)).out).mono ?_); rintro e w3 ⟨rfl, hb⟩; refine ⟨_, rfl, ?_⟩; refine hK.out _ _ (by have h_ := hHeld.2; refine ⟨⟨below_tr hHeld.1.out hb⟩, ?_⟩; repeat (first | exact below_cell hb h_ | (refine ⟨below_cell hb h_.1, ?_⟩; replace h_ := h_.2))) (fun hHeld => ?_); clear hK K; refine WL.put (ys := ?_) ?_ ?_; rotate_left; (focus dsimp only [List.set_cons_zero, List.set_cons_succ]; rfl))
                  | (refine goes_ Tryz.func70 (by kernel_rfl) rfl #[.agg #[.int .i64 s.f0, .int .u64 s.f1, .slice A2 s.f2.length c2, .slice A3 s.f3.length c3, .slice (some ad4) s.f4.length c4, .slice (some ad) s.f5.length c5, .slice A6 s.f6.length c6, .slice A7 s.f7.length c7, .slice A8 s.f8.length c8, .int .i64 s.f9], .string y.f2] (by rfl) rfl rfl (by simp only [List.map_toArray, List.map_cons, List.map_nil]; rfl) ?_; (with_reducible refine ((HSU _ (below_tr HBC.out hHeld.1.out)).out).mono ?_); rintro e w3 ⟨rfl, hb⟩; refine ⟨_, rfl, ?_⟩; refine hK.out _ _ (by have h_ := hHeld.2; refine ⟨⟨below_tr hHeld.1.out hb⟩, ?_⟩; repeat (first | exact below_cell hb h_ | (refine ⟨below_cell hb h_.1, ?_⟩; replace h_ := h_.2))) (fun hHeld => ?_); clear hK K; refine WL.put (ys := ?_) ?_ ?_; rotate_left; (focus dsimp only [List.set_cons_zero, List.set_cons_succ]; rfl))))
            refine WL.done HT_.out (by kernel_rfl) ?_
            have HBZ := Lib.hid (below_tr HBX.out hHeld.1.out)
            clear hHeld
            go_wp2
            all_goals first
              | (go_ret; exact RBq.no (below_tr HB.out HBZ.out))
              | (go_roundw
                 case rel => exact ⟨k + 1, by go_num, by omega, ⟨fun q hq => by
                   by_cases hqk : q = k
                   · subst hqk; rw [← HRD.out]; exact ⟨HIK.out.trans HKI.out, HST.out⟩
                   · exact HA.out q (by omega)⟩, ⟨HBZ.out⟩⟩
                 case measure => simp [intOf]; omega)
          · cases b3
            all_goals
              skip
              refine WL.start (n := 29) (S := fun w' => Aside0 (Below w2.heap.size w2 w') ∧ w'.cell? ⟨W.heap.size, 0, none⟩ = some (.int .i64 s.f0) ∧ w'.cell? ⟨W.heap.size, 1, none⟩ = some (.int .u64 s.f1) ∧ w'.cell? ⟨W.heap.size, 2, none⟩ = some (.slice A2 s.f2.length c2) ∧ w'.cell? ⟨W.heap.size, 3, none⟩ = some (.slice A3 s.f3.length c3) ∧ w'.cell? ⟨W.heap.size, 4, none⟩ = some (.slice (some ad4) s.f4.length c4) ∧ w'.cell? ⟨W.heap.size, 5, none⟩ = some (.slice (some ad) s.f5.length c5) ∧ w'.cell? ⟨W.heap.size, 6, none⟩ = some (.slice A6 s.f6.length c6) ∧ w'.cell? ⟨W.heap.size, 7, none⟩ = some (.slice A7 s.f7.length c7) ∧ w'.cell? ⟨W.heap.size, 8, none⟩ = some (.slice A8 s.f8.length c8) ∧ w'.cell? ⟨W.heap.size, 9, none⟩ = some (.int .i64 s.f9) ∧ w'.cell? ⟨wr.heap.size, 0, none⟩ = some (.string y.f0) ∧ w'.cell? ⟨wr.heap.size, 1, none⟩ = some (.string y.f1) ∧ w'.cell? ⟨wr.heap.size, 2, none⟩ = some (.string y.f2) ∧ w'.cell? ⟨wr.heap.size, 3, none⟩ = some (.string y.f3) ∧ w'.cell? ⟨wr.heap.size, 4, none⟩ = some (.int .i64 y.f4) ∧ w'.cell? ⟨wr.heap.size, 5, none⟩ = some (.int .i64 y.f5) ∧ w'.cell? ⟨(ad4.add (j.toNat * 3)).block, (ad4.add (j.toNat * 3)).off + 2, none⟩ = some (.bool z.f2)) (ds := []) [false, false, false, false, false, false, false, false, false, false, false, false, false, false, false, false, false, false, false, false, false, false, false, false, false, false, false, false, false] (by kernel_rfl) rfl rfl ⟨⟨below_drew (Below.refl _ _)⟩, r0, r1, r2, r3, r4, r5, r6, r7, r8, r9, e0, e1, e2, e3, e4, e5, g2⟩ (fun hHeld => ?_)
              refine WL.tab tab15_9 (fun HT_ => ?_)
              refine WL.more [1, 5, 0, 2, 6, 7, 3, 4, 8, 9, 10, 11, 12, 13, 14, 17, 23, 15, 16, 18, 24, 25, 19, 20, 21, 22, 26, 27, 28] ?_
              repeat (first
                | (refine WL.off (lb' := ?_) (ys := ?_) rfl rfl (by rfl) ?_ HT_.out ?_ (fun _ _ _ h => h) ?_ ?_; rotate_left 2; (focus dsimp only [List.set_cons_zero, List.set_cons_succ]; rfl); (focus kernel_rfl); (focus dsimp only [List.set_cons_zero, List.set_cons_succ]; rfl))
                | (refine WL.pure (lb' := ?_) (v := ?_) (ys := ?_) rfl rfl (by rfl) ?_ HT_.out ?_ (fun _ _ _ h => h) ?_ ?_ ?_; rotate_left 3; (focus dsimp only [List.set_cons_zero, List.set_cons_succ]; rfl); (focus kernel_rfl); (focus intro w'; go_simp; with_reducible rfl); (focus dsimp only [List.set_cons_zero, List.set_cons_succ]; rfl))
                | (refine WL.take (lb' := ?_) (v := ?_) (ys := ?_) rfl rfl (by rfl) ?_ HT_.out ?_ (fun _ _ _ h => h) hHeld ?_ ?_ ?_; rotate_left 3; (focus dsimp only [List.set_cons_zero, List.set_cons_succ]; rfl); (focus kernel_rfl); (focus rintro w' ⟨s0, s1, s2, s3, s4, s5, s6, s7, s8, s9, s10, s11, s12, s13, s14, s15, s16, s17⟩; go_simp; with_reducible rfl); (focus dsimp only [List.set_cons_zero, List.set_cons_succ]; rfl))
                | (refine WL.one (lb' := ?_) rfl rfl ?_ HT_.out ?_ (by decide) (fun K hK => ?_); rotate_left; (focus dsimp only [List.set_cons_zero, List.set_cons_succ]; rfl); (focus kernel_rfl); first
                    | (refine goes_ Tryz.func72 (by kernel_rfl) rfl #[.agg #[.int .i64 s.f0, .int .u64 s.f1, .slice A2 s.f2.length c2, .slice A3 s.f3.length c3, .slice (some ad4) s.f4.length c4, .slice (some ad) s.f5.length c5, .slice A6 s.f6.length c6, .slice A7 s.f7.length c7, .slice A8 s.f8.length c8, .int .i64 s.f9], .string y.f0] (by rfl) rfl rfl (by simp only [List.map_toArray, List.map_cons, List.map_nil]; rfl) ?_; (with_reducible refine ((HCE _ (below_tr HBC.out hHeld.1.out)).out).mono ?_); rintro e w3 ⟨rfl, hb⟩; refine ⟨_, rfl, ?_⟩; refine hK.out _ _ (by have h_ := hHeld.2; refine ⟨⟨below_tr hHeld.1.out hb⟩, ?_⟩; repeat (first | exact below_cell hb h_ | (refine ⟨below_cell hb h_.1, ?_⟩; replace h_ := h_.2))) (fun hHeld => ?_); clear hK K; refine WL.put (ys := ?_) ?_ ?_; rotate_left; (focus dsimp only [List.set_cons_zero, List.set_cons_succ]; rfl))
                    | (refine goes_ Tryz.func70 (by kernel_rfl) rfl #[.agg #[.int .i64 s.f0, .int .u64 s.f1, .slice A2 s.f2.length c2, .slice A3 s.f3.length c3, .slice (some ad4) s.f4.length c4, .slice (some ad) s.f5.length c5, .slice A6 s.f6.length c6, .slice A7 s.f7.length c7, .slice A8 s.f8.length c8, .int .i64 s.f9], .string y.f2] (by rfl) rfl rfl (by simp only [List.map_toArray, List.map_cons, List.map_nil]; rfl) ?_; (with_reducible refine ((HSU _ (below_tr HBC.out hHeld.1.out)).out).mono ?_); rintro e w3 ⟨rfl, hb⟩; refine ⟨_, rfl, ?_⟩; refine hK.out _ _ (by have h_ := hHeld.2; refine ⟨⟨below_tr hHeld.1.out hb⟩, ?_⟩; repeat (first | exact below_cell hb h_ | (refine ⟨below_cell hb h_.1, ?_⟩; replace h_ := h_.2))) (fun hHeld => ?_); clear hK K; refine WL.put (ys := ?_) ?_ ?_; rotate_left; (focus dsimp only [List.set_cons_zero, List.set_cons_succ]; rfl))))
              refine WL.done HT_.out (by kernel_rfl) ?_
              have HBZ := Lib.hid (below_tr HBX.out hHeld.1.out)
              clear hHeld
              go_wp2
              all_goals first
                | (go_ret; exact RBq.no (below_tr HB.out HBZ.out))
                | (go_roundw
                   case rel => exact ⟨k + 1, by go_num, by omega, ⟨fun q hq => by
                     by_cases hqk : q = k
                     · subst hqk; rw [← HRD.out]; exact ⟨HIK.out.trans HKI.out, HST.out⟩
                     · exact HA.out q (by omega)⟩, ⟨HBZ.out⟩⟩
                   case measure => simp [intOf]; omega)
    · have HOK := Lib.hid (show Ok5 s from ⟨by have := H24.out; omega, fun j hj => HA.out j (by omega)⟩)
      clear HA
      go_wp2
      clear q0 q1 q2 q3 q4 q5 q6 q7 q8 q9
      go_loopw [5] (fun v5 wr => ∃ k : Nat, v5 = .int .i64 k ∧ k ≤ s.f6.length ∧ Aside0 (Below W1.heap.size W1 wr)) (fun v5 _ => s.f6.length - (intOf v5).toNat)
      case atStart => exact ⟨0, rfl, Nat.zero_le _, ⟨HBW.out⟩⟩
      case round =>
        clear HBW HY2 HS2
        obtain ⟨k, rfl, hk, HBW⟩ := hrel
        have HY2 := Lib.hid ((HBW.out.block W.heap.size (blk_lt HY.out)).trans HY.out)
        have HS2 := Lib.hid (HS.out.below HBW.out)
        have q0 : (wr).cell? ⟨W.heap.size, 0, none⟩ = some (.int .i64 s.f0) := (blk_cell HY2.out 0).trans rfl
        have q1 : (wr).cell? ⟨W.heap.size, 1, none⟩ = some (.int .u64 s.f1) := (blk_cell HY2.out 1).trans rfl
        have q2 : (wr).cell? ⟨W.heap.size, 2, none⟩ = some (.slice A2 s.f2.length c2) := (blk_cell HY2.out 2).trans rfl
        have q3 : (wr).cell? ⟨W.heap.size, 3, none⟩ = some (.slice A3 s.f3.length c3) := (blk_cell HY2.out 3).trans rfl
        have q4 : (wr).cell? ⟨W.heap.size, 4, none⟩ = some (.slice A4 s.f4.length c4) := (blk_cell HY2.out 4).trans rfl
        have q5 : (wr).cell? ⟨W.heap.size, 5, none⟩ = some (.slice A5 s.f5.length c5) := (blk_cell HY2.out 5).trans rfl
        have q6 : (wr).cell? ⟨W.heap.size, 6, none⟩ = some (.slice A6 s.f6.length c6) := (blk_cell HY2.out 6).trans rfl
        have q7 : (wr).cell? ⟨W.heap.size, 7, none⟩ = some (.slice A7 s.f7.length c7) := (blk_cell HY2.out 7).trans rfl
        have q8 : (wr).cell? ⟨W.heap.size, 8, none⟩ = some (.slice A8 s.f8.length c8) := (blk_cell HY2.out 8).trans rfl
        have q9 : (wr).cell? ⟨W.heap.size, 9, none⟩ = some (.int .i64 s.f9) := (blk_cell HY2.out 9).trans rfl
        by_cases hlt : k < s.f6.length
        · have hlt2 : (k : Int) < (s.f6.length : Int) := by omega
          obtain ⟨ad, A4_, c4_, e, h0, h1, h2, h3, h4, h5, h6, hl4, hC4⟩ := at_T78 HS2.out.g6 (k : Int) (by omega) (by omega)
          subst e
          simp only [Int.toNat_natCast] at h0 h1 h2 h3 h4 h5 h6
          have hzz := HZ.out.z6 _ (rd_mem100 hlt)
          generalize rd_T78 s.f6 (k : Int) = y at *
          have HN := fun w => Lib.hid (Name_eq y.f0 hzz.1 w)
          have HFI := fun w' (h : Below wr.heap.size wr w') => Lib.hid (Find22_eq s.f6 _ c6 y.f0 w' (HS2.out.below h).g6)
          have HMY := fun w' (h : Below wr.heap.size wr w') => Lib.hid (May20_any y.f1 A4_ c4_ w' hzz.2 (Kd.C_below hC4 h) hl4)
          clear hzz hC4 hl4 q0 q1 q2 q3 q4 q5 q7 q8 q9 h6
          generalize ix (nm100 y.f0) s.f6 0 = i at *
          generalize hi3 : (i != (k : Int)) = d3 at *
          have hi2 : (i == (k : Int)) = !d3 := by rw [← hi3]; simp [bne]
          cases hnk : nmOk y.f0
          all_goals cases d3
          all_goals
            rw [hnk] at HN
            go_wp2_with fail
            refine WL.start (n := 31) (S := fun w' => Aside0 (Below wr.heap.size wr w') ∧ w'.cell? ⟨W.heap.size, 6, none⟩ = some (.slice (some ad) s.f6.length c6) ∧ w'.cell? (ad.add (k * 7)) = some (.string y.f0) ∧ w'.cell? ⟨(ad.add (k * 7)).block, (ad.add (k * 7)).off + 1, none⟩ = some (.int .i64 y.f1.f0) ∧ w'.cell? ⟨(ad.add (k * 7)).block, (ad.add (k * 7)).off + 2, none⟩ = some (.string y.f1.f1) ∧ w'.cell? ⟨(ad.add (k * 7)).block, (ad.add (k * 7)).off + 3, none⟩ = some (.int .i64 y.f1.f2) ∧ w'.cell? ⟨(ad.add (k * 7)).block, (ad.add (k * 7)).off + 4, none⟩ = some (.int .i64 y.f1.f3) ∧ w'.cell? ⟨(ad.add (k * 7)).block, (ad.add (k * 7)).off + 5, none⟩ = some (.slice A4_ y.f1.f4.length c4_)) (ds := []) [false, false, false, false, false, false, false, false, false, false, false, false, false, false, false, false, false, false, false, false, false, false, false, false, false, false, false, false, false, false, false] (by kernel_rfl) rfl rfl ⟨⟨below_drew (Below.refl _ _)⟩, q6, h0, h1, h2, h3, h4, h5⟩ (fun hHeld => ?_)
            refine WL.tab tab15_14 (fun HT_ => ?_)
            refine WL.more [0, 2, 1, 3, 4, 5, 6, 7, 8, 9, 11, 13, 18, 10, 12, 14, 15, 16, 17, 19, 20, 21, 22, 24, 23, 25, 26, 27, 28, 29, 30] ?_
            repeat (first
              | (refine WL.off (lb' := ?_) (ys := ?_) rfl rfl (by rfl) ?_ HT_.out ?_ (fun _ _ _ h => h) ?_ ?_; rotate_left 2; (focus dsimp only [List.set_cons_zero, List.set_cons_succ]; rfl); (focus kernel_rfl); (focus dsimp only [List.set_cons_zero, List.set_cons_succ]; rfl))
              | (refine WL.pure (lb' := ?_) (v := ?_) (ys := ?_) rfl rfl (by rfl) ?_ HT_.out ?_ (fun _ _ _ h => h) ?_ ?_ ?_; rotate_left 3; (focus dsimp only [List.set_cons_zero, List.set_cons_succ]; rfl); (focus kernel_rfl); (focus intro w'; go_simp; with_reducible rfl); (focus dsimp only [List.set_cons_zero, List.set_cons_succ]; rfl))
              | (refine WL.take (lb' := ?_) (v := ?_) (ys := ?_) rfl rfl (by rfl) ?_ HT_.out ?_ (fun _ _ _ h => h) hHeld ?_ ?_ ?_; rotate_left 3; (focus dsimp only [List.set_cons_zero, List.set_cons_succ]; rfl); (focus kernel_rfl); (focus rintro w' ⟨s0, s1, s2, s3, s4, s5, s6, s7⟩; go_simp; with_reducible rfl); (focus dsimp only [List.set_cons_zero, List.set_cons_succ]; rfl))
              | (refine WL.one (lb' := ?_) rfl rfl ?_ HT_.out ?_ (by decide) (fun K hK => ?_); rotate_left; (focus dsimp only [List.set_cons_zero, List.set_cons_succ]; rfl); (focus kernel_rfl); first
                  | (refine goes_ Tryz.func68 (by kernel_rfl) rfl #[.string y.f0] (by rfl) rfl rfl (by simp only [List.map_toArray, List.map_cons, List.map_nil]; rfl) ?_; (with_reducible refine ((HN _).out).mono ?_); rintro e w3 ⟨rfl, rfl⟩; refine ⟨_, rfl, ?_⟩; refine hK.out _ _ hHeld (fun hHeld => ?_); clear hK K; refine WL.put (ys := ?_) ?_ ?_; rotate_left; (focus dsimp only [List.set_cons_zero, List.set_cons_succ]; rfl))
                  | (refine goes_ Tryz.func73 (by kernel_rfl) rfl #[.slice (some ad) s.f6.length c6, .string y.f0] (by rfl) rfl rfl (by simp only [List.map_toArray, List.map_cons, List.map_nil]; rfl) ?_; (with_reducible refine ((HFI _ hHeld.1.out).out).mono ?_); rintro e w3 ⟨rfl, rfl⟩; refine ⟨_, rfl, ?_⟩; refine hK.out _ _ hHeld (fun hHeld => ?_); clear hK K; refine WL.put (ys := ?_) ?_ ?_; rotate_left; (focus dsimp only [List.set_cons_zero, List.set_cons_succ]; rfl))
                  | (refine goes_ Tryz.func74 (by kernel_rfl) rfl #[.agg #[.int .i64 y.f1.f0, .string y.f1.f1, .int .i64 y.f1.f2, .int .i64 y.f1.f3, .slice A4_ y.f1.f4.length c4_]] (by rfl) rfl rfl (by simp only [List.map_toArray, List.map_cons, List.map_nil]; rfl) ?_; (with_reducible refine ((HMY _ hHeld.1.out).out).mono ?_); rintro e w3 ⟨b, rfl, hb⟩; refine ⟨_, rfl, ?_⟩; refine hK.out _ _ (by have h_ := hHeld.2; refine ⟨⟨below_tr hHeld.1.out hb⟩, ?_⟩; repeat (first | exact below_cell hb h_ | (refine ⟨below_cell hb h_.1, ?_⟩; replace h_ := h_.2))) (fun hHeld => ?_); clear hK K; refine WL.put (ys := ?_) ?_ ?_; rotate_left; (focus dsimp only [List.set_cons_zero, List.set_cons_succ]; rfl))))
            refine WL.done HT_.out (by kernel_rfl) ?_
            have HBZ := Lib.hid (below_tr HBW.out hHeld.1.out)
            clear hHeld
            go_wp2
            all_goals first
              | (go_ret; exact RBq.no (below_tr HB.out HBZ.out))
              | (go_roundw
                 case rel => exact ⟨k + 1, by go_num, by omega, ⟨HBZ.out⟩⟩
                 case measure => simp [intOf]; omega)
        · go_wp2
          clear q0 q1 q2 q3 q4 q5 q6 q7 q8 q9
          go_loopw [6] (fun v6 wr => ∃ k : Nat, v6 = .int .i64 k ∧ k ≤ s.f7.length ∧ Aside0 (Below W1.heap.size W1 wr)) (fun v6 _ => s.f7.length - (intOf v6).toNat)
          case atStart => exact ⟨0, rfl, Nat.zero_le _, ⟨HBW.out⟩⟩
          case round =>
            clear HBW HY2 HS2
            obtain ⟨k, rfl, hk, HBW⟩ := hrel
            have HY2 := Lib.hid ((HBW.out.block W.heap.size (blk_lt HY.out)).trans HY.out)
            have HS2 := Lib.hid (HS.out.below HBW.out)
            have q0 : (wr).cell? ⟨W.heap.size, 0, none⟩ = some (.int .i64 s.f0) := (blk_cell HY2.out 0).trans rfl
            have q1 : (wr).cell? ⟨W.heap.size, 1, none⟩ = some (.int .u64 s.f1) := (blk_cell HY2.out 1).trans rfl
            have q2 : (wr).cell? ⟨W.heap.size, 2, none⟩ = some (.slice A2 s.f2.length c2) := (blk_cell HY2.out 2).trans rfl
            have q3 : (wr).cell? ⟨W.heap.size, 3, none⟩ = some (.slice A3 s.f3.length c3) := (blk_cell HY2.out 3).trans rfl
            have q4 : (wr).cell? ⟨W.heap.size, 4, none⟩ = some (.slice A4 s.f4.length c4) := (blk_cell HY2.out 4).trans rfl
            have q5 : (wr).cell? ⟨W.heap.size, 5, none⟩ = some (.slice A5 s.f5.length c5) := (blk_cell HY2.out 5).trans rfl
            have q6 : (wr).cell? ⟨W.heap.size, 6, none⟩ = some (.slice A6 s.f6.length c6) := (blk_cell HY2.out 6).trans rfl
            have q7 : (wr).cell? ⟨W.heap.size, 7, none⟩ = some (.slice A7 s.f7.length c7) := (blk_cell HY2.out 7).trans rfl
            have q8 : (wr).cell? ⟨W.heap.size, 8, none⟩ = some (.slice A8 s.f8.length c8) := (blk_cell HY2.out 8).trans rfl
            have q9 : (wr).cell? ⟨W.heap.size, 9, none⟩ = some (.int .i64 s.f9) := (blk_cell HY2.out 9).trans rfl
            by_cases hlt : k < s.f7.length
            · have hlt2 : (k : Int) < (s.f7.length : Int) := by omega
              obtain ⟨ad, A4_, c4_, e, h0, h1, h2, h3, hl4, hC4⟩ := at_T84 HS2.out.g7 (k : Int) (by omega) (by omega)
              subst e
              simp only [Int.toNat_natCast] at h0 h1 h2 h3
              have hzz := HZ.out.z7 _ (rd_mem61 hlt)
              generalize rd_T84 s.f7 (k : Int) = y at *
              have HMY := fun w' (h : Below wr.heap.size wr w') => Lib.hid (May25_any y A4_ c4_ w' (Kd.C_below hC4 h) hl4 hzz.2 hzz.1)
              have HCE := fun w' (h : Below wr.heap.size wr w') => Lib.hid (Cert_eq s _ _ _ _ _ _ _ _ _ _ _ _ _ _ y.f0 w' (HS2.out.below h))
              have HRE := fun w' (h : Below wr.heap.size wr w') => Lib.hid (Rec_eq s _ _ _ _ _ _ _ _ _ _ _ _ _ _ y.f0 w' (HS2.out.below h))
              clear hzz hC4 hl4
              generalize ix (nm61 y.f0) s.f7 0 = i at *
              generalize ix (nm73 y.f0) s.f5 0 = j at *
              go_wp2_with fail
              refine WL.start (n := 41) (S := fun w' => Aside0 (Below wr.heap.size wr w') ∧ w'.cell? ⟨W.heap.size, 0, none⟩ = some (.int .i64 s.f0) ∧ w'.cell? ⟨W.heap.size, 1, none⟩ = some (.int .u64 s.f1) ∧ w'.cell? ⟨W.heap.size, 2, none⟩ = some (.slice A2 s.f2.length c2) ∧ w'.cell? ⟨W.heap.size, 3, none⟩ = some (.slice A3 s.f3.length c3) ∧ w'.cell? ⟨W.heap.size, 4, none⟩ = some (.slice A4 s.f4.length c4) ∧ w'.cell? ⟨W.heap.size, 5, none⟩ = some (.slice A5 s.f5.length c5) ∧ w'.cell? ⟨W.heap.size, 6, none⟩ = some (.slice A6 s.f6.length c6) ∧ w'.cell? ⟨W.heap.size, 7, none⟩ = some (.slice (some ad) s.f7.length c7) ∧ w'.cell? ⟨W.heap.size, 8, none⟩ = some (.slice A8 s.f8.length c8) ∧ w'.cell? ⟨W.heap.size, 9, none⟩ = some (.int .i64 s.f9) ∧ w'.cell? (ad.add (k * 4)) = some (.string y.f0) ∧ w'.cell? ⟨(ad.add (k * 4)).block, (ad.add (k * 4)).off + 1, none⟩ = some (.int .i64 y.f1) ∧ w'.cell? ⟨(ad.add (k * 4)).block, (ad.add (k * 4)).off + 2, none⟩ = some (.int .u64 y.f2) ∧ w'.cell? ⟨(ad.add (k * 4)).block, (ad.add (k * 4)).off + 3, none⟩ = some (.slice A4_ y.f3.length c4_)) (ds := []) [false, false, false, false, false, false, false, false, false, false, false, false, false, false, false, false, false, false, false, false, false, false, false, false, false, false, false, false, false, false, false, false, false, false, false, false, false, false, false, false, false] (by kernel_rfl) rfl rfl ⟨⟨below_drew (Below.refl _ _)⟩, q0, q1, q2, q3, q4, q5, q6, q7, q8, q9, h0, h1, h2, h3⟩ (fun hHeld => ?_)
              refine WL.tab tab15_19 (fun HT_ => ?_)
              refine WL.more [0, 2, 1, 3, 4, 5] ?_
              repeat (first
                | (refine WL.off (lb' := ?_) (ys := ?_) rfl rfl (by rfl) ?_ HT_.out ?_ (fun _ _ _ h => h) ?_ ?_; rotate_left 2; (focus dsimp only [List.set_cons_zero, List.set_cons_succ]; rfl); (focus kernel_rfl); (focus dsimp only [List.set_cons_zero, List.set_cons_succ]; rfl))
                | (refine WL.pure (lb' := ?_) (v := ?_) (ys := ?_) rfl rfl (by rfl) ?_ HT_.out ?_ (fun _ _ _ h => h) ?_ ?_ ?_; rotate_left 3; (focus dsimp only [List.set_cons_zero, List.set_cons_succ]; rfl); (focus kernel_rfl); (focus intro w'; go_simp; with_reducible rfl); (focus dsimp only [List.set_cons_zero, List.set_cons_succ]; rfl))
                | (refine WL.take (lb' := ?_) (v := ?_) (ys := ?_) rfl rfl (by rfl) ?_ HT_.out ?_ (fun _ _ _ h => h) hHeld ?_ ?_ ?_; rotate_left 3; (focus dsimp only [List.set_cons_zero, List.set_cons_succ]; rfl); (focus kernel_rfl); (focus rintro w' ⟨s0, s1, s2, s3, s4, s5, s6, s7, s8, s9, s10, s11, s12, s13, s14⟩; go_simp; with_reducible rfl); (focus dsimp only [List.set_cons_zero, List.set_cons_succ]; rfl))
                | (refine WL.one (lb' := ?_) rfl rfl ?_ HT_.out ?_ (by decide) (fun K hK => ?_); rotate_left; (focus dsimp only [List.set_cons_zero, List.set_cons_succ]; rfl); (focus kernel_rfl); first
                    | (refine goes_ Tryz.func75 (by kernel_rfl) rfl #[.agg #[.string y.f0, .int .i64 y.f1, .int .u64 y.f2, .slice A4_ y.f3.length c4_]] (by rfl) rfl rfl (by simp only [List.map_toArray, List.map_cons, List.map_nil]; rfl) ?_; (with_reducible refine ((HMY _ hHeld.1.out).out).mono ?_); rintro e w3 ⟨b, rfl, hb⟩; refine ⟨_, rfl, ?_⟩; refine hK.out _ _ (by have h_ := hHeld.2; refine ⟨⟨below_tr hHeld.1.out hb⟩, ?_⟩; repeat (first | exact below_cell hb h_ | (refine ⟨below_cell hb h_.1, ?_⟩; replace h_ := h_.2))) (fun hHeld => ?_); clear hK K; refine WL.put (ys := ?_) ?_ ?_; rotate_left; (focus dsimp only [List.set_cons_zero, List.set_cons_succ]; rfl))))
              generalize hi3 : (i != (k : Int)) = d3 at *
              have hi2 : (i == (k : Int)) = !d3 := by rw [← hi3]; simp [bne]
              generalize hj3 : decide (j < 0) = d4 at *
              cases b
              all_goals cases d3
              all_goals cases d4
              all_goals
                skip
                refine WL.more [6, 7, 9, 11, 16, 8, 10, 12, 13, 14, 15, 17, 18, 19, 21, 23, 20, 22, 24, 25, 26, 27, 28, 29, 30, 31, 33, 37, 32, 34, 35, 36, 38, 39, 40] ?_
                repeat (first
                  | (refine WL.off (lb' := ?_) (ys := ?_) rfl rfl (by rfl) ?_ HT_.out ?_ (fun _ _ _ h => h) ?_ ?_; rotate_left 2; (focus dsimp only [List.set_cons_zero, List.set_cons_succ]; rfl); (focus kernel_rfl); (focus dsimp only [List.set_cons_zero, List.set_cons_succ]; rfl))
                  | (refine WL.pure (lb' := ?_) (v := ?_) (ys := ?_) rfl rfl (by rfl) ?_ HT_.out ?_ (fun _ _ _ h => h) ?_ ?_ ?_; rotate_left 3; (focus dsimp only [List.set_cons_zero, List.set_cons_succ]; rfl); (focus kernel_rfl); (focus intro w'; go_simp; with_reducible rfl); (focus dsimp only [List.set_cons_zero, List.set_cons_succ]; rfl))
                  | (refine WL.take (lb' := ?_) (v := ?_) (ys := ?_) rfl rfl (by rfl) ?_ HT_.out ?_ (fun _ _ _ h => h) hHeld ?_ ?_ ?_; rotate_left 3; (focus dsimp only [List.set_cons_zero, List.set_cons_succ]; rfl); (focus kernel_rfl); (focus rintro w' ⟨s0, s1, s2, s3, s4, s5, s6, s7, s8, s9, s10, s11, s12, s13, s14⟩; go_simp; with_reducible rfl); (focus dsimp only [List.set_cons_zero, List.set_cons_succ]; rfl))
                  | (refine WL.one (lb' := ?_) rfl rfl ?_ HT_.out ?_ (by decide) (fun K hK => ?_); rotate_left; (focus dsimp only [List.set_cons_zero, List.set_cons_succ]; rfl); (focus kernel_rfl); first
                      | (refine goes_ Tryz.func72 (by kernel_rfl) rfl #[.agg #[.int .i64 s.f0, .int .u64 s.f1, .slice A2 s.f2.length c2, .slice A3 s.f3.length c3, .slice A4 s.f4.length c4, .slice A5 s.f5.length c5, .slice A6 s.f6.length c6, .slice (some ad) s.f7.length c7, .slice A8 s.f8.length c8, .int .i64 s.f9], .string y.f0] (by rfl) rfl rfl (by simp only [List.map_toArray, List.map_cons, List.map_nil]; rfl) ?_; (with_reducible refine ((HCE _ hHeld.1.out).out).mono ?_); rintro e w4 ⟨rfl, hb⟩; refine ⟨_, rfl, ?_⟩; refine hK.out _ _ (by have h_ := hHeld.2; refine ⟨⟨below_tr hHeld.1.out hb⟩, ?_⟩; repeat (first | exact below_cell hb h_ | (refine ⟨below_cell hb h_.1, ?_⟩; replace h_ := h_.2))) (fun hHeld => ?_); clear hK K; refine WL.put (ys := ?_) ?_ ?_; rotate_left; (focus dsimp only [List.set_cons_zero, List.set_cons_succ]; rfl))
                      | (refine goes_ Tryz.func71 (by kernel_rfl) rfl #[.agg #[.int .i64 s.f0, .int .u64 s.f1, .slice A2 s.f2.length c2, .slice A3 s.f3.length c3, .slice A4 s.f4.length c4, .slice A5 s.f5.length c5, .slice A6 s.f6.length c6, .slice (some ad) s.f7.length c7, .slice A8 s.f8.length c8, .int .i64 s.f9], .string y.f0] (by rfl) rfl rfl (by simp only [List.map_toArray, List.map_cons, List.map_nil]; rfl) ?_; (with_reducible refine ((HRE _ hHeld.1.out).out).mono ?_); rintro e w5 ⟨rfl, hb⟩; refine ⟨_, rfl, ?_⟩; refine hK.out _ _ (by have h_ := hHeld.2; refine ⟨⟨below_tr hHeld.1.out hb⟩, ?_⟩; repeat (first | exact below_cell hb h_ | (refine ⟨below_cell hb h_.1, ?_⟩; replace h_ := h_.2))) (fun hHeld => ?_); clear hK K; refine WL.put (ys := ?_) ?_ ?_; rotate_left; (focus dsimp only [List.set_cons_zero, List.set_cons_succ]; rfl))))
                refine WL.done HT_.out (by kernel_rfl) ?_
                have HBZ := Lib.hid (below_tr HBW.out hHeld.1.out)
                clear hHeld
                go_wp2
                all_goals first
                  | (go_ret; exact RBq.no (below_tr HB.out HBZ.out))
                  | (go_roundw
                     case rel => exact ⟨k + 1, by go_num, by omega, ⟨HBZ.out⟩⟩
                     case measure => simp [intOf]; omega)
            · go_wp2
              clear q0 q1 q2 q3 q4 q5 q6 q7 q8 q9
              go_loopw [7] (fun v7 wr => ∃ k : Nat, v7 = .int .i64 k ∧ k ≤ s.f8.length ∧ Aside0 (Below W1.heap.size W1 wr)) (fun v7 _ => s.f8.length - (intOf v7).toNat)
              case atStart => exact ⟨0, rfl, Nat.zero_le _, ⟨HBW.out⟩⟩
              case round =>
                clear HBW HY2 HS2
                obtain ⟨k, rfl, hk, HBW⟩ := hrel
                have HY2 := Lib.hid ((HBW.out.block W.heap.size (blk_lt HY.out)).trans HY.out)
                have HS2 := Lib.hid (HS.out.below HBW.out)
                have q0 : (wr).cell? ⟨W.heap.size, 0, none⟩ = some (.int .i64 s.f0) := (blk_cell HY2.out 0).trans rfl
                have q1 : (wr).cell? ⟨W.heap.size, 1, none⟩ = some (.int .u64 s.f1) := (blk_cell HY2.out 1).trans rfl
                have q2 : (wr).cell? ⟨W.heap.size, 2, none⟩ = some (.slice A2 s.f2.length c2) := (blk_cell HY2.out 2).trans rfl
                have q3 : (wr).cell? ⟨W.heap.size, 3, none⟩ = some (.slice A3 s.f3.length c3) := (blk_cell HY2.out 3).trans rfl
                have q4 : (wr).cell? ⟨W.heap.size, 4, none⟩ = some (.slice A4 s.f4.length c4) := (blk_cell HY2.out 4).trans rfl
                have q5 : (wr).cell? ⟨W.heap.size, 5, none⟩ = some (.slice A5 s.f5.length c5) := (blk_cell HY2.out 5).trans rfl
                have q6 : (wr).cell? ⟨W.heap.size, 6, none⟩ = some (.slice A6 s.f6.length c6) := (blk_cell HY2.out 6).trans rfl
                have q7 : (wr).cell? ⟨W.heap.size, 7, none⟩ = some (.slice A7 s.f7.length c7) := (blk_cell HY2.out 7).trans rfl
                have q8 : (wr).cell? ⟨W.heap.size, 8, none⟩ = some (.slice A8 s.f8.length c8) := (blk_cell HY2.out 8).trans rfl
                have q9 : (wr).cell? ⟨W.heap.size, 9, none⟩ = some (.int .i64 s.f9) := (blk_cell HY2.out 9).trans rfl
                by_cases hlt : k < s.f8.length
                · have hlt2 : (k : Int) < (s.f8.length : Int) := by omega
                  obtain ⟨ad, e, h0⟩ := Kd.at_int HS2.out.g8 (k : Int) (by omega) (by omega)
                  subst e
                  simp only [Int.toNat_natCast] at h0
                  generalize rd s.f8 (k : Int) = x at *
                  clear q0 q1 q2 q3 q4 q5 q6 q7
                  generalize hx1 : decide (x < 0) = d1 at *
                  generalize hx3 : decide (s.f9 ≤ x) = d2 at *
                  have hw : IntKind.i64.wrap ((k : Int) - 1) = (k : Int) - 1 := by rw [i64_w]; unfold wrap64; omega
                  by_cases hk0 : (0 : Int) < k
                  all_goals cases d1
                  all_goals cases d2
                  all_goals first
                    | (have hk1 : decide ((0 : Int) < (k : Int)) = true := decide_eq_true hk0
                       have hk2 : decide (0 < k) = true := decide_eq_true (by omega)
                       obtain ⟨ad2, e2, h1⟩ := Kd.at_int HS2.out.g8 ((k : Int) - 1) (by omega) (by omega)
                       injection e2 with e2
                       subst e2
                       have hkk : ((k : Int) - 1).toNat = k - 1 := by omega
                       rw [hkk] at h1
                       have hb1 : (1 : Int) ≤ (k : Int) := by omega
                       have hb2 : (k : Int) - 1 < (s.f8.length : Int) := by omega
                       clear hk0)
                    | (have hk1 : decide ((0 : Int) < (k : Int)) = false := decide_eq_false hk0
                       have hk2 : decide (0 < k) = false := decide_eq_false (by omega))
                  all_goals
                    go_wp2_with fail
                    go_quiet (fail)
                    have HBZ := Lib.hid (pw_below_drewN HBW.out nq)
                    go_wp2
                    all_goals first
                      | (go_ret; exact RBq.no (below_tr HB.out HBZ.out))
                      | (go_roundw
                         case rel => exact ⟨k + 1, by go_num, by omega, ⟨HBZ.out⟩⟩
                         case measure => simp [intOf]; omega)
                · go_wp2
                  go_ret
                  exact ⟨true, rfl, fun _ => HOK.out, below_tr HB.out HBW.out⟩

end Go.Proofs.YtafigkikblpbnaaGreatDoor.PG
namespace Go.Proofs.YtafigkikblpbnaaGreatDoor.PG
open Go.RowKit Go.Proofs.YtafigkikblpbnaaGreatDoorW.PrintWords Go.Proofs.YtafigkikblpbnaaGreatDoorW.PrintLast Go.Proofs.YtafigkikblpbnaaGreatDoorW.PrintMore
set_option linter.unusedVariables false
set_option linter.unusedSimpArgs false
set_option maxRecDepth 100000

/-- How long a condition's text is at most. -/
def EB : Nat → Nat
  | 0 => 0
  | d + 1 => 24 * (EB d + 7) + 60
/-- It answers a text of such a size; nothing that was there is turned. -/
def RTb (n : Nat) (w : World) (e : Ending) (w' : World) : Prop := ∃ s : ByteArray, e = .returned (.string s) ∧ s.size ≤ n ∧ Below w.heap.size w w'
set_option maxHeartbeats 4000000 in
theorem Expr17 : ∀ (d : Nat) (x : S94) (A : Option Addr) (c : Nat) (W : World), EB d ≤ 100000000000000 → H95 d x → Kd.C k94 W A x.f3.length x.f3 → x.f3.length ≤ c →
    Calls Tryz.prog 66 #[.agg #[.int .i64 x.f0, .int .i64 x.f1, .string x.f2, .slice A x.f3.length c]] W (RTb (EB d) W) := by
  intro d
  induction d with
  | zero => intro x A c W _ h; exact absurd h id
  | succ d ih =>
    intro x A c W hE hH hC hl
    have HIH := Lib.hid ih
    clear ih
    have HB := Lib.hid (show Below W.heap.size W (W.alloc (.cells #[.int .i64 x.f0, .int .i64 x.f1, .string x.f2, .slice A x.f3.length c] 94 (0, 0))) from below_alloc (Below.refl _ _) _)
    have HY := Lib.hid (new_blk W (.cells #[.int .i64 x.f0, .int .i64 x.f1, .string x.f2, .slice A x.f3.length c] 94 (0, 0)))
    have HC := Lib.hid (Kd.C_below hC HB.out)
    have HH := Lib.hid hH
    have hm : x.f3.length ≤ 24 := hH.2.1
    have h16 : x.f2.size ≤ 16 := hH.1
    have hE2 : 24 * (EB d + 7) + 60 ≤ 100000000000000 := hE
    have HEB := Lib.hid (show EB (d + 1) = 24 * (EB d + 7) + 60 from rfl)
    clear hC hH hE
    have q0 : (W.alloc (.cells #[.int .i64 x.f0, .int .i64 x.f1, .string x.f2, .slice A x.f3.length c] 94 (0, 0))).cell? ⟨W.heap.size, 0, none⟩ = some (.int .i64 x.f0) := (blk_cell HY.out 0).trans rfl
    have q1 : (W.alloc (.cells #[.int .i64 x.f0, .int .i64 x.f1, .string x.f2, .slice A x.f3.length c] 94 (0, 0))).cell? ⟨W.heap.size, 1, none⟩ = some (.int .i64 x.f1) := (blk_cell HY.out 1).trans rfl
    have q2 : (W.alloc (.cells #[.int .i64 x.f0, .int .i64 x.f1, .string x.f2, .slice A x.f3.length c] 94 (0, 0))).cell? ⟨W.heap.size, 2, none⟩ = some (.string x.f2) := (blk_cell HY.out 2).trans rfl
    have q3 : (W.alloc (.cells #[.int .i64 x.f0, .int .i64 x.f1, .string x.f2, .slice A x.f3.length c] 94 (0, 0))).cell? ⟨W.heap.size, 3, none⟩ = some (.slice A x.f3.length c) := (blk_cell HY.out 3).trans rfl
    by_cases hop : x.f0 = 1
    · have hop' : (x.f0 == 1) = true := by simp [hop]
      obtain ⟨tx, HT, htx⟩ : ∃ tx : ByteArray, (∀ w, Hid (Calls Tryz.prog 104 #[.int .i64 x.f1] w fun e w' => e = .returned (.string tx) ∧ ∃ m, w' = w.drewN m)) ∧ tx.size ≤ 21 := ⟨_, fun w => Text_any x.f1 w, by
        split
        · exact Nat.zero_le _
        · exact txS_size _⟩
      have hz1 : tx.size + (⟨#[32, 97, 102, 116, 101, 114, 32]⟩ : ByteArray).size ≤ 9223372036854775807 := by rw [show (⟨#[32, 97, 102, 116, 101, 114, 32]⟩ : ByteArray).size = 7 from rfl]; omega
      have hz2 : (tx ++ (⟨#[32, 97, 102, 116, 101, 114, 32]⟩ : ByteArray)).size + x.f2.size ≤ 9223372036854775807 := by rw [ByteArray.size_append, show (⟨#[32, 97, 102, 116, 101, 114, 32]⟩ : ByteArray).size = 7 from rfl]; omega
      go_enter Tryz.func66, Tryz.ntmps66
      go_wp2_with fail
      go_quiet (first | (go_at_call 104; exact Calls.quiet_of (HT _).out))
      go_wp2
      go_ret
      exact ⟨_, rfl, by rw [HEB.out, ByteArray.size_append, ByteArray.size_append, show (⟨#[32, 97, 102, 116, 101, 114, 32]⟩ : ByteArray).size = 7 from rfl]; omega, pw_below_drewN (below_alloc (Below.refl _ _) _) _⟩
    · have hop' : (x.f0 == 1) = false := by simp [hop]
      go_enter Tryz.func66, Tryz.ntmps66
      go_wp2
      generalize W.alloc (.cells #[.int .i64 x.f0, .int .i64 x.f1, .string x.f2, .slice A x.f3.length c] 94 (0, 0)) = W1 at *
      clear q0 q1 q2 q3
      go_loopw [3, 4] (fun v3 v4 wr => ∃ (k : Nat) (t : ByteArray), v4 = .int .i64 k ∧ k ≤ x.f3.length ∧ v3 = .string t ∧ Aside0 (t.size ≤ k * (EB d + 7)) ∧ Aside0 (Below W1.heap.size W1 wr)) (fun v3 v4 _ => x.f3.length - (intOf v4).toNat)
      case atStart => exact ⟨0, _, rfl, Nat.zero_le _, rfl, ⟨Nat.zero_le _⟩, ⟨Below.refl _ _⟩⟩
      case round =>
        obtain ⟨k, t, rfl, hk, rfl, HS, HBW⟩ := hrel
        have HY2 := Lib.hid ((HBW.out.block W.heap.size (blk_lt HY.out)).trans HY.out)
        have q0 : (wr).cell? ⟨W.heap.size, 0, none⟩ = some (.int .i64 x.f0) := (blk_cell HY2.out 0).trans rfl
        have q1 : (wr).cell? ⟨W.heap.size, 1, none⟩ = some (.int .i64 x.f1) := (blk_cell HY2.out 1).trans rfl
        have q2 : (wr).cell? ⟨W.heap.size, 2, none⟩ = some (.string x.f2) := (blk_cell HY2.out 2).trans rfl
        have q3 : (wr).cell? ⟨W.heap.size, 3, none⟩ = some (.slice A x.f3.length c) := (blk_cell HY2.out 3).trans rfl
        by_cases hlt : k < x.f3.length
        · have hlt2 : (k : Int) < (x.f3.length : Int) := by omega
          obtain ⟨ad, A4, c4, e, h0, h1, h2, h3, hl4, hC4⟩ := at_T94 (Kd.C_below HC.out HBW.out) (k : Int) (by omega) (by omega)
          subst e
          simp only [Int.toNat_natCast] at h0 h1 h2 h3
          have hy := HH.out.2.2 _ (rd_mem95 hlt)
          generalize rd_T94 x.f3 (k : Int) = y at *
          have HBA := Lib.hid (below_alloc (Below.refl wr.heap.size wr) (.cells #[.int .i64 y.f0, .int .i64 y.f1, .string y.f2, .slice A4 y.f3.length c4] 94 (0, 0)))
          have HYA := Lib.hid (new_blk wr (.cells #[.int .i64 y.f0, .int .i64 y.f1, .string y.f2, .slice A4 y.f3.length c4] 94 (0, 0)))
          have HYB := Lib.hid ((HBA.out.block W.heap.size (blk_lt HY2.out)).trans HY2.out)
          have HCALL := Lib.hid (HIH.out y A4 c4 (wr.alloc (.cells #[.int .i64 y.f0, .int .i64 y.f1, .string y.f2, .slice A4 y.f3.length c4] 94 (0, 0))) (by omega) hy (Kd.C_below hC4 HBA.out) hl4)
          clear hC4 hl4 hy
          go_wp2_with fail
          refine HCALL.out.mono ?_
          rintro e w2 ⟨s, rfl, hs, hb⟩
          have HB2 := Lib.hid (below_tr HBW.out (below_tr HBA.out hb))
          have HY3 := Lib.hid ((hb.block W.heap.size (blk_lt HYB.out)).trans HYB.out)
          have HY4 := Lib.hid ((hb.block wr.heap.size (blk_lt HYA.out)).trans HYA.out)
          clear hb q0 q1 q2 q3 h0 h1 h2 h3
          have q0 : w2.cell? ⟨W.heap.size, 0, none⟩ = some (.int .i64 x.f0) := (blk_cell HY3.out 0).trans rfl
          have q1 : w2.cell? ⟨W.heap.size, 1, none⟩ = some (.int .i64 x.f1) := (blk_cell HY3.out 1).trans rfl
          have q2 : w2.cell? ⟨W.heap.size, 2, none⟩ = some (.string x.f2) := (blk_cell HY3.out 2).trans rfl
          have q3 : w2.cell? ⟨W.heap.size, 3, none⟩ = some (.slice (some ad) x.f3.length c) := (blk_cell HY3.out 3).trans rfl
          have r0 : w2.cell? ⟨wr.heap.size, 0, none⟩ = some (.int .i64 y.f0) := (blk_cell HY4.out 0).trans rfl
          have r1 : w2.cell? ⟨wr.heap.size, 1, none⟩ = some (.int .i64 y.f1) := (blk_cell HY4.out 1).trans rfl
          have r2 : w2.cell? ⟨wr.heap.size, 2, none⟩ = some (.string y.f2) := (blk_cell HY4.out 2).trans rfl
          have r3 : w2.cell? ⟨wr.heap.size, 3, none⟩ = some (.slice A4 y.f3.length c4) := (blk_cell HY4.out 3).trans rfl
          have ht : t.size ≤ 100000000000000 := by have h := HS.out; have h3 : k * (EB d + 7) ≤ 24 * (EB d + 7) := Nat.mul_le_mul_right _ (by omega); omega
          go_wp2
          all_goals first
            | (exfalso; omega)
            | (go_roundw
               case rel => exact ⟨k + 1, _, by go_num, by omega, rfl, ⟨by
                 have h := HS.out
                 have e1 : (⟨#[40]⟩ : ByteArray).size = 1 := rfl
                 have e2 : (⟨#[41]⟩ : ByteArray).size = 1 := rfl
                 have e3 : (⟨#[32, 111, 114, 32]⟩ : ByteArray).size = 4 := rfl
                 have e4 : (⟨#[32, 97, 110, 100, 32]⟩ : ByteArray).size = 5 := rfl
                 rw [Nat.succ_mul]
                 simp only [ByteArray.size_append, e1, e2, e3, e4]
                 omega⟩, ⟨HB2.out⟩⟩
               case measure => simp [intOf]; omega)
        · go_wp2
          go_ret
          exact ⟨t, rfl, by have h := HS.out; have h2 := HEB.out; have h3 : k * (EB d + 7) ≤ 24 * (EB d + 7) := Nat.mul_le_mul_right _ (by omega); omega, below_tr HB.out HBW.out⟩
end Go.Proofs.YtafigkikblpbnaaGreatDoor.PG
namespace Go.Proofs.YtafigkikblpbnaaGreatDoor.PG
open Go.RowKit Go.Proofs.YtafigkikblpbnaaGreatDoorW.PrintWords Go.Proofs.YtafigkikblpbnaaGreatDoorW.PrintLast Go.Proofs.YtafigkikblpbnaaGreatDoorW.PrintMore
set_option linter.unusedVariables false
set_option linter.unusedSimpArgs false
set_option maxRecDepth 100000

/-- It answers a text and a number; where it is 0 p holds; nothing that was there is turned. -/
def RTI (p : Prop) (w : World) (e : Ending) (w' : World) : Prop := ∃ (s : ByteArray) (r : Int), e = .returned (.tuple #[.string s, .int .i64 r]) ∧ (r = 0 → p) ∧ Below w.heap.size w w'
set_option maxHeartbeats 4000000 in
theorem Print17 (l : List S96) (A : Option Addr) (c : Nat) (W : World) (hC : Kd.C k96 W A l.length l) (hl : l.length ≤ c) (hz : ∀ x ∈ l, x.f0.size ≤ 140737488351232 ∧ Z95 x.f1) :
    Calls Tryz.prog 40 #[.slice A l.length c] W (RTI (l.length ≤ 12 ∧ ∀ x ∈ l, H95 8 x.f1 ∧ x.f0.size ≤ 16) W) := by
  have hm : l.length ≤ 9223372036854775807 := hC.2.1
  have HCALL := Lib.hid (Check17 l A c W hC hl hz)
  clear hz
  go_enter Tryz.func40, Tryz.ntmps40
  go_wp2_with fail
  refine HCALL.out.mono ?_
  rintro e w2 ⟨r, rfl, hr, hb⟩
  have HB := Lib.hid hb
  have HC := Lib.hid (Kd.C_below hC hb)
  have HR := Lib.hid hr
  clear hb hC hr
  by_cases h0 : r = 0
  · subst h0
    obtain ⟨h12, hall⟩ := HR.out rfl
    have HALL := Lib.hid hall
    clear hall
    go_wp2
    go_loopw [5, 6] (fun v5 v6 wr => ∃ (k : Nat) (t : ByteArray), v6 = .int .i64 k ∧ k ≤ l.length ∧ v5 = .string t ∧ Aside0 (t.size ≤ k * (EB 8 + 100)) ∧ Aside0 (Below w2.heap.size w2 wr)) (fun v5 v6 _ => l.length - (intOf v6).toNat)
    case atStart => exact ⟨0, _, rfl, Nat.zero_le _, rfl, ⟨Nat.zero_le _⟩, ⟨Below.refl _ _⟩⟩
    case round =>
      obtain ⟨k, t, rfl, hk, rfl, HS, HBW⟩ := hrel
      have ht : t.size ≤ 2000000000000000 := by have h := HS.out; have h3 : k * (EB 8 + 100) ≤ 12 * (EB 8 + 100) := Nat.mul_le_mul_right _ (by omega); have h4 : EB 8 ≤ 100000000000000 := (by decide); omega
      by_cases hlt : k < l.length
      · have hlt2 : (k : Int) < (l.length : Int) := by omega
        obtain ⟨ad, A4, c4, e, h0, h1, h2, h3, h4, h5, hl4, hC4⟩ := at_T96 (Kd.C_below HC.out HBW.out) (k : Int) (by omega) (by omega)
        subst e
        simp only [Int.toNat_natCast] at h0 h1 h2 h3 h4 h5
        have hy := HALL.out _ (rd_mem97 hlt)
        generalize rd_T96 l (k : Int) = y at *
        have hy0 := hy.2
        have HEX := fun w' (h : (Aside0 (Below wr.heap.size wr w') ∧ w'.cell? ⟨(ad.add (k * 6)).block, (ad.add (k * 6)).off + 1, none⟩ = some (.int .i64 y.f1.f0) ∧ w'.cell? ⟨(ad.add (k * 6)).block, (ad.add (k * 6)).off + 2, none⟩ = some (.int .i64 y.f1.f1) ∧ w'.cell? ⟨(ad.add (k * 6)).block, (ad.add (k * 6)).off + 3, none⟩ = some (.string y.f1.f2) ∧ w'.cell? ⟨(ad.add (k * 6)).block, (ad.add (k * 6)).off + 4, none⟩ = some (.slice A4 y.f1.f3.length c4) ∧ w'.cell? ⟨(ad.add (k * 6)).block, (ad.add (k * 6)).off + 5, none⟩ = some (.int .i64 y.f2))) => Lib.hid (Expr17 8 y.f1 A4 c4 w' (by decide) hy.1 (Kd.C_below hC4 h.1.out) hl4)
        have HKEEP := Lib.hid (show ∀ w1 w2 : World, (Aside0 (Below wr.heap.size wr w1) ∧ w1.cell? ⟨(ad.add (k * 6)).block, (ad.add (k * 6)).off + 1, none⟩ = some (.int .i64 y.f1.f0) ∧ w1.cell? ⟨(ad.add (k * 6)).block, (ad.add (k * 6)).off + 2, none⟩ = some (.int .i64 y.f1.f1) ∧ w1.cell? ⟨(ad.add (k * 6)).block, (ad.add (k * 6)).off + 3, none⟩ = some (.string y.f1.f2) ∧ w1.cell? ⟨(ad.add (k * 6)).block, (ad.add (k * 6)).off + 4, none⟩ = some (.slice A4 y.f1.f3.length c4) ∧ w1.cell? ⟨(ad.add (k * 6)).block, (ad.add (k * 6)).off + 5, none⟩ = some (.int .i64 y.f2)) → Below w1.heap.size w1 w2 → (Aside0 (Below wr.heap.size wr w2) ∧ w2.cell? ⟨(ad.add (k * 6)).block, (ad.add (k * 6)).off + 1, none⟩ = some (.int .i64 y.f1.f0) ∧ w2.cell? ⟨(ad.add (k * 6)).block, (ad.add (k * 6)).off + 2, none⟩ = some (.int .i64 y.f1.f1) ∧ w2.cell? ⟨(ad.add (k * 6)).block, (ad.add (k * 6)).off + 3, none⟩ = some (.string y.f1.f2) ∧ w2.cell? ⟨(ad.add (k * 6)).block, (ad.add (k * 6)).off + 4, none⟩ = some (.slice A4 y.f1.f3.length c4) ∧ w2.cell? ⟨(ad.add (k * 6)).block, (ad.add (k * 6)).off + 5, none⟩ = some (.int .i64 y.f2)) from fun w1 w2 h hb => ⟨⟨below_tr h.1.out hb⟩, below_cell hb h.2.1, below_cell hb h.2.2.1, below_cell hb h.2.2.2.1, below_cell hb h.2.2.2.2.1, below_cell hb h.2.2.2.2.2⟩)
        have HS0 := Lib.hid (show (Aside0 (Below wr.heap.size wr wr.drew) ∧ wr.drew.cell? ⟨(ad.add (k * 6)).block, (ad.add (k * 6)).off + 1, none⟩ = some (.int .i64 y.f1.f0) ∧ wr.drew.cell? ⟨(ad.add (k * 6)).block, (ad.add (k * 6)).off + 2, none⟩ = some (.int .i64 y.f1.f1) ∧ wr.drew.cell? ⟨(ad.add (k * 6)).block, (ad.add (k * 6)).off + 3, none⟩ = some (.string y.f1.f2) ∧ wr.drew.cell? ⟨(ad.add (k * 6)).block, (ad.add (k * 6)).off + 4, none⟩ = some (.slice A4 y.f1.f3.length c4) ∧ wr.drew.cell? ⟨(ad.add (k * 6)).block, (ad.add (k * 6)).off + 5, none⟩ = some (.int .i64 y.f2)) from ⟨⟨below_drew (Below.refl _ _)⟩, h1, h2, h3, h4, h5⟩)
        have HAC := fun w' => Lib.hid (act_any y.f2 w')
        clear hC4 hl4 hy
        have hE8 : EB 8 ≤ 100000000000000 := by decide
        have e7 : (⟨#[100, 101, 102, 97, 117, 108, 116]⟩ : ByteArray).size = 7 := rfl
        have e7b : (⟨#[99, 108, 97, 115, 115, 32, 34]⟩ : ByteArray).size = 7 := rfl
        have e1 : (⟨#[34]⟩ : ByteArray).size = 1 := rfl
        by_cases hcl : y.f0.toList.isEmpty = true
        · go_wp2_with fail
          all_goals first
            | (exfalso; omega)
            | skip
          generalize ht2 : t ++ (⟨#[100, 101, 102, 97, 117, 108, 116]⟩ : ByteArray) = t2 at *
          have HT2 := Lib.hid ht2
          clear ht2
          have z2 : t2.size ≤ t.size + 24 := by rw [← HT2.out]; simp only [ByteArray.size_append, e7, e7b, e1]; omega
          have z3 : ¬ 9223372036854775807 < t2.size + 6 := by omega
          have HZ4 := Lib.hid (show ∀ q : ByteArray, q.size ≤ EB 8 → ¬ 9223372036854775807 < t2.size + 6 + q.size from fun q hq => by omega)
          have HZ5 := Lib.hid (show ∀ q : ByteArray, q.size ≤ EB 8 → ¬ 9223372036854775807 < t2.size + 6 + q.size + 6 from fun q hq => by omega)
          have HZ6 := Lib.hid (show ∀ q q2 : ByteArray, q.size ≤ EB 8 → q2.size ≤ 7 → ¬ 9223372036854775807 < t2.size + 6 + q.size + 6 + q2.size from fun q q2 hq h2 => by omega)
          have HZ7 := Lib.hid (show ∀ q q2 : ByteArray, q.size ≤ EB 8 → q2.size ≤ 7 → ¬ 9223372036854775807 < t2.size + 6 + q.size + 6 + q2.size + 2 from fun q q2 hq h2 => by omega)
          go_region_held3 (fun w' => (Aside0 (Below wr.heap.size wr w') ∧ w'.cell? ⟨(ad.add (k * 6)).block, (ad.add (k * 6)).off + 1, none⟩ = some (.int .i64 y.f1.f0) ∧ w'.cell? ⟨(ad.add (k * 6)).block, (ad.add (k * 6)).off + 2, none⟩ = some (.int .i64 y.f1.f1) ∧ w'.cell? ⟨(ad.add (k * 6)).block, (ad.add (k * 6)).off + 3, none⟩ = some (.string y.f1.f2) ∧ w'.cell? ⟨(ad.add (k * 6)).block, (ad.add (k * 6)).off + 4, none⟩ = some (.slice A4 y.f1.f3.length c4) ∧ w'.cell? ⟨(ad.add (k * 6)).block, (ad.add (k * 6)).off + 5, none⟩ = some (.int .i64 y.f2))) (first | assumption | exact HS0.out | exact HKEEP.out _ _ (by assumption) hb) (first | (go_at_call 66; refine (HEX _ (by assumption)).out.mono ?_; rintro e w3 ⟨s, rfl, hs, hb⟩; have z4 := HZ4.out s hs; have z5 := HZ5.out s hs) | (go_at_call 67; refine (HAC _).out.mono ?_; rintro e w4 ⟨s2, rfl, hs2, rfl⟩; have z6 := HZ6.out s s2 hs hs2; have z7 := HZ7.out s s2 hs hs2))
          go_wp2
          go_roundw
          case rel => exact ⟨k + 1, _, by go_num, by omega, rfl, ⟨by
            have h := HS.out
            have e2 : (⟨#[32, 107, 101, 101, 112, 32]⟩ : ByteArray).size = 6 := rfl
            have e3 : (⟨#[32, 116, 104, 101, 110, 32]⟩ : ByteArray).size = 6 := rfl
            have e4 : (⟨#[59, 10]⟩ : ByteArray).size = 2 := rfl
            rw [Nat.succ_mul]
            simp only [ByteArray.size_append, e2, e3, e4]
            omega⟩, ⟨below_tr HBW.out (Aside0.out (And.left (by assumption)))⟩⟩
          case measure => simp [intOf]; omega
        · go_wp2_with fail
          all_goals first
            | (exfalso; omega)
            | skip
          generalize ht2 : t ++ (⟨#[99, 108, 97, 115, 115, 32, 34]⟩ : ByteArray) ++ y.f0 ++ (⟨#[34]⟩ : ByteArray) = t2 at *
          have HT2 := Lib.hid ht2
          clear ht2
          have z2 : t2.size ≤ t.size + 24 := by rw [← HT2.out]; simp only [ByteArray.size_append, e7, e7b, e1]; omega
          have z3 : ¬ 9223372036854775807 < t2.size + 6 := by omega
          have HZ4 := Lib.hid (show ∀ q : ByteArray, q.size ≤ EB 8 → ¬ 9223372036854775807 < t2.size + 6 + q.size from fun q hq => by omega)
          have HZ5 := Lib.hid (show ∀ q : ByteArray, q.size ≤ EB 8 → ¬ 9223372036854775807 < t2.size + 6 + q.size + 6 from fun q hq => by omega)
          have HZ6 := Lib.hid (show ∀ q q2 : ByteArray, q.size ≤ EB 8 → q2.size ≤ 7 → ¬ 9223372036854775807 < t2.size + 6 + q.size + 6 + q2.size from fun q q2 hq h2 => by omega)
          have HZ7 := Lib.hid (show ∀ q q2 : ByteArray, q.size ≤ EB 8 → q2.size ≤ 7 → ¬ 9223372036854775807 < t2.size + 6 + q.size + 6 + q2.size + 2 from fun q q2 hq h2 => by omega)
          go_region_held3 (fun w' => (Aside0 (Below wr.heap.size wr w') ∧ w'.cell? ⟨(ad.add (k * 6)).block, (ad.add (k * 6)).off + 1, none⟩ = some (.int .i64 y.f1.f0) ∧ w'.cell? ⟨(ad.add (k * 6)).block, (ad.add (k * 6)).off + 2, none⟩ = some (.int .i64 y.f1.f1) ∧ w'.cell? ⟨(ad.add (k * 6)).block, (ad.add (k * 6)).off + 3, none⟩ = some (.string y.f1.f2) ∧ w'.cell? ⟨(ad.add (k * 6)).block, (ad.add (k * 6)).off + 4, none⟩ = some (.slice A4 y.f1.f3.length c4) ∧ w'.cell? ⟨(ad.add (k * 6)).block, (ad.add (k * 6)).off + 5, none⟩ = some (.int .i64 y.f2))) (first | assumption | exact HS0.out | exact HKEEP.out _ _ (by assumption) hb) (first | (go_at_call 66; refine (HEX _ (by assumption)).out.mono ?_; rintro e w3 ⟨s, rfl, hs, hb⟩; have z4 := HZ4.out s hs; have z5 := HZ5.out s hs) | (go_at_call 67; refine (HAC _).out.mono ?_; rintro e w4 ⟨s2, rfl, hs2, rfl⟩; have z6 := HZ6.out s s2 hs hs2; have z7 := HZ7.out s s2 hs hs2))
          go_wp2
          go_roundw
          case rel => exact ⟨k + 1, _, by go_num, by omega, rfl, ⟨by
            have h := HS.out
            have e2 : (⟨#[32, 107, 101, 101, 112, 32]⟩ : ByteArray).size = 6 := rfl
            have e3 : (⟨#[32, 116, 104, 101, 110, 32]⟩ : ByteArray).size = 6 := rfl
            have e4 : (⟨#[59, 10]⟩ : ByteArray).size = 2 := rfl
            rw [Nat.succ_mul]
            simp only [ByteArray.size_append, e2, e3, e4]
            omega⟩, ⟨below_tr HBW.out (Aside0.out (And.left (by assumption)))⟩⟩
          case measure => simp [intOf]; omega
      · go_wp2
        all_goals
          go_ret2
          exact ⟨_, _, rfl, fun _ => ⟨h12, HALL.out⟩, below_tr HB.out HBW.out⟩
  · go_wp2
    go_ret2
    exact ⟨_, r, rfl, fun h => absurd h h0, HB.out⟩
end Go.Proofs.YtafigkikblpbnaaGreatDoor.PG
namespace Go.Proofs.YtafigkikblpbnaaGreatDoor.PG
open Go.RowKit Go.Proofs.YtafigkikblpbnaaGreatDoorW.PrintWords Go.Proofs.YtafigkikblpbnaaGreatDoorW.PrintLast Go.Proofs.YtafigkikblpbnaaGreatDoorW.PrintMore
set_option linter.unusedVariables false
set_option linter.unusedSimpArgs false
set_option maxRecDepth 100000

/-- What is known of a state that may be. -/
structure May5 (s : S31) : Prop where
  rules : s.f2.length ≤ 12 ∧ ∀ x ∈ s.f2, H95 8 x.f1 ∧ x.f0.size ≤ 16
  miles : ∀ y ∈ s.f3, y.f1.length ≤ 8
  recs : Ok5 s

set_option maxHeartbeats 4000000 in
theorem May_any (s : S31) (A2 A3 A4 A5 A6 A7 A8 : Option Addr) (c2 c3 c4 c5 c6 c7 c8 : Nat) (W : World) (hs : Rs W s A2 A3 A4 A5 A6 A7 A8 c2 c3 c4 c5 c6 c7 c8) (hz : Zs s) : Calls Tryz.prog 19 #[.agg #[.int .i64 s.f0, .int .u64 s.f1, .slice A2 s.f2.length c2, .slice A3 s.f3.length c3, .slice A4 s.f4.length c4, .slice A5 s.f5.length c5, .slice A6 s.f6.length c6, .slice A7 s.f7.length c7, .slice A8 s.f8.length c8, .int .i64 s.f9]] W (RBq (May5 s) W) := by
  have HB := Lib.hid (show Below W.heap.size W (W.alloc (.cells #[.int .i64 s.f0, .int .u64 s.f1, .slice A2 s.f2.length c2, .slice A3 s.f3.length c3, .slice A4 s.f4.length c4, .slice A5 s.f5.length c5, .slice A6 s.f6.length c6, .slice A7 s.f7.length c7, .slice A8 s.f8.length c8, .int .i64 s.f9] 31 (0, 0))) from below_alloc (Below.refl _ _) _)
  have HY := Lib.hid (new_blk W (.cells #[.int .i64 s.f0, .int .u64 s.f1, .slice A2 s.f2.length c2, .slice A3 s.f3.length c3, .slice A4 s.f4.length c4, .slice A5 s.f5.length c5, .slice A6 s.f6.length c6, .slice A7 s.f7.length c7, .slice A8 s.f8.length c8, .int .i64 s.f9] 31 (0, 0)))
  have HS := Lib.hid (hs.below HB.out)
  have HZ := Lib.hid hz
  clear hs hz
  have HP := Lib.hid (Print17 s.f2 A2 c2 _ HS.out.g2 HS.out.l2 HZ.out.z2)
  go_enter Tryz.func19, Tryz.ntmps19
  go_wp2_with fail
  generalize W.alloc (.cells #[.int .i64 s.f0, .int .u64 s.f1, .slice A2 s.f2.length c2, .slice A3 s.f3.length c3, .slice A4 s.f4.length c4, .slice A5 s.f5.length c5, .slice A6 s.f6.length c6, .slice A7 s.f7.length c7, .slice A8 s.f8.length c8, .int .i64 s.f9] 31 (0, 0)) = W1 at *
  refine HP.out.mono ?_
  rintro e w2 ⟨st, r, rfl, hr, hb⟩
  have HR := Lib.hid hr
  have HB2 := Lib.hid (below_tr HB.out hb)
  have HY2 := Lib.hid ((hb.block W.heap.size (blk_lt HY.out)).trans HY.out)
  have HS2 := Lib.hid (HS.out.below hb)
  clear hr hb
  have q0 : (w2).cell? ⟨W.heap.size, 0, none⟩ = some (.int .i64 s.f0) := (blk_cell HY2.out 0).trans rfl
  have q1 : (w2).cell? ⟨W.heap.size, 1, none⟩ = some (.int .u64 s.f1) := (blk_cell HY2.out 1).trans rfl
  have q2 : (w2).cell? ⟨W.heap.size, 2, none⟩ = some (.slice A2 s.f2.length c2) := (blk_cell HY2.out 2).trans rfl
  have q3 : (w2).cell? ⟨W.heap.size, 3, none⟩ = some (.slice A3 s.f3.length c3) := (blk_cell HY2.out 3).trans rfl
  have q4 : (w2).cell? ⟨W.heap.size, 4, none⟩ = some (.slice A4 s.f4.length c4) := (blk_cell HY2.out 4).trans rfl
  have q5 : (w2).cell? ⟨W.heap.size, 5, none⟩ = some (.slice A5 s.f5.length c5) := (blk_cell HY2.out 5).trans rfl
  have q6 : (w2).cell? ⟨W.heap.size, 6, none⟩ = some (.slice A6 s.f6.length c6) := (blk_cell HY2.out 6).trans rfl
  have q7 : (w2).cell? ⟨W.heap.size, 7, none⟩ = some (.slice A7 s.f7.length c7) := (blk_cell HY2.out 7).trans rfl
  have q8 : (w2).cell? ⟨W.heap.size, 8, none⟩ = some (.slice A8 s.f8.length c8) := (blk_cell HY2.out 8).trans rfl
  have q9 : (w2).cell? ⟨W.heap.size, 9, none⟩ = some (.int .i64 s.f9) := (blk_cell HY2.out 9).trans rfl
  have HTK := fun w => Lib.hid (tick_any s.f0 w)
  by_cases hr0 : r = 0
  · have HR2 := Lib.hid (HR.out hr0)
    subst hr0
    go_wp2_with fail
    refine (HTK _).out.mono ?_
    rintro e w3 ⟨b, rfl, rfl⟩
    cases b
    · go_wp2_with fail
      go_ret
      exact RBq.no HB2.out
    · go_wp2_with fail
      all_goals first
        | (go_ret; exact RBq.no HB2.out)
        | skip
      refine (lists_any s _ _ _ _ _ _ _ _ _ _ _ _ _ _ _ HS2.out HZ.out).mono ?_
      rintro e w4 ⟨b, rfl, hm, hb⟩
      have HM := Lib.hid hm
      have HB4 := Lib.hid (below_tr HB2.out hb)
      have HY4 := Lib.hid ((hb.block W.heap.size (blk_lt HY2.out)).trans HY2.out)
      have HS4 := Lib.hid (HS2.out.below hb)
      clear hm hb q0 q1 q2 q3 q4 q5 q6 q7 q8 q9
      have q0 : (w4).cell? ⟨W.heap.size, 0, none⟩ = some (.int .i64 s.f0) := (blk_cell HY4.out 0).trans rfl
      have q1 : (w4).cell? ⟨W.heap.size, 1, none⟩ = some (.int .u64 s.f1) := (blk_cell HY4.out 1).trans rfl
      have q2 : (w4).cell? ⟨W.heap.size, 2, none⟩ = some (.slice A2 s.f2.length c2) := (blk_cell HY4.out 2).trans rfl
      have q3 : (w4).cell? ⟨W.heap.size, 3, none⟩ = some (.slice A3 s.f3.length c3) := (blk_cell HY4.out 3).trans rfl
      have q4 : (w4).cell? ⟨W.heap.size, 4, none⟩ = some (.slice A4 s.f4.length c4) := (blk_cell HY4.out 4).trans rfl
      have q5 : (w4).cell? ⟨W.heap.size, 5, none⟩ = some (.slice A5 s.f5.length c5) := (blk_cell HY4.out 5).trans rfl
      have q6 : (w4).cell? ⟨W.heap.size, 6, none⟩ = some (.slice A6 s.f6.length c6) := (blk_cell HY4.out 6).trans rfl
      have q7 : (w4).cell? ⟨W.heap.size, 7, none⟩ = some (.slice A7 s.f7.length c7) := (blk_cell HY4.out 7).trans rfl
      have q8 : (w4).cell? ⟨W.heap.size, 8, none⟩ = some (.slice A8 s.f8.length c8) := (blk_cell HY4.out 8).trans rfl
      have q9 : (w4).cell? ⟨W.heap.size, 9, none⟩ = some (.int .i64 s.f9) := (blk_cell HY4.out 9).trans rfl
      cases b
      · go_wp2_with fail
        go_ret
        exact RBq.no HB4.out
      · go_wp2_with fail
        refine (rest_any s _ _ _ _ _ _ _ _ _ _ _ _ _ _ _ HS4.out HZ.out).mono ?_
        rintro e w5 ⟨b, rfl, hm, hb⟩
        have HM5 := Lib.hid hm
        have HB5 := Lib.hid (below_tr HB4.out hb)
        clear hm hb q0 q1 q2 q3 q4 q5 q6 q7 q8 q9
        go_wp2_with fail
        go_ret
        exact ⟨b, rfl, fun h => ⟨HR2.out, HM.out (by simp), HM5.out h⟩, HB5.out⟩
  · have hr1 : (r == 0) = false := by simp [hr0]
    clear hr0
    go_wp2_with fail
    refine (HTK _).out.mono ?_
    rintro e w3 ⟨b, rfl, rfl⟩
    go_wp2_with fail
    all_goals (go_ret; exact RBq.no HB2.out)
end Go.Proofs.YtafigkikblpbnaaGreatDoor.PG
namespace Go.Proofs.YtafigkikblpbnaaGreatDoor.PG
open Go.RowKit Go.Proofs.YtafigkikblpbnaaGreatDoorW.PrintWords Go.Proofs.YtafigkikblpbnaaGreatDoorW.PrintLast Go.Proofs.YtafigkikblpbnaaGreatDoorW.PrintMore
set_option linter.unusedVariables false
set_option linter.unusedSimpArgs false
set_option maxRecDepth 100000
/-- What a scope matches, so deep. -/
def mt : Nat → S76 → S48 → Bool
  | 0, _, _ => false
  | d + 1, x, r => if x.f0 = 1 then true else if x.f0 = 2 then (r.f1.toList == x.f1.toList) else if x.f0 = 3 then (r.f2.toList == x.f1.toList) else if x.f0 = 4 then (r.f3.toList == x.f1.toList)
      else if x.f0 = 5 then (decide (r.f4 ≥ x.f2) && decide (r.f4 ≤ x.f3)) else if x.f0 = 7 then x.f4.any (fun y => mt d y r) else if x.f0 = 6 then !(x.f4.any (fun y => !mt d y r))
      else if x.f0 = 8 then (if x.f4.length = 0 then true else !mt d (rd_T76 x.f4 0) r) else false
/-- A scope is at most so deep. -/
def dp : Nat → S76 → Prop
  | 0, _ => False
  | d + 1, x => ∀ y ∈ x.f4, dp d y
end Go.Proofs.YtafigkikblpbnaaGreatDoor.PG
