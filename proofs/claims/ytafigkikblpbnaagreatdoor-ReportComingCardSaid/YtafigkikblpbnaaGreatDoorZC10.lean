/- Scopes that may be. A scope that may be; no condition beyond each theorem its own. -/
import Derived.Test.YtafigkikblpbnaaGreatDoorZC04
import Derived.Handy
namespace Go.Proofs.YtafigkikblpbnaaGreatDoor.PG
open Go.RowKit Go.Proofs.YtafigkikblpbnaaGreatDoorW.PrintWords Go.Proofs.YtafigkikblpbnaaGreatDoorW.PrintLast Go.Proofs.YtafigkikblpbnaaGreatDoorW.PrintMore
set_option linter.unusedVariables false
set_option linter.unusedSimpArgs false
set_option maxRecDepth 100000

set_option maxHeartbeats 8000000 in
theorem left20 : ∀ (d : Nat) (x : S76) (A : Option Addr) (c : Nat) (m : Int) (W : World), d ≤ 100 → -1 ≤ m → m ≤ 24 → Z52 x → Kd.C k76 W A x.f4.length x.f4 → x.f4.length ≤ c →
    Calls Tryz.prog 106 #[.agg #[.int .i64 x.f0, .string x.f1, .int .i64 x.f2, .int .i64 x.f3, .slice A x.f4.length c], .int .i64 m, .int .i64 d] W (RN 24 W) := by
  intro d
  induction d with
  | zero =>
    intro x A c m W hd hm1 hm2 hZ hC hl
    go_enter Tryz.func106, Tryz.ntmps106
    go_wp2
    all_goals
      go_ret
      exact RN.mk (by omega) (by omega) (below_alloc (Below.refl _ _) _)
  | succ d ih =>
    intro x A c m W hd hm1 hm2 hZ hC hl
    obtain ⟨o, nm, fr, tt, ks⟩ := x
    simp only at hC hl ⊢
    have HIH := Lib.hid ih
    clear ih
    have HZ := Lib.hid hZ
    have hm : ks.length ≤ 9223372036854775807 := hC.2.1
    have hds : ((d + 1 : Nat) : Int) - 1 = (d : Int) := by omega
    have hd1 : ¬ ((d + 1 : Nat) : Int) < 1 := by omega
    have HN := fun w => Lib.hid (Name_eq nm HZ.out.h1 w)
    clear hZ
    by_cases hm0 : m < 1
    · go_enter Tryz.func106, Tryz.ntmps106
      go_wp2
      go_ret
      exact RN.mk (by omega) (by omega) (below_alloc (Below.refl _ _) _)
    by_cases ho1 : o < 1
    · go_enter Tryz.func106, Tryz.ntmps106
      go_wp2
      go_ret
      exact RN.mk (by omega) (by omega) (below_alloc (Below.refl _ _) _)
    by_cases ho8 : 8 < o
    · go_enter Tryz.func106, Tryz.ntmps106
      go_wp2
      go_ret
      exact RN.mk (by omega) (by omega) (below_alloc (Below.refl _ _) _)
    by_cases hop : o = 6 ∨ o = 7 ∨ o = 8
    · by_cases he : nm.toList.isEmpty = true
      · by_cases hft : fr = 0 ∧ tt = 0
        · obtain ⟨rfl, rfl⟩ := hft
          rcases hop with rfl | rfl | rfl
          · have HB := Lib.hid (show Below W.heap.size W (W.alloc (.cells #[.int .i64 6, .string nm, .int .i64 0, .int .i64 0, .slice A ks.length c] 76 (0, 0))) from below_alloc (Below.refl _ _) _)
            have HY := Lib.hid (new_blk W (.cells #[.int .i64 6, .string nm, .int .i64 0, .int .i64 0, .slice A ks.length c] 76 (0, 0)))
            have HC := Lib.hid (Kd.C_below hC HB.out)
            clear hC
            go_enter Tryz.func106, Tryz.ntmps106
            go_wp2_with fail
            go_quiet (first | (go_at_call 134; refine Calls.quiet_of_same (named_eq _ _)) | (go_at_call 68; refine Calls.quiet_of_same (HN _).out))
            go_wp2_with (go_at_call 62; refine (many_eq _ _).mono ?_; rintro e w2 ⟨rfl, rfl⟩)
            all_goals first
              | (go_ret; exact RN.mk (by omega) (by omega) (below_tr HB.out (pw_below_drewN (Below.refl _ _) _)))
              | skip
            have HB0 := Lib.hid (pw_below_drewN HB.out nq)
            have HY0 := Lib.hid (show ((W.alloc (.cells #[.int .i64 6, .string nm, .int .i64 0, .int .i64 0, .slice A ks.length c] 76 (0, 0))).drewN nq).heap[W.heap.size]? = some (.cells #[.int .i64 6, .string nm, .int .i64 0, .int .i64 0, .slice A ks.length c] 76 (0, 0)) from HY.out)
            have HC0 := Lib.hid (Kd.C_below HC.out (pw_below_drewN (Below.refl _ _) nq))
            generalize (W.alloc (.cells #[.int .i64 6, .string nm, .int .i64 0, .int .i64 0, .slice A ks.length c] 76 (0, 0))).drewN nq = W1 at *
            clear HB HY HC
            go_loopw [1, 7] (fun v1 v7 wr => ∃ (k : Nat) (q : Int), v7 = .int .i64 k ∧ k ≤ ks.length ∧ v1 = .int .i64 q ∧ -1 ≤ q ∧ q ≤ 24 ∧ Aside0 (Below W1.heap.size W1 wr)) (fun v1 v7 _ => ks.length - (intOf v7).toNat)
            case atStart => exact ⟨0, m - 1, rfl, Nat.zero_le _, by go_num, by omega, by omega, ⟨Below.refl _ _⟩⟩
            case round =>
              obtain ⟨k, q, rfl, hk, rfl, hq1, hq2, HBW⟩ := hrel
              have HY2 := Lib.hid ((HBW.out.block W.heap.size (blk_lt HY0.out)).trans HY0.out)
              have q0 : wr.cell? ⟨W.heap.size, 0, none⟩ = some (.int .i64 6) := (blk_cell HY2.out 0).trans rfl
              have q1 : wr.cell? ⟨W.heap.size, 1, none⟩ = some (.string nm) := (blk_cell HY2.out 1).trans rfl
              have q2 : wr.cell? ⟨W.heap.size, 2, none⟩ = some (.int .i64 0) := (blk_cell HY2.out 2).trans rfl
              have q3 : wr.cell? ⟨W.heap.size, 3, none⟩ = some (.int .i64 0) := (blk_cell HY2.out 3).trans rfl
              have q4 : wr.cell? ⟨W.heap.size, 4, none⟩ = some (.slice A ks.length c) := (blk_cell HY2.out 4).trans rfl
              have HC2 := Lib.hid (Kd.C_below HC0.out HBW.out)
              by_cases hlt : k < ks.length
              · have hlt2 : (k : Int) < (ks.length : Int) := by omega
                by_cases hq0 : 0 ≤ q
                · obtain ⟨ad, A4, c4, e, h0, h1, h2, h3, h4, hl4, hC4⟩ := at_T76 HC2.out (k : Int) (by omega) (by omega)
                  subst e
                  simp only [Int.toNat_natCast] at h0 h1 h2 h3 h4
                  have hz := HZ.out.h2 _ (rd_mem52 hlt)
                  generalize rd_T76 ks (k : Int) = y at *
                  have HCALL := Lib.hid (HIH.out y A4 c4 q wr (by omega) hq1 hq2 hz hC4 hl4)
                  clear hC4 hl4 hz
                  go_wp2_with fail
                  refine HCALL.out.mono ?_
                  rintro e w2 ⟨r, rfl, hr1, hr2, hb⟩
                  have HB2 := Lib.hid (below_tr HBW.out hb)
                  clear hb h0 h1 h2 h3 h4
                  go_wp2
                  go_roundw
                  case rel => exact ⟨k + 1, r, by go_num, by omega, rfl, hr1, hr2, ⟨HB2.out⟩⟩
                  case measure => simp [intOf]; omega
                · go_wp2
                  go_ret
                  exact RN.mk hq1 hq2 (below_tr HB0.out HBW.out)
              · go_wp2
                go_ret
                exact RN.mk hq1 hq2 (below_tr HB0.out HBW.out)

          · have HB := Lib.hid (show Below W.heap.size W (W.alloc (.cells #[.int .i64 7, .string nm, .int .i64 0, .int .i64 0, .slice A ks.length c] 76 (0, 0))) from below_alloc (Below.refl _ _) _)
            have HY := Lib.hid (new_blk W (.cells #[.int .i64 7, .string nm, .int .i64 0, .int .i64 0, .slice A ks.length c] 76 (0, 0)))
            have HC := Lib.hid (Kd.C_below hC HB.out)
            clear hC
            go_enter Tryz.func106, Tryz.ntmps106
            go_wp2_with fail
            go_quiet (first | (go_at_call 134; refine Calls.quiet_of_same (named_eq _ _)) | (go_at_call 68; refine Calls.quiet_of_same (HN _).out))
            go_wp2_with (go_at_call 62; refine (many_eq _ _).mono ?_; rintro e w2 ⟨rfl, rfl⟩)
            all_goals first
              | (go_ret; exact RN.mk (by omega) (by omega) (below_tr HB.out (pw_below_drewN (Below.refl _ _) _)))
              | skip
            have HB0 := Lib.hid (pw_below_drewN HB.out nq)
            have HY0 := Lib.hid (show ((W.alloc (.cells #[.int .i64 7, .string nm, .int .i64 0, .int .i64 0, .slice A ks.length c] 76 (0, 0))).drewN nq).heap[W.heap.size]? = some (.cells #[.int .i64 7, .string nm, .int .i64 0, .int .i64 0, .slice A ks.length c] 76 (0, 0)) from HY.out)
            have HC0 := Lib.hid (Kd.C_below HC.out (pw_below_drewN (Below.refl _ _) nq))
            generalize (W.alloc (.cells #[.int .i64 7, .string nm, .int .i64 0, .int .i64 0, .slice A ks.length c] 76 (0, 0))).drewN nq = W1 at *
            clear HB HY HC
            go_loopw [1, 7] (fun v1 v7 wr => ∃ (k : Nat) (q : Int), v7 = .int .i64 k ∧ k ≤ ks.length ∧ v1 = .int .i64 q ∧ -1 ≤ q ∧ q ≤ 24 ∧ Aside0 (Below W1.heap.size W1 wr)) (fun v1 v7 _ => ks.length - (intOf v7).toNat)
            case atStart => exact ⟨0, m - 1, rfl, Nat.zero_le _, by go_num, by omega, by omega, ⟨Below.refl _ _⟩⟩
            case round =>
              obtain ⟨k, q, rfl, hk, rfl, hq1, hq2, HBW⟩ := hrel
              have HY2 := Lib.hid ((HBW.out.block W.heap.size (blk_lt HY0.out)).trans HY0.out)
              have q0 : wr.cell? ⟨W.heap.size, 0, none⟩ = some (.int .i64 7) := (blk_cell HY2.out 0).trans rfl
              have q1 : wr.cell? ⟨W.heap.size, 1, none⟩ = some (.string nm) := (blk_cell HY2.out 1).trans rfl
              have q2 : wr.cell? ⟨W.heap.size, 2, none⟩ = some (.int .i64 0) := (blk_cell HY2.out 2).trans rfl
              have q3 : wr.cell? ⟨W.heap.size, 3, none⟩ = some (.int .i64 0) := (blk_cell HY2.out 3).trans rfl
              have q4 : wr.cell? ⟨W.heap.size, 4, none⟩ = some (.slice A ks.length c) := (blk_cell HY2.out 4).trans rfl
              have HC2 := Lib.hid (Kd.C_below HC0.out HBW.out)
              by_cases hlt : k < ks.length
              · have hlt2 : (k : Int) < (ks.length : Int) := by omega
                by_cases hq0 : 0 ≤ q
                · obtain ⟨ad, A4, c4, e, h0, h1, h2, h3, h4, hl4, hC4⟩ := at_T76 HC2.out (k : Int) (by omega) (by omega)
                  subst e
                  simp only [Int.toNat_natCast] at h0 h1 h2 h3 h4
                  have hz := HZ.out.h2 _ (rd_mem52 hlt)
                  generalize rd_T76 ks (k : Int) = y at *
                  have HCALL := Lib.hid (HIH.out y A4 c4 q wr (by omega) hq1 hq2 hz hC4 hl4)
                  clear hC4 hl4 hz
                  go_wp2_with fail
                  refine HCALL.out.mono ?_
                  rintro e w2 ⟨r, rfl, hr1, hr2, hb⟩
                  have HB2 := Lib.hid (below_tr HBW.out hb)
                  clear hb h0 h1 h2 h3 h4
                  go_wp2
                  go_roundw
                  case rel => exact ⟨k + 1, r, by go_num, by omega, rfl, hr1, hr2, ⟨HB2.out⟩⟩
                  case measure => simp [intOf]; omega
                · go_wp2
                  go_ret
                  exact RN.mk hq1 hq2 (below_tr HB0.out HBW.out)
              · go_wp2
                go_ret
                exact RN.mk hq1 hq2 (below_tr HB0.out HBW.out)

          · have HB := Lib.hid (show Below W.heap.size W (W.alloc (.cells #[.int .i64 8, .string nm, .int .i64 0, .int .i64 0, .slice A ks.length c] 76 (0, 0))) from below_alloc (Below.refl _ _) _)
            have HY := Lib.hid (new_blk W (.cells #[.int .i64 8, .string nm, .int .i64 0, .int .i64 0, .slice A ks.length c] 76 (0, 0)))
            have HC := Lib.hid (Kd.C_below hC HB.out)
            clear hC
            go_enter Tryz.func106, Tryz.ntmps106
            go_wp2_with fail
            go_quiet (first | (go_at_call 134; refine Calls.quiet_of_same (named_eq _ _)) | (go_at_call 68; refine Calls.quiet_of_same (HN _).out))
            go_wp2_with (go_at_call 62; refine (many_eq _ _).mono ?_; rintro e w2 ⟨rfl, rfl⟩)
            all_goals first
              | (go_ret; exact RN.mk (by omega) (by omega) (below_tr HB.out (pw_below_drewN (Below.refl _ _) _)))
              | skip
            have HB0 := Lib.hid (pw_below_drewN HB.out nq)
            have HY0 := Lib.hid (show ((W.alloc (.cells #[.int .i64 8, .string nm, .int .i64 0, .int .i64 0, .slice A ks.length c] 76 (0, 0))).drewN nq).heap[W.heap.size]? = some (.cells #[.int .i64 8, .string nm, .int .i64 0, .int .i64 0, .slice A ks.length c] 76 (0, 0)) from HY.out)
            have HC0 := Lib.hid (Kd.C_below HC.out (pw_below_drewN (Below.refl _ _) nq))
            generalize (W.alloc (.cells #[.int .i64 8, .string nm, .int .i64 0, .int .i64 0, .slice A ks.length c] 76 (0, 0))).drewN nq = W1 at *
            clear HB HY HC
            go_loopw [1, 7] (fun v1 v7 wr => ∃ (k : Nat) (q : Int), v7 = .int .i64 k ∧ k ≤ ks.length ∧ v1 = .int .i64 q ∧ -1 ≤ q ∧ q ≤ 24 ∧ Aside0 (Below W1.heap.size W1 wr)) (fun v1 v7 _ => ks.length - (intOf v7).toNat)
            case atStart => exact ⟨0, m - 1, rfl, Nat.zero_le _, by go_num, by omega, by omega, ⟨Below.refl _ _⟩⟩
            case round =>
              obtain ⟨k, q, rfl, hk, rfl, hq1, hq2, HBW⟩ := hrel
              have HY2 := Lib.hid ((HBW.out.block W.heap.size (blk_lt HY0.out)).trans HY0.out)
              have q0 : wr.cell? ⟨W.heap.size, 0, none⟩ = some (.int .i64 8) := (blk_cell HY2.out 0).trans rfl
              have q1 : wr.cell? ⟨W.heap.size, 1, none⟩ = some (.string nm) := (blk_cell HY2.out 1).trans rfl
              have q2 : wr.cell? ⟨W.heap.size, 2, none⟩ = some (.int .i64 0) := (blk_cell HY2.out 2).trans rfl
              have q3 : wr.cell? ⟨W.heap.size, 3, none⟩ = some (.int .i64 0) := (blk_cell HY2.out 3).trans rfl
              have q4 : wr.cell? ⟨W.heap.size, 4, none⟩ = some (.slice A ks.length c) := (blk_cell HY2.out 4).trans rfl
              have HC2 := Lib.hid (Kd.C_below HC0.out HBW.out)
              by_cases hlt : k < ks.length
              · have hlt2 : (k : Int) < (ks.length : Int) := by omega
                by_cases hq0 : 0 ≤ q
                · obtain ⟨ad, A4, c4, e, h0, h1, h2, h3, h4, hl4, hC4⟩ := at_T76 HC2.out (k : Int) (by omega) (by omega)
                  subst e
                  simp only [Int.toNat_natCast] at h0 h1 h2 h3 h4
                  have hz := HZ.out.h2 _ (rd_mem52 hlt)
                  generalize rd_T76 ks (k : Int) = y at *
                  have HCALL := Lib.hid (HIH.out y A4 c4 q wr (by omega) hq1 hq2 hz hC4 hl4)
                  clear hC4 hl4 hz
                  go_wp2_with fail
                  refine HCALL.out.mono ?_
                  rintro e w2 ⟨r, rfl, hr1, hr2, hb⟩
                  have HB2 := Lib.hid (below_tr HBW.out hb)
                  clear hb h0 h1 h2 h3 h4
                  go_wp2
                  go_roundw
                  case rel => exact ⟨k + 1, r, by go_num, by omega, rfl, hr1, hr2, ⟨HB2.out⟩⟩
                  case measure => simp [intOf]; omega
                · go_wp2
                  go_ret
                  exact RN.mk hq1 hq2 (below_tr HB0.out HBW.out)
              · go_wp2
                go_ret
                exact RN.mk hq1 hq2 (below_tr HB0.out HBW.out)

        · have hnn : ¬ (o = 2 ∨ o = 3 ∨ o = 4) := by omega
          have hnb : decide (o = 2 ∨ o = 3 ∨ o = 4) = false := decide_eq_false hnn
          have HF := Lib.hid hft
          clear hft
          go_enter Tryz.func106, Tryz.ntmps106
          go_wp2_with fail
          go_quiet (first | (go_at_call 134; refine Calls.quiet_of_same (named_eq _ _)) | (go_at_call 68; refine Calls.quiet_of_same (HN _).out))
          go_wp2_with (go_at_call 62; refine (many_eq _ _).mono ?_; rintro e w2 ⟨rfl, rfl⟩)
          all_goals first
            | (go_ret; exact RN.mk (by omega) (by omega) (below_tr (below_alloc (Below.refl _ _) _) (pw_below_drewN (Below.refl _ _) _)))
            | (exfalso; (try simp only [bne_iff_ne, ne_eq, beq_iff_eq, bne_eq_false_iff_eq] at *); have h := HF.out; omega)
      · have he' : nm.toList.isEmpty = false := by simpa using he
        have hnn : ¬ (o = 2 ∨ o = 3 ∨ o = 4) := by omega
        have hnb : decide (o = 2 ∨ o = 3 ∨ o = 4) = false := decide_eq_false hnn
        clear he
        go_enter Tryz.func106, Tryz.ntmps106
        go_wp2_with fail
        go_quiet (first | (go_at_call 134; refine Calls.quiet_of_same (named_eq _ _)) | (go_at_call 68; refine Calls.quiet_of_same (HN _).out))
        go_wp2_with (go_at_call 62; refine (many_eq _ _).mono ?_; rintro e w2 ⟨rfl, rfl⟩)
        all_goals first
          | (go_ret; exact RN.mk (by omega) (by omega) (below_tr (below_alloc (Below.refl _ _) _) (pw_below_drewN (Below.refl _ _) _)))
    · by_cases hnn : o = 2 ∨ o = 3 ∨ o = 4
      · have hnb : decide (o = 2 ∨ o = 3 ∨ o = 4) = true := decide_eq_true hnn
        have hmb : decide (o = 6 ∨ o = 7) = false := decide_eq_false (by omega)
        have ho8' : (o == 8) = false := by simp; omega
        by_cases he : nm.toList.isEmpty = true
        · go_enter Tryz.func106, Tryz.ntmps106
          go_wp2_with fail
          go_quiet (first | (go_at_call 134; refine Calls.quiet_of_same (named_eq _ _)) | (go_at_call 68; refine Calls.quiet_of_same (HN _).out))
          go_wp2_with (go_at_call 62; refine (many_eq _ _).mono ?_; rintro e w2 ⟨rfl, rfl⟩)
          all_goals first
            | (go_ret; exact RN.mk (by omega) (by omega) (below_tr (below_alloc (Below.refl _ _) _) (pw_below_drewN (Below.refl _ _) _)))
        · have he' : nm.toList.isEmpty = false := by simpa using he
          clear he
          cases hnk : nmOk nm
          · go_enter Tryz.func106, Tryz.ntmps106
            rw [hnk] at HN
            go_wp2_with fail
            go_quiet (first | (go_at_call 134; refine Calls.quiet_of_same (named_eq _ _)) | (go_at_call 68; refine Calls.quiet_of_same (HN _).out))
            go_wp2_with (go_at_call 62; refine (many_eq _ _).mono ?_; rintro e w2 ⟨rfl, rfl⟩)
            all_goals first
              | (go_ret; exact RN.mk (by omega) (by omega) (below_tr (below_alloc (Below.refl _ _) _) (pw_below_drewN (Below.refl _ _) _)))
          · rw [hnk] at HN
            by_cases hk0 : ks.length = 0
            · have hk0' : (ks.length : Int) = 0 := by omega
              go_enter Tryz.func106, Tryz.ntmps106
              go_wp2_with fail
              go_quiet (first | (go_at_call 134; refine Calls.quiet_of_same (named_eq _ _)) | (go_at_call 68; refine Calls.quiet_of_same (HN _).out))
              go_wp2_with (go_at_call 62; refine (many_eq _ _).mono ?_; rintro e w2 ⟨rfl, rfl⟩)
              all_goals first
                | (go_ret; exact RN.mk (by omega) (by omega) (below_tr (below_alloc (Below.refl _ _) _) (pw_below_drewN (Below.refl _ _) _)))
                | (go_rounds 1; all_goals (go_ret; exact RN.mk (by omega) (by omega) (below_tr (below_alloc (Below.refl _ _) _) (pw_below_drewN (Below.refl _ _) _))))
                | trace_state
            · have hk1 : (0 : Int) < (ks.length : Int) := by omega
              go_enter Tryz.func106, Tryz.ntmps106
              go_wp2_with fail
              go_quiet (first | (go_at_call 134; refine Calls.quiet_of_same (named_eq _ _)) | (go_at_call 68; refine Calls.quiet_of_same (HN _).out))
              go_wp2_with (go_at_call 62; refine (many_eq _ _).mono ?_; rintro e w2 ⟨rfl, rfl⟩)
              all_goals first
                | (go_ret; exact RN.mk (by omega) (by omega) (below_tr (below_alloc (Below.refl _ _) _) (pw_below_drewN (Below.refl _ _) _)))
                | trace_state
      · have hnb : decide (o = 2 ∨ o = 3 ∨ o = 4) = false := decide_eq_false hnn
        have hmb : decide (o = 6 ∨ o = 7) = false := decide_eq_false (by omega)
        have ho8' : (o == 8) = false := by simp; omega
        by_cases he : nm.toList.isEmpty = true
        · by_cases hk0 : ks.length = 0
          · have hk0' : (ks.length : Int) = 0 := by omega
            go_enter Tryz.func106, Tryz.ntmps106
            go_wp2_with fail
            go_quiet (first | (go_at_call 134; refine Calls.quiet_of_same (named_eq _ _)) | (go_at_call 68; refine Calls.quiet_of_same (HN _).out))
            go_wp2_with (go_at_call 62; refine (many_eq _ _).mono ?_; rintro e w2 ⟨rfl, rfl⟩)
            all_goals first
              | (go_ret; exact RN.mk (by omega) (by omega) (below_tr (below_alloc (Below.refl _ _) _) (pw_below_drewN (Below.refl _ _) _)))
              | (go_rounds 1; all_goals (go_ret; exact RN.mk (by omega) (by omega) (below_tr (below_alloc (Below.refl _ _) _) (pw_below_drewN (Below.refl _ _) _))))
              | trace_state
          · have hk1 : (0 : Int) < (ks.length : Int) := by omega
            go_enter Tryz.func106, Tryz.ntmps106
            go_wp2_with fail
            go_quiet (first | (go_at_call 134; refine Calls.quiet_of_same (named_eq _ _)) | (go_at_call 68; refine Calls.quiet_of_same (HN _).out))
            go_wp2_with (go_at_call 62; refine (many_eq _ _).mono ?_; rintro e w2 ⟨rfl, rfl⟩)
            all_goals first
              | (go_ret; exact RN.mk (by omega) (by omega) (below_tr (below_alloc (Below.refl _ _) _) (pw_below_drewN (Below.refl _ _) _)))
              | trace_state
        · have he' : nm.toList.isEmpty = false := by simpa using he
          clear he
          go_enter Tryz.func106, Tryz.ntmps106
          go_wp2_with fail
          go_quiet (first | (go_at_call 134; refine Calls.quiet_of_same (named_eq _ _)) | (go_at_call 68; refine Calls.quiet_of_same (HN _).out))
          go_wp2_with (go_at_call 62; refine (many_eq _ _).mono ?_; rintro e w2 ⟨rfl, rfl⟩)
          all_goals first
            | (go_ret; exact RN.mk (by omega) (by omega) (below_tr (below_alloc (Below.refl _ _) _) (pw_below_drewN (Below.refl _ _) _)))
end Go.Proofs.YtafigkikblpbnaaGreatDoor.PG
namespace Go.Proofs.YtafigkikblpbnaaGreatDoor.PG
open Go.RowKit Go.Proofs.YtafigkikblpbnaaGreatDoorW.PrintWords Go.Proofs.YtafigkikblpbnaaGreatDoorW.PrintLast Go.Proofs.YtafigkikblpbnaaGreatDoorW.PrintMore
set_option linter.unusedVariables false
set_option linter.unusedSimpArgs false
set_option maxRecDepth 100000

theorem May20_any (x : S76) (A : Option Addr) (c : Nat) (W : World) (hz : Z52 x) (hC : Kd.C k76 W A x.f4.length x.f4) (hl : x.f4.length ≤ c) : Calls Tryz.prog 74 #[.agg #[.int .i64 x.f0, .string x.f1, .int .i64 x.f2, .int .i64 x.f3, .slice A x.f4.length c]] W (RBb W) := by
  have HB := Lib.hid (show Below W.heap.size W (W.alloc (.cells #[.int .i64 x.f0, .string x.f1, .int .i64 x.f2, .int .i64 x.f3, .slice A x.f4.length c] 76 (0, 0))) from below_alloc (Below.refl _ _) _)
  have HCALL := Lib.hid (left20 8 x A c 24 (W.alloc (.cells #[.int .i64 x.f0, .string x.f1, .int .i64 x.f2, .int .i64 x.f3, .slice A x.f4.length c] 76 (0, 0))) (by omega) (by omega) (by omega) hz (Kd.C_below hC HB.out) hl)
  go_enter Tryz.func74, Tryz.ntmps74
  go_wp2_with fail
  refine HCALL.out.mono ?_
  rintro e w2 ⟨r, rfl, hr1, hr2, hb⟩
  have HB2 := Lib.hid (below_tr HB.out hb)
  clear hb
  go_wp2
  all_goals (go_ret; exact RBb.mk HB2.out)
end Go.Proofs.YtafigkikblpbnaaGreatDoor.PG
