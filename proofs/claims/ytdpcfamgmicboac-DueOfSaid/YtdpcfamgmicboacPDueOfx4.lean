/- Contracts of functions of the given program over this translation, written by a program of this session after the print of the kit; no condition beyond each theorem its own. -/
import Derived.Test.YtdpcfamgmicboacPDueOfx0
import Derived.Test.YtdpcfamgmicboacDueExtOf
import Derived.Test.YtdpcfamgmicboacDueFind
namespace Go.Proofs.Ytdpcfamgmicboac.PDueOf
open Go.RowKit Go.Proofs.YtdpcfamgmicboacW.PrintWords Go.Proofs.YtdpcfamgmicboacW.PrintLast Go.Proofs.YtdpcfamgmicboacW.PrintMore
attribute [local go_sem] max2_int min2_int max_two min_two max_three min_three max_four min_four   -- for this text's walks alone
set_option linter.unusedVariables false
set_option linter.unusedSimpArgs false

/-! ### hanaperref17_Find: function 29 -/
mutual
def hanaperref17_Find.l0 : Nat → List (S49) → ByteArray → Int → Option (ByteArray × Int × Int × ByteArray × (List (S24)) × Int × Bool)
  | 0, _, _, _ => none
  | k + 1, x0, x1, x6 => if x6 < (x0.length : Int) then (if 0 ≤ x6 then (if ((rd_T49 x0 x6).f0).toList = x1.toList then (some ((rd_T49 x0 x6).f0, (rd_T49 x0 x6).f1.f0, (rd_T49 x0 x6).f1.f1, (rd_T49 x0 x6).f1.f2, (rd_T49 x0 x6).f1.f3, (rd_T49 x0 x6).f2, true)) else (hanaperref17_Find.l0 k x0 x1 (wrap64 (x6 + 1)))) else (none)) else (hanaperref17_Find.l1 k x0 0)
def hanaperref17_Find.l1 : Nat → List (S49) → Int → Option (ByteArray × Int × Int × ByteArray × (List (S24)) × Int × Bool)
  | 0, _, _ => none
  | k + 1, x0, x7 => if x7 < (x0.length : Int) then (if 0 ≤ x7 then (if ((rd_T49 x0 x7).f0).toList = ([] : List UInt8) then (some ((rd_T49 x0 x7).f0, (rd_T49 x0 x7).f1.f0, (rd_T49 x0 x7).f1.f1, (rd_T49 x0 x7).f1.f2, (rd_T49 x0 x7).f1.f3, (rd_T49 x0 x7).f2, true)) else (hanaperref17_Find.l1 k x0 (wrap64 (x7 + 1)))) else (none)) else (some ((⟨#[]⟩ : ByteArray), 0, 0, (⟨#[]⟩ : ByteArray), ([] : List (S24)), 0, false))
end
def hanaperref17_Find.f (k : Nat) (l0 : List (S49)) (a1 : ByteArray) : Option (ByteArray × Int × Int × ByteArray × (List (S24)) × Int × Bool) := hanaperref17_Find.l0 k l0 a1 0
theorem hanaperref17_Find.mono_l : ∀ k, (∀ y0 y1 y2, LeO (hanaperref17_Find.l0 k y0 y1 y2) (hanaperref17_Find.l0 (k + 1) y0 y1 y2)) ∧ (∀ y0 y1, LeO (hanaperref17_Find.l1 k y0 y1) (hanaperref17_Find.l1 (k + 1) y0 y1))
  | 0 => ⟨fun _ _ _ r h => by simp [hanaperref17_Find.l0] at h, fun _ _ r h => by simp [hanaperref17_Find.l1] at h⟩
  | k + 1 => by
    obtain ⟨ih0, ih1⟩ := hanaperref17_Find.mono_l k
    refine ⟨?_, ?_⟩
    · intro y0 y1 y2
      unfold hanaperref17_Find.l0
      repeat' first
      | (with_reducible exact ih0 _ _ _)
      | (with_reducible exact ih1 _ _)
      | (with_reducible exact LeO.refl _)
      | (with_reducible exact LeO.none _)
      | (with_reducible refine LeO.ite ?_ ?_)
      | (with_reducible refine LeO.bind ?_ (fun _ => ?_))
      | exact ih0 _ _ _
      | exact ih1 _ _
      | exact LeO.none _
      | refine LeO.ite ?_ ?_
      | refine LeO.bind ?_ (fun _ => ?_)
    · intro y0 y1
      unfold hanaperref17_Find.l1
      repeat' first
      | (with_reducible exact ih0 _ _ _)
      | (with_reducible exact ih1 _ _)
      | (with_reducible exact LeO.refl _)
      | (with_reducible exact LeO.none _)
      | (with_reducible refine LeO.ite ?_ ?_)
      | (with_reducible refine LeO.bind ?_ (fun _ => ?_))
      | exact ih0 _ _ _
      | exact ih1 _ _
      | exact LeO.none _
      | refine LeO.ite ?_ ?_
      | refine LeO.bind ?_ (fun _ => ?_)
theorem hanaperref17_Find.mono : ∀ a0 a1 k, LeO (hanaperref17_Find.f k a0 a1) (hanaperref17_Find.f (k + 1) a0 a1) := by
  intro a0 a1 k
  obtain ⟨ih0, ih1⟩ := hanaperref17_Find.mono_l k
  unfold hanaperref17_Find.f
  repeat' first
      | (with_reducible exact ih0 _ _ _)
      | (with_reducible exact ih1 _ _)
      | (with_reducible exact LeO.refl _)
      | (with_reducible exact LeO.none _)
      | (with_reducible refine LeO.ite ?_ ?_)
      | (with_reducible refine LeO.bind ?_ (fun _ => ?_))
      | exact ih0 _ _ _
      | exact ih1 _ _
      | exact LeO.none _
      | refine LeO.ite ?_ ?_
      | refine LeO.bind ?_ (fun _ => ?_)
set_option maxHeartbeats 8000000 in
set_option maxRecDepth 100000 in
theorem hanaperref17_Find.calls (k : Nat) (P0_ : Nat → Prop) (A0 : Option Addr) (c0 : Nat) (l0 : List (S49)) (a1 : ByteArray) (r1 : ByteArray) (r2 : Int) (r3 : Int) (r4 : ByteArray) (r5 : List (S24)) (r6 : Int) (r7 : Bool) (w : World) (hs0 : Kd.V k49 49 w w.heap.size (fun k_ => P0_ k_) (.slice A0 l0.length c0) l0) (h : hanaperref17_Find.f k l0 a1 = some (r1, r2, r3, r4, r5, r6, r7)) :
    Calls Try.prog 29 #[.slice A0 l0.length c0, .string a1] w fun e w' => ∃ v4_ : Value, e = .returned (.tuple #[.agg #[.string r1, .int .i64 r2, .int .i64 r3, .string r4, v4_, .int .i64 r6], .bool r7]) ∧ Kd.V k24 24 w' w.heap.size (fun k_ => (P0_ k_ ∨ w.heap.size ≤ k_)) v4_ r5 ∧ Below w.heap.size w w' := by
  have hu49 := Try.underlying49
  have HO0 := Aside0.mk (show Kd.V k49 49 w w.heap.size (fun k_ => (P0_ k_ ∨ w.heap.size ≤ k_)) (.slice A0 l0.length c0) l0 from Kd.V_mono hs0 (fun k_ hk => .inl hk))
  have HB := Aside0.mk (Below.refl w.heap.size w)
  have H : (hanaperref17_Find.l0 k l0 a1 0) = some (r1, r2, r3, r4, r5, r6, r7) := h
  clear h
  have H' := Aside0.mk H
  clear H
  go_enter Try.func29, Try.ntmps29
  go_wp2_with (first | ((with_reducible refine gate_dst (N := 4) rfl ?_); refine box_event ?hg (N := 4) ?hd (cs := #[.string (⟨#[]⟩ : ByteArray), .int .i64 0, .int .i64 0, .string (⟨#[]⟩ : ByteArray), .slice none 0 0, .int .i64 0]) (t := 49) ?hr ?_; (case hd => rfl); (case hg => rfl); (case hr => first | (go_simp; done) | (go_simp; rfl)); intro gb147 hg w3 hbox hb; have n0_ := Aside0.mk (Kd.V_below (Kd.V_elderB (by (with_reducible repeat (first | apply Kd.V_alloc | apply Kd.V_drewN | apply Kd.V_drew)); exact HO0.out) gb147 (Nat.le_of_eq hg.symm)) hb); have n1_ := Aside0.mk (below_step (by repeat (first | (with_reducible first | exact HB.out | apply below_alloc | apply pw_below_drewN | apply below_drew1) | exact HB.out)) hb); have n2_ := Aside0.mk (hbox); have n3_ := Aside0.mk ((by rw [hg]; exact (below_size (by repeat (first | (with_reducible first | exact HB.out | apply below_alloc | apply pw_below_drewN | apply below_drew1) | exact HB.out))) : w.heap.size ≤ gb147)); have n4_ := Aside0.mk ((by rw [hg]; exact (below_size (by repeat (first | (with_reducible first | exact HB.out | apply below_alloc | apply pw_below_drewN | apply below_drew1) | exact HB.out))) : w.heap.size ≤ gb147)); clear HO0; clear HB; have HO0 := n0_; have HB := n1_; have BK147 := n2_; have GW147 := n3_; have GE147 := n4_; clear n0_ n1_ n2_ n3_ n4_; clear hb hbox hg))
  go_loopg [6] k (fun kq v6 w' => ∃ (x6_1 : Int) (x148000_1 : ByteArray) (x148001_1 : Int) (x148002_1 : Int) (x148003_1 : ByteArray) (x148005_1 : Int), v6 = .int .i64 x6_1 ∧ Aside0 (hanaperref17_Find.l0 kq l0 a1 x6_1 = some (r1, r2, r3, r4, r5, r6, r7)) ∧ Aside0 (kq ≤ k) ∧ Aside0 (Kd.V k49 49 w' w.heap.size (fun k_ => (P0_ k_ ∨ w.heap.size ≤ k_) ∧ k_ ≠ gb147) (.slice A0 l0.length c0) l0) ∧ Aside0 (w'.heap[gb147]? = some (.cells #[.string x148000_1, .int .i64 x148001_1, .int .i64 x148002_1, .string x148003_1, (.slice none 0 0), .int .i64 x148005_1] 49 (0, 0))) ∧ Aside0 (Below w.heap.size w w'))
  case atStart => exact ⟨(0), ((⟨#[]⟩ : ByteArray)), (0), (0), ((⟨#[]⟩ : ByteArray)), (0), (by first | rfl | (simp; done) | (simp [*]; done)), H', ⟨Nat.le_refl _⟩, ⟨by (with_reducible repeat (first | apply Kd.V_alloc | apply Kd.V_drewN | apply Kd.V_drew)); exact HO0.out⟩, ⟨by (with_reducible repeat (first | refine blk_drewN ?_ _ | refine blk_drew ?_ | refine blk_alloc ?_ _)); exact BK147.out⟩, ⟨by repeat (first | (with_reducible first | exact HB.out | apply below_alloc | apply pw_below_drewN | apply below_drew1 | refine below_set ?_ GE147.out) | exact HB.out)⟩⟩
  case round =>
    clear H'
    try clear c2
    try clear p2
    obtain ⟨x6_1, x148000_1, x148001_1, x148002_1, x148003_1, x148005_1, rfl, HA, HK1, HO_0, BK147, HB⟩ := hrel
    cases gk with
    | zero => exact absurd HA.out (by simp [hanaperref17_Find.l0])
    | succ k1 =>
      have H := HA.out
      clear HA
      simp only [hanaperref17_Find.l0] at H
      by_cases c4 : x6_1 < (l0.length : Int)
      · rw [if_pos c4] at H
        have c4b0 : decide (x6_1 < (l0.length : Int)) = true := decide_eq_true c4
        clear c4
        by_cases c5 : 0 ≤ x6_1
        · rw [if_pos c5] at H
          have c5b0 : decide (0 ≤ x6_1) = true := decide_eq_true c5
          clear c5
          by_cases c6 : ((rd_T49 l0 x6_1).f0).toList = a1.toList
          · rw [if_pos c6] at H
            have c6b0 : (((rd_T49 l0 x6_1).f0).toList == a1.toList) = true := beq_iff_eq.mpr c6
            have c6b1 : (((rd_T49 l0 x6_1).f0).toList != a1.toList) = false := bne_eq_false_iff_eq.mpr c6
            clear c6
            simp only [Option.some.injEq, Prod.mk.injEq] at H
            obtain ⟨rfl, rfl, rfl, rfl, rfl, rfl, rfl⟩ := H
            have p148 : 0 ≤ (x6_1 : Int) := of_decide_eq_true (by first | (with_reducible assumption) | assumption)
            have q148 : x6_1 < (l0.length : Int) := of_decide_eq_true (by first | (with_reducible assumption) | assumption)
            obtain ⟨ad148, A148_4, c148_4, e148, hx148_0, hx148_1, hx148_2, hx148_3, hx148_4, hx148_5, hl148_4, hi148_4⟩ := at_T49 (Kd.V_reads' HO_0.out).2.2 x6_1 p148 q148
            cases e148
            obtain ⟨ce148, hce148, hMe148, hcc148⟩ := Kd.V_get HO_0.out z49 x6_1 p148 (by first | exact q148 | exact of_decide_eq_true (by first | (with_reducible assumption) | assumption) | (have e_ := (Kd.V_reads' HO_0.out).1; omega))
            obtain ⟨ua148_4, uc148_4, rfl, ul148_4, ge148_4⟩ := k49_openF hMe148
            have hv148_4 := hcc148 4 _ rfl
            rw [add_field _ _ 4 (by omega)] at hv148_4
            replace hv148_4 := Option.some.inj (hv148_4.symm.trans hx148_4)
            injection hv148_4 with hva_ hvn_ hvc_
            rw [hva_] at ge148_4
            rw [hvc_] at ul148_4
            have HL148_4 := Aside0.mk (show Kd.V k24 24 _ w.heap.size _ _ ((rd_T49 l0 x6_1).f1.f3) from Kd.V_mk ul148_4 ge148_4)
            clear hva_ hvn_ hvc_ ge148_4 ul148_4
            clear hcc148 hce148
            have HR148_4 := Aside0.mk hi148_4
            have HC148_4 := Aside0.mk hl148_4
            clear hi148_4 hl148_4
            replace p148 := eq_true p148
            replace q148 := eq_true q148
            have p149 : 0 ≤ (x6_1 : Int) := of_decide_eq_true (by first | (with_reducible assumption) | assumption)
            have q149 : x6_1 < (l0.length : Int) := of_decide_eq_true (by first | (with_reducible assumption) | assumption)
            obtain ⟨ad149, A149_4, c149_4, e149, hx149_0, hx149_1, hx149_2, hx149_3, hx149_4, hx149_5, hl149_4, hi149_4⟩ := at_T49 (Kd.V_reads' HO_0.out).2.2 x6_1 p149 q149
            obtain rfl : ad148 = ad149 := (by injection e149)
            obtain ⟨ce149, hce149, hMe149, hcc149⟩ := Kd.V_get HO_0.out z49 x6_1 p149 (by first | exact q149 | exact of_decide_eq_true (by first | (with_reducible assumption) | assumption) | (have e_ := (Kd.V_reads' HO_0.out).1; omega))
            obtain ⟨ua149_4, uc149_4, rfl, ul149_4, ge149_4⟩ := k49_openF hMe149
            have hv149_4 := hcc149 4 _ rfl
            rw [add_field _ _ 4 (by omega)] at hv149_4
            replace hv149_4 := Option.some.inj (hv149_4.symm.trans hx149_4)
            injection hv149_4 with hva_ hvn_ hvc_
            rw [hva_] at ge149_4
            rw [hvc_] at ul149_4
            have HL149_4 := Aside0.mk (show Kd.V k24 24 _ w.heap.size _ _ ((rd_T49 l0 x6_1).f1.f3) from Kd.V_mk ul149_4 ge149_4)
            clear hva_ hvn_ hvc_ ge149_4 ul149_4
            clear hcc149 hce149
            have HR149_4 := Aside0.mk hi149_4
            have HC149_4 := Aside0.mk hl149_4
            clear hi149_4 hl149_4
            replace p149 := eq_true p149
            replace q149 := eq_true q149
            have ea_ := Option.some.inj (hx148_4.symm.trans hx149_4)
            injection ea_ with ea_ en_ ec_
            subst ea_
            subst ec_
            clear en_
            have hcz7_0 : wr.cell? ⟨gb147, 0, none⟩ = some (.string x148000_1) := (blk_cell BK147.out 0).trans rfl
            have hcz7_1 : wr.cell? ⟨gb147, 1, none⟩ = some (.int .i64 x148001_1) := (blk_cell BK147.out 1).trans rfl
            have hcz7_2 : wr.cell? ⟨gb147, 2, none⟩ = some (.int .i64 x148002_1) := (blk_cell BK147.out 2).trans rfl
            have hcz7_3 : wr.cell? ⟨gb147, 3, none⟩ = some (.string x148003_1) := (blk_cell BK147.out 3).trans rfl
            have hcz7_4 : wr.cell? ⟨gb147, 4, none⟩ = some (.slice none 0 0) := (blk_cell BK147.out 4).trans rfl
            have hcz7_5 : wr.cell? ⟨gb147, 5, none⟩ = some (.int .i64 x148005_1) := (blk_cell BK147.out 5).trans rfl
            have hfz7_0 := blk_frozen BK147.out 0
            have hfz7_1 := blk_frozen BK147.out 1
            have hfz7_2 := blk_frozen BK147.out 2
            have hfz7_3 := blk_frozen BK147.out 3
            have hfz7_4 := blk_frozen BK147.out 4
            have hfz7_5 := blk_frozen BK147.out 5
            go_wp2
            refine bodyPost_ret (results_ct rfl _ _ gb147 49 #[.string ((rd_T49 l0 x6_1).f0), .int .i64 ((rd_T49 l0 x6_1).f1.f0), .int .i64 ((rd_T49 l0 x6_1).f1.f1), .string ((rd_T49 l0 x6_1).f1.f2), .slice A148_4 ((rd_T49 l0 x6_1).f1.f3).length c148_4, .int .i64 ((rd_T49 l0 x6_1).f2)] (0, 0) _ rfl (by (with_reducible repeat (first | refine blk_drewN ?_ _ | refine blk_drew ?_ | refine blk_alloc ?_ _)); refine blk_put (cs := #[.string ((rd_T49 l0 x6_1).f0), .int .i64 ((rd_T49 l0 x6_1).f1.f0), .int .i64 ((rd_T49 l0 x6_1).f1.f1), .string ((rd_T49 l0 x6_1).f1.f2), .slice A148_4 ((rd_T49 l0 x6_1).f1.f3).length c148_4, .int .i64 x148005_1]) ?_ 5 _ rfl; (with_reducible repeat (first | refine blk_drewN ?_ _ | refine blk_drew ?_ | refine blk_alloc ?_ _)); refine blk_put (cs := #[.string ((rd_T49 l0 x6_1).f0), .int .i64 ((rd_T49 l0 x6_1).f1.f0), .int .i64 ((rd_T49 l0 x6_1).f1.f1), .string ((rd_T49 l0 x6_1).f1.f2), .slice none 0 0, .int .i64 x148005_1]) ?_ 4 _ rfl; (with_reducible repeat (first | refine blk_drewN ?_ _ | refine blk_drew ?_ | refine blk_alloc ?_ _)); refine blk_put (cs := #[.string ((rd_T49 l0 x6_1).f0), .int .i64 ((rd_T49 l0 x6_1).f1.f0), .int .i64 ((rd_T49 l0 x6_1).f1.f1), .string x148003_1, .slice none 0 0, .int .i64 x148005_1]) ?_ 3 _ rfl; (with_reducible repeat (first | refine blk_drewN ?_ _ | refine blk_drew ?_ | refine blk_alloc ?_ _)); refine blk_put (cs := #[.string ((rd_T49 l0 x6_1).f0), .int .i64 ((rd_T49 l0 x6_1).f1.f0), .int .i64 x148002_1, .string x148003_1, .slice none 0 0, .int .i64 x148005_1]) ?_ 2 _ rfl; (with_reducible repeat (first | refine blk_drewN ?_ _ | refine blk_drew ?_ | refine blk_alloc ?_ _)); refine blk_put (cs := #[.string ((rd_T49 l0 x6_1).f0), .int .i64 x148001_1, .int .i64 x148002_1, .string x148003_1, .slice none 0 0, .int .i64 x148005_1]) ?_ 1 _ rfl; (with_reducible repeat (first | refine blk_drewN ?_ _ | refine blk_drew ?_ | refine blk_alloc ?_ _)); refine blk_put (cs := #[.string x148000_1, .int .i64 x148001_1, .int .i64 x148002_1, .string x148003_1, .slice none 0 0, .int .i64 x148005_1]) ?_ 0 _ rfl; (with_reducible repeat (first | refine blk_drewN ?_ _ | refine blk_drew ?_ | refine blk_alloc ?_ _)); exact BK147.out) Try.underlying49 rfl (by kernel_rfl)) rfl ?_
            exact ⟨_, by first | rfl | (simp [errW_none, errW_some] <;> rfl) | (simp [*, errW_none, errW_some] <;> rfl), by (with_reducible repeat (first | apply Kd.V_alloc | apply Kd.V_drewN | apply Kd.V_drew)); exact Kd.V_mono (Kd.V_far (p := ⟨gb147, 5, none⟩) (Kd.V_far (p := ⟨gb147, 4, none⟩) (Kd.V_far (p := ⟨gb147, 3, none⟩) (Kd.V_far (p := ⟨gb147, 2, none⟩) (Kd.V_far (p := ⟨gb147, 1, none⟩) (Kd.V_far (p := ⟨gb147, 0, none⟩) (Kd.V_mono HL149_4.out (fun k_ hk => (⟨hk, hk.2⟩ : _ ∧ k_ ≠ gb147))) (fun _ hk => hk.2) (.string ((rd_T49 l0 x6_1).f0))) (fun _ hk => hk.2) (.int .i64 ((rd_T49 l0 x6_1).f1.f0))) (fun _ hk => hk.2) (.int .i64 ((rd_T49 l0 x6_1).f1.f1))) (fun _ hk => hk.2) (.string ((rd_T49 l0 x6_1).f1.f2))) (fun _ hk => hk.2) (.slice A148_4 ((rd_T49 l0 x6_1).f1.f3).length c148_4)) (fun _ hk => hk.2) (.int .i64 ((rd_T49 l0 x6_1).f2))) (fun _ hk => hk.1.1), by repeat (first | (with_reducible first | exact HB.out | apply below_alloc | apply pw_below_drewN | apply below_drew1 | refine below_set ?_ GE147.out) | exact HB.out)⟩
          · rw [if_neg c6] at H
            have c6b0 : (((rd_T49 l0 x6_1).f0).toList == a1.toList) = false := beq_eq_false_iff_ne.mpr c6
            have c6b1 : (((rd_T49 l0 x6_1).f0).toList != a1.toList) = true := bne_iff_ne.mpr c6
            have H' := Aside0.mk H
            clear H
            have p148 : 0 ≤ (x6_1 : Int) := of_decide_eq_true (by first | (with_reducible assumption) | assumption)
            have q148 : x6_1 < (l0.length : Int) := of_decide_eq_true (by first | (with_reducible assumption) | assumption)
            obtain ⟨ad148, A148_4, c148_4, e148, hx148_0, hx148_1, hx148_2, hx148_3, hx148_4, hx148_5, hl148_4, hi148_4⟩ := at_T49 (Kd.V_reads' HO_0.out).2.2 x6_1 p148 q148
            cases e148
            obtain ⟨ce148, hce148, hMe148, hcc148⟩ := Kd.V_get HO_0.out z49 x6_1 p148 (by first | exact q148 | exact of_decide_eq_true (by first | (with_reducible assumption) | assumption) | (have e_ := (Kd.V_reads' HO_0.out).1; omega))
            obtain ⟨ua148_4, uc148_4, rfl, ul148_4, ge148_4⟩ := k49_openF hMe148
            have hv148_4 := hcc148 4 _ rfl
            rw [add_field _ _ 4 (by omega)] at hv148_4
            replace hv148_4 := Option.some.inj (hv148_4.symm.trans hx148_4)
            injection hv148_4 with hva_ hvn_ hvc_
            rw [hva_] at ge148_4
            rw [hvc_] at ul148_4
            have HL148_4 := Aside0.mk (show Kd.V k24 24 _ w.heap.size _ _ ((rd_T49 l0 x6_1).f1.f3) from Kd.V_mk ul148_4 ge148_4)
            clear hva_ hvn_ hvc_ ge148_4 ul148_4
            clear hcc148 hce148
            have HR148_4 := Aside0.mk hi148_4
            have HC148_4 := Aside0.mk hl148_4
            clear hi148_4 hl148_4
            replace p148 := eq_true p148
            replace q148 := eq_true q148
            go_wp2
            go_roundg k1
            case measure => have := HK1.out; omega
            case rel => exact ⟨(wrap64 (x6_1 + 1)), (x148000_1), (x148001_1), (x148002_1), (x148003_1), (x148005_1), (by first | rfl | (simp; done) | (simp [*]; done)), H', ⟨by have := HK1.out; omega⟩, ⟨by (with_reducible repeat (first | apply Kd.V_alloc | apply Kd.V_drewN | apply Kd.V_drew)); exact HO_0.out⟩, ⟨by (with_reducible repeat (first | refine blk_drewN ?_ _ | refine blk_drew ?_ | refine blk_alloc ?_ _)); exact BK147.out⟩, ⟨by repeat (first | (with_reducible first | exact HB.out | apply below_alloc | apply pw_below_drewN | apply below_drew1 | refine below_set ?_ GE147.out) | exact HB.out)⟩⟩
        · rw [if_neg c5] at H
          exact absurd H (by simp)
      · rw [if_neg c4] at H
        have c4b0 : decide (x6_1 < (l0.length : Int)) = false := decide_eq_false c4
        clear c4
        have H' := Aside0.mk H
        clear H
        go_wp2
        go_loopg [7] k1 (fun kq v7 w' => ∃ (x7_2 : Int) (x148000_2 : ByteArray) (x148001_2 : Int) (x148002_2 : Int) (x148003_2 : ByteArray) (x148005_2 : Int), v7 = .int .i64 x7_2 ∧ Aside0 (hanaperref17_Find.l1 kq l0 x7_2 = some (r1, r2, r3, r4, r5, r6, r7)) ∧ Aside0 (kq ≤ k1) ∧ Aside0 (Kd.V k49 49 w' w.heap.size (fun k_ => (P0_ k_ ∨ w.heap.size ≤ k_) ∧ k_ ≠ gb147) (.slice A0 l0.length c0) l0) ∧ Aside0 (w'.heap[gb147]? = some (.cells #[.string x148000_2, .int .i64 x148001_2, .int .i64 x148002_2, .string x148003_2, (.slice none 0 0), .int .i64 x148005_2] 49 (0, 0))) ∧ Aside0 (Below w.heap.size w w'))
        case atStart => exact ⟨(0), (x148000_1), (x148001_1), (x148002_1), (x148003_1), (x148005_1), (by first | rfl | (simp; done) | (simp [*]; done)), H', ⟨Nat.le_refl _⟩, ⟨by (with_reducible repeat (first | apply Kd.V_alloc | apply Kd.V_drewN | apply Kd.V_drew)); exact HO_0.out⟩, ⟨by (with_reducible repeat (first | refine blk_drewN ?_ _ | refine blk_drew ?_ | refine blk_alloc ?_ _)); exact BK147.out⟩, ⟨by repeat (first | (with_reducible first | exact HB.out | apply below_alloc | apply pw_below_drewN | apply below_drew1 | refine below_set ?_ GE147.out) | exact HB.out)⟩⟩
        case round =>
          clear H'
          try clear c1
          try clear p1
          try clear q1
          try clear hx1
          try clear c2
          try clear p2
          try clear c4
          try clear c4b0
          try clear c5
          try clear c5b0
          try clear c6
          try clear c6b0
          try clear c6b1
          try clear p6
          try clear hcz7_0
          try clear hcz7_1
          try clear hcz7_2
          try clear hcz7_3
          try clear hcz7_4
          try clear hcz7_5
          try clear hfz7_0
          try clear hfz7_1
          try clear hfz7_2
          try clear hfz7_3
          try clear hfz7_4
          try clear hfz7_5
          try clear hx148_0
          try clear hx148_1
          try clear hx148_2
          try clear hx148_3
          try clear hx148_4
          try clear hx148_5
          try clear hx149_0
          try clear hx149_1
          try clear hx149_2
          try clear hx149_3
          try clear hx149_4
          try clear hx149_5
          try clear p148
          try clear p149
          try clear p2
          try clear q148
          try clear q149
          obtain ⟨x7_2, x148000_2, x148001_2, x148002_2, x148003_2, x148005_2, rfl, HA, HK2, HO_0, BK147, HB⟩ := hrel
          cases gk with
          | zero => exact absurd HA.out (by simp [hanaperref17_Find.l1])
          | succ k2 =>
            have H := HA.out
            clear HA
            simp only [hanaperref17_Find.l1] at H
            by_cases c8 : x7_2 < (l0.length : Int)
            · rw [if_pos c8] at H
              have c8b0 : decide (x7_2 < (l0.length : Int)) = true := decide_eq_true c8
              clear c8
              by_cases c9 : 0 ≤ x7_2
              · rw [if_pos c9] at H
                have c9b0 : decide (0 ≤ x7_2) = true := decide_eq_true c9
                clear c9
                by_cases c10 : ((rd_T49 l0 x7_2).f0).toList = ([] : List UInt8)
                · rw [if_pos c10] at H
                  have c10b0 : (((rd_T49 l0 x7_2).f0).toList == ([] : List UInt8)) = true := beq_iff_eq.mpr c10
                  have c10b1 : (((rd_T49 l0 x7_2).f0).toList != ([] : List UInt8)) = false := bne_eq_false_iff_eq.mpr c10
                  clear c10
                  simp only [Option.some.injEq, Prod.mk.injEq] at H
                  obtain ⟨rfl, rfl, rfl, rfl, rfl, rfl, rfl⟩ := H
                  have p150 : 0 ≤ (x7_2 : Int) := of_decide_eq_true (by first | (with_reducible assumption) | assumption)
                  have q150 : x7_2 < (l0.length : Int) := of_decide_eq_true (by first | (with_reducible assumption) | assumption)
                  obtain ⟨ad150, A150_4, c150_4, e150, hx150_0, hx150_1, hx150_2, hx150_3, hx150_4, hx150_5, hl150_4, hi150_4⟩ := at_T49 (Kd.V_reads' HO_0.out).2.2 x7_2 p150 q150
                  cases e150
                  obtain ⟨ce150, hce150, hMe150, hcc150⟩ := Kd.V_get HO_0.out z49 x7_2 p150 (by first | exact q150 | exact of_decide_eq_true (by first | (with_reducible assumption) | assumption) | (have e_ := (Kd.V_reads' HO_0.out).1; omega))
                  obtain ⟨ua150_4, uc150_4, rfl, ul150_4, ge150_4⟩ := k49_openF hMe150
                  have hv150_4 := hcc150 4 _ rfl
                  rw [add_field _ _ 4 (by omega)] at hv150_4
                  replace hv150_4 := Option.some.inj (hv150_4.symm.trans hx150_4)
                  injection hv150_4 with hva_ hvn_ hvc_
                  rw [hva_] at ge150_4
                  rw [hvc_] at ul150_4
                  have HL150_4 := Aside0.mk (show Kd.V k24 24 _ w.heap.size _ _ ((rd_T49 l0 x7_2).f1.f3) from Kd.V_mk ul150_4 ge150_4)
                  clear hva_ hvn_ hvc_ ge150_4 ul150_4
                  clear hcc150 hce150
                  have HR150_4 := Aside0.mk hi150_4
                  have HC150_4 := Aside0.mk hl150_4
                  clear hi150_4 hl150_4
                  replace p150 := eq_true p150
                  replace q150 := eq_true q150
                  have p151 : 0 ≤ (x7_2 : Int) := of_decide_eq_true (by first | (with_reducible assumption) | assumption)
                  have q151 : x7_2 < (l0.length : Int) := of_decide_eq_true (by first | (with_reducible assumption) | assumption)
                  obtain ⟨ad151, A151_4, c151_4, e151, hx151_0, hx151_1, hx151_2, hx151_3, hx151_4, hx151_5, hl151_4, hi151_4⟩ := at_T49 (Kd.V_reads' HO_0.out).2.2 x7_2 p151 q151
                  obtain rfl : ad150 = ad151 := (by injection e151)
                  obtain ⟨ce151, hce151, hMe151, hcc151⟩ := Kd.V_get HO_0.out z49 x7_2 p151 (by first | exact q151 | exact of_decide_eq_true (by first | (with_reducible assumption) | assumption) | (have e_ := (Kd.V_reads' HO_0.out).1; omega))
                  obtain ⟨ua151_4, uc151_4, rfl, ul151_4, ge151_4⟩ := k49_openF hMe151
                  have hv151_4 := hcc151 4 _ rfl
                  rw [add_field _ _ 4 (by omega)] at hv151_4
                  replace hv151_4 := Option.some.inj (hv151_4.symm.trans hx151_4)
                  injection hv151_4 with hva_ hvn_ hvc_
                  rw [hva_] at ge151_4
                  rw [hvc_] at ul151_4
                  have HL151_4 := Aside0.mk (show Kd.V k24 24 _ w.heap.size _ _ ((rd_T49 l0 x7_2).f1.f3) from Kd.V_mk ul151_4 ge151_4)
                  clear hva_ hvn_ hvc_ ge151_4 ul151_4
                  clear hcc151 hce151
                  have HR151_4 := Aside0.mk hi151_4
                  have HC151_4 := Aside0.mk hl151_4
                  clear hi151_4 hl151_4
                  replace p151 := eq_true p151
                  replace q151 := eq_true q151
                  have ea_ := Option.some.inj (hx150_4.symm.trans hx151_4)
                  injection ea_ with ea_ en_ ec_
                  subst ea_
                  subst ec_
                  clear en_
                  have hcz11_0 : wr.cell? ⟨gb147, 0, none⟩ = some (.string x148000_2) := (blk_cell BK147.out 0).trans rfl
                  have hcz11_1 : wr.cell? ⟨gb147, 1, none⟩ = some (.int .i64 x148001_2) := (blk_cell BK147.out 1).trans rfl
                  have hcz11_2 : wr.cell? ⟨gb147, 2, none⟩ = some (.int .i64 x148002_2) := (blk_cell BK147.out 2).trans rfl
                  have hcz11_3 : wr.cell? ⟨gb147, 3, none⟩ = some (.string x148003_2) := (blk_cell BK147.out 3).trans rfl
                  have hcz11_4 : wr.cell? ⟨gb147, 4, none⟩ = some (.slice none 0 0) := (blk_cell BK147.out 4).trans rfl
                  have hcz11_5 : wr.cell? ⟨gb147, 5, none⟩ = some (.int .i64 x148005_2) := (blk_cell BK147.out 5).trans rfl
                  have hfz11_0 := blk_frozen BK147.out 0
                  have hfz11_1 := blk_frozen BK147.out 1
                  have hfz11_2 := blk_frozen BK147.out 2
                  have hfz11_3 := blk_frozen BK147.out 3
                  have hfz11_4 := blk_frozen BK147.out 4
                  have hfz11_5 := blk_frozen BK147.out 5
                  go_wp2
                  refine bodyPost_ret (results_ct rfl _ _ gb147 49 #[.string ((rd_T49 l0 x7_2).f0), .int .i64 ((rd_T49 l0 x7_2).f1.f0), .int .i64 ((rd_T49 l0 x7_2).f1.f1), .string ((rd_T49 l0 x7_2).f1.f2), .slice A150_4 ((rd_T49 l0 x7_2).f1.f3).length c150_4, .int .i64 ((rd_T49 l0 x7_2).f2)] (0, 0) _ rfl (by (with_reducible repeat (first | refine blk_drewN ?_ _ | refine blk_drew ?_ | refine blk_alloc ?_ _)); refine blk_put (cs := #[.string ((rd_T49 l0 x7_2).f0), .int .i64 ((rd_T49 l0 x7_2).f1.f0), .int .i64 ((rd_T49 l0 x7_2).f1.f1), .string ((rd_T49 l0 x7_2).f1.f2), .slice A150_4 ((rd_T49 l0 x7_2).f1.f3).length c150_4, .int .i64 x148005_2]) ?_ 5 _ rfl; (with_reducible repeat (first | refine blk_drewN ?_ _ | refine blk_drew ?_ | refine blk_alloc ?_ _)); refine blk_put (cs := #[.string ((rd_T49 l0 x7_2).f0), .int .i64 ((rd_T49 l0 x7_2).f1.f0), .int .i64 ((rd_T49 l0 x7_2).f1.f1), .string ((rd_T49 l0 x7_2).f1.f2), .slice none 0 0, .int .i64 x148005_2]) ?_ 4 _ rfl; (with_reducible repeat (first | refine blk_drewN ?_ _ | refine blk_drew ?_ | refine blk_alloc ?_ _)); refine blk_put (cs := #[.string ((rd_T49 l0 x7_2).f0), .int .i64 ((rd_T49 l0 x7_2).f1.f0), .int .i64 ((rd_T49 l0 x7_2).f1.f1), .string x148003_2, .slice none 0 0, .int .i64 x148005_2]) ?_ 3 _ rfl; (with_reducible repeat (first | refine blk_drewN ?_ _ | refine blk_drew ?_ | refine blk_alloc ?_ _)); refine blk_put (cs := #[.string ((rd_T49 l0 x7_2).f0), .int .i64 ((rd_T49 l0 x7_2).f1.f0), .int .i64 x148002_2, .string x148003_2, .slice none 0 0, .int .i64 x148005_2]) ?_ 2 _ rfl; (with_reducible repeat (first | refine blk_drewN ?_ _ | refine blk_drew ?_ | refine blk_alloc ?_ _)); refine blk_put (cs := #[.string ((rd_T49 l0 x7_2).f0), .int .i64 x148001_2, .int .i64 x148002_2, .string x148003_2, .slice none 0 0, .int .i64 x148005_2]) ?_ 1 _ rfl; (with_reducible repeat (first | refine blk_drewN ?_ _ | refine blk_drew ?_ | refine blk_alloc ?_ _)); refine blk_put (cs := #[.string x148000_2, .int .i64 x148001_2, .int .i64 x148002_2, .string x148003_2, .slice none 0 0, .int .i64 x148005_2]) ?_ 0 _ rfl; (with_reducible repeat (first | refine blk_drewN ?_ _ | refine blk_drew ?_ | refine blk_alloc ?_ _)); exact BK147.out) Try.underlying49 rfl (by kernel_rfl)) rfl ?_
                  exact ⟨_, by first | rfl | (simp [errW_none, errW_some] <;> rfl) | (simp [*, errW_none, errW_some] <;> rfl), by (with_reducible repeat (first | apply Kd.V_alloc | apply Kd.V_drewN | apply Kd.V_drew)); exact Kd.V_mono (Kd.V_far (p := ⟨gb147, 5, none⟩) (Kd.V_far (p := ⟨gb147, 4, none⟩) (Kd.V_far (p := ⟨gb147, 3, none⟩) (Kd.V_far (p := ⟨gb147, 2, none⟩) (Kd.V_far (p := ⟨gb147, 1, none⟩) (Kd.V_far (p := ⟨gb147, 0, none⟩) (Kd.V_mono HL151_4.out (fun k_ hk => (⟨hk, hk.2⟩ : _ ∧ k_ ≠ gb147))) (fun _ hk => hk.2) (.string ((rd_T49 l0 x7_2).f0))) (fun _ hk => hk.2) (.int .i64 ((rd_T49 l0 x7_2).f1.f0))) (fun _ hk => hk.2) (.int .i64 ((rd_T49 l0 x7_2).f1.f1))) (fun _ hk => hk.2) (.string ((rd_T49 l0 x7_2).f1.f2))) (fun _ hk => hk.2) (.slice A150_4 ((rd_T49 l0 x7_2).f1.f3).length c150_4)) (fun _ hk => hk.2) (.int .i64 ((rd_T49 l0 x7_2).f2))) (fun _ hk => hk.1.1), by repeat (first | (with_reducible first | exact HB.out | apply below_alloc | apply pw_below_drewN | apply below_drew1 | refine below_set ?_ GE147.out) | exact HB.out)⟩
                · rw [if_neg c10] at H
                  have c10b0 : (((rd_T49 l0 x7_2).f0).toList == ([] : List UInt8)) = false := beq_eq_false_iff_ne.mpr c10
                  have c10b1 : (((rd_T49 l0 x7_2).f0).toList != ([] : List UInt8)) = true := bne_iff_ne.mpr c10
                  have H' := Aside0.mk H
                  clear H
                  have p150 : 0 ≤ (x7_2 : Int) := of_decide_eq_true (by first | (with_reducible assumption) | assumption)
                  have q150 : x7_2 < (l0.length : Int) := of_decide_eq_true (by first | (with_reducible assumption) | assumption)
                  obtain ⟨ad150, A150_4, c150_4, e150, hx150_0, hx150_1, hx150_2, hx150_3, hx150_4, hx150_5, hl150_4, hi150_4⟩ := at_T49 (Kd.V_reads' HO_0.out).2.2 x7_2 p150 q150
                  cases e150
                  obtain ⟨ce150, hce150, hMe150, hcc150⟩ := Kd.V_get HO_0.out z49 x7_2 p150 (by first | exact q150 | exact of_decide_eq_true (by first | (with_reducible assumption) | assumption) | (have e_ := (Kd.V_reads' HO_0.out).1; omega))
                  obtain ⟨ua150_4, uc150_4, rfl, ul150_4, ge150_4⟩ := k49_openF hMe150
                  have hv150_4 := hcc150 4 _ rfl
                  rw [add_field _ _ 4 (by omega)] at hv150_4
                  replace hv150_4 := Option.some.inj (hv150_4.symm.trans hx150_4)
                  injection hv150_4 with hva_ hvn_ hvc_
                  rw [hva_] at ge150_4
                  rw [hvc_] at ul150_4
                  have HL150_4 := Aside0.mk (show Kd.V k24 24 _ w.heap.size _ _ ((rd_T49 l0 x7_2).f1.f3) from Kd.V_mk ul150_4 ge150_4)
                  clear hva_ hvn_ hvc_ ge150_4 ul150_4
                  clear hcc150 hce150
                  have HR150_4 := Aside0.mk hi150_4
                  have HC150_4 := Aside0.mk hl150_4
                  clear hi150_4 hl150_4
                  replace p150 := eq_true p150
                  replace q150 := eq_true q150
                  go_wp2
                  go_roundg k2
                  case measure => have := HK1.out; have := HK2.out; omega
                  case rel => exact ⟨(wrap64 (x7_2 + 1)), (x148000_2), (x148001_2), (x148002_2), (x148003_2), (x148005_2), (by first | rfl | (simp; done) | (simp [*]; done)), H', ⟨by have := HK1.out; have := HK2.out; omega⟩, ⟨by (with_reducible repeat (first | apply Kd.V_alloc | apply Kd.V_drewN | apply Kd.V_drew)); exact HO_0.out⟩, ⟨by (with_reducible repeat (first | refine blk_drewN ?_ _ | refine blk_drew ?_ | refine blk_alloc ?_ _)); exact BK147.out⟩, ⟨by repeat (first | (with_reducible first | exact HB.out | apply below_alloc | apply pw_below_drewN | apply below_drew1 | refine below_set ?_ GE147.out) | exact HB.out)⟩⟩
              · rw [if_neg c9] at H
                exact absurd H (by simp)
            · rw [if_neg c8] at H
              have c8b0 : decide (x7_2 < (l0.length : Int)) = false := decide_eq_false c8
              clear c8
              simp only [Option.some.injEq, Prod.mk.injEq] at H
              obtain ⟨rfl, rfl, rfl, rfl, rfl, rfl, rfl⟩ := H
              have hcz12_0 : wr.cell? ⟨gb147, 0, none⟩ = some (.string x148000_2) := (blk_cell BK147.out 0).trans rfl
              have hcz12_1 : wr.cell? ⟨gb147, 1, none⟩ = some (.int .i64 x148001_2) := (blk_cell BK147.out 1).trans rfl
              have hcz12_2 : wr.cell? ⟨gb147, 2, none⟩ = some (.int .i64 x148002_2) := (blk_cell BK147.out 2).trans rfl
              have hcz12_3 : wr.cell? ⟨gb147, 3, none⟩ = some (.string x148003_2) := (blk_cell BK147.out 3).trans rfl
              have hcz12_4 : wr.cell? ⟨gb147, 4, none⟩ = some (.slice none 0 0) := (blk_cell BK147.out 4).trans rfl
              have hcz12_5 : wr.cell? ⟨gb147, 5, none⟩ = some (.int .i64 x148005_2) := (blk_cell BK147.out 5).trans rfl
              have hfz12_0 := blk_frozen BK147.out 0
              have hfz12_1 := blk_frozen BK147.out 1
              have hfz12_2 := blk_frozen BK147.out 2
              have hfz12_3 := blk_frozen BK147.out 3
              have hfz12_4 := blk_frozen BK147.out 4
              have hfz12_5 := blk_frozen BK147.out 5
              go_wp2
              refine bodyPost_ret (results_ct rfl _ _ gb147 49 #[.string (⟨#[]⟩ : ByteArray), .int .i64 0, .int .i64 0, .string (⟨#[]⟩ : ByteArray), .slice none 0 0, .int .i64 0] (0, 0) _ rfl (by (with_reducible repeat (first | refine blk_drewN ?_ _ | refine blk_drew ?_ | refine blk_alloc ?_ _)); refine blk_put (cs := #[.string (⟨#[]⟩ : ByteArray), .int .i64 0, .int .i64 0, .string (⟨#[]⟩ : ByteArray), .slice none 0 0, .int .i64 x148005_2]) ?_ 5 _ rfl; (with_reducible repeat (first | refine blk_drewN ?_ _ | refine blk_drew ?_ | refine blk_alloc ?_ _)); refine blk_put (cs := #[.string (⟨#[]⟩ : ByteArray), .int .i64 0, .int .i64 0, .string (⟨#[]⟩ : ByteArray), .slice none 0 0, .int .i64 x148005_2]) ?_ 4 _ rfl; (with_reducible repeat (first | refine blk_drewN ?_ _ | refine blk_drew ?_ | refine blk_alloc ?_ _)); refine blk_put (cs := #[.string (⟨#[]⟩ : ByteArray), .int .i64 0, .int .i64 0, .string x148003_2, .slice none 0 0, .int .i64 x148005_2]) ?_ 3 _ rfl; (with_reducible repeat (first | refine blk_drewN ?_ _ | refine blk_drew ?_ | refine blk_alloc ?_ _)); refine blk_put (cs := #[.string (⟨#[]⟩ : ByteArray), .int .i64 0, .int .i64 x148002_2, .string x148003_2, .slice none 0 0, .int .i64 x148005_2]) ?_ 2 _ rfl; (with_reducible repeat (first | refine blk_drewN ?_ _ | refine blk_drew ?_ | refine blk_alloc ?_ _)); refine blk_put (cs := #[.string (⟨#[]⟩ : ByteArray), .int .i64 x148001_2, .int .i64 x148002_2, .string x148003_2, .slice none 0 0, .int .i64 x148005_2]) ?_ 1 _ rfl; (with_reducible repeat (first | refine blk_drewN ?_ _ | refine blk_drew ?_ | refine blk_alloc ?_ _)); refine blk_put (cs := #[.string x148000_2, .int .i64 x148001_2, .int .i64 x148002_2, .string x148003_2, .slice none 0 0, .int .i64 x148005_2]) ?_ 0 _ rfl; (with_reducible repeat (first | refine blk_drewN ?_ _ | refine blk_drew ?_ | refine blk_alloc ?_ _)); exact BK147.out) Try.underlying49 rfl (by kernel_rfl)) rfl ?_
              exact ⟨_, by first | rfl | (simp [errW_none, errW_some] <;> rfl) | (simp [*, errW_none, errW_some] <;> rfl), (by first | exact Kd.V_nil _ _ _ _ _ | exact Kd.V_mono (Kd.R_V (by first | exact Kd.R_nil _ _ _ _ _ | exact Kd.N_nil _ _ _ _ _ | exact Kd.V_nil _ _ _ _ _ | exact Kd.Q_nil _ _ _ _ _ | exact Kd.S_nil _ _ _ _ _)) (fun k_ hk => by first | exact ⟨(.inr (hk.1)), hk.2⟩ | exact (.inr (hk)))), by repeat (first | (with_reducible first | exact HB.out | apply below_alloc | apply pw_below_drewN | apply below_drew1 | refine below_set ?_ GE147.out) | exact HB.out)⟩

-- GIVEN BY HAND: function 28 (rule_Find)

end Go.Proofs.Ytdpcfamgmicboac.PDueOf
