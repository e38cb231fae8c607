/- symMerge at dates. the stable sort of dates. The document's numbers of records by their states. A record is counted in a tally. A map of names to blocks; no condition beyond each theorem its own. -/
import Derived.Deep.Cut
import Derived.Test.YtafigkikblpbnaaGreatDoorZC16
import Derived.Test.YtafigkikblpbnaaGreatDoorZC07
import Derived.Test.YtafigkikblpbnaaGreatDoorZC03
import Derived.Test.YtafigkikblpbnaaGreatDoorZC04
import Derived.Test.YtafigkikblpbnaaGreatDoorZC15
import Derived.Maps.OwnSet
import Derived.WalkKit
import Derived.KernelRfl
import Derived.Lib.Hide
namespace Go.Proofs.YtafigkikblpbnaaGreatDoor.PG
open Go.RowKit Go.Proofs.YtafigkikblpbnaaGreatDoorW.PrintWords Go.Proofs.YtafigkikblpbnaaGreatDoorW.PrintLast Go.Proofs.YtafigkikblpbnaaGreatDoorW.PrintMore
set_option linter.unusedVariables false
set_option linter.unusedSimpArgs false
set_option maxRecDepth 100000

set_option maxHeartbeats 0 in
theorem sym3f (g n cap : Nat) (hn : n ≤ 1000) (q : Nat)
    (ih : ∀ (D : Nat → Dt) (a m b : Nat) (W : World), b - a ≤ q → a < m → m < b → b ≤ n → Srt D a m → Srt D m b → Tg D a m b → Hd W g n D → Calls Tryz.prog 84 #[.slice (some ⟨g, 0, none⟩) n cap, .int .i64 a, .int .i64 m, .int .i64 b, .func (.func 22) #[] #[]] W (RMg D g n a b W))
    (D : Nat → Dt) (a m b : Nat) (hq : b - a ≤ q + 1) (ham : a + 1 < m) (hmb : m + 1 < b) (hmm_ : ¬ (a + b) / 2 < m) (hbn : b ≤ n) (hA : Srt D a m) (hB : Srt D m b) (hT : Tg D a m b) (W : World) (h : Hd W g n D) :
    Calls Tryz.prog 84 #[.slice (some ⟨g, 0, none⟩) n cap, .int .i64 a, .int .i64 m, .int .i64 b, .func (.func 22) #[] #[]] W (RMg D g n a b W) := by
  have H0 := Lib.hid h
  have HA := Lib.hid hA
  have HB := Lib.hid hB
  have HT := Lib.hid hT
  have IH := Lib.hid ih
  clear h hA hB hT ih
  obtain ⟨mid, hmid⟩ : ∃ mid : Nat, (a + b) / 2 = mid := ⟨_, rfl⟩
  have HMID := Lib.hid hmid
  have hm1 : 2 * mid ≤ a + b := by omega
  have hm2 : a + b ≤ 2 * mid + 1 := by omega
  have kmid : ((a : Int) + (b : Int)) / 2 = (mid : Int) := by omega
  clear hmid
  have kw0 : IntKind.i64.wrap ((m : Int) - (a : Int)) = (m : Int) - (a : Int) := by rw [IntKind.wrap_i64]; omega
  have kq0 : ((m : Int) - (a : Int) == 1) = false := by rw [beq_eq_false_iff_ne]; omega
  have kw1 : IntKind.i64.wrap ((b : Int) - (m : Int)) = (b : Int) - (m : Int) := by rw [IntKind.wrap_i64]; omega
  have kq1 : ((b : Int) - (m : Int) == 1) = false := by rw [beq_eq_false_iff_ne]; omega
  have kw2 : IntKind.i64.wrap ((mid : Int) + (m : Int)) = (mid : Int) + (m : Int) := by rw [IntKind.wrap_i64]; omega
  have kw3 : IntKind.i64.wrap ((mid : Int) + (m : Int) - 1) = (mid : Int) + (m : Int) - 1 := by rw [IntKind.wrap_i64]; omega
  go_enter Tryz.func84, Tryz.ntmps84
  have hmm : ¬ mid < m := by omega
  have hmm2 : ¬ (mid : Int) < (m : Int) := by omega
  go_wp2

  go_loopw [20, 21] (fun v20 v21 wr => ∃ i j : Nat, v20 = .int .i64 i ∧ v21 = .int .i64 j ∧ (a) ≤ i ∧ i ≤ j ∧ j ≤ m ∧ Aside0 ((a) < i → (D (i - 1)).t ≤ (D (mid + m - 1 - (i - 1))).t) ∧ Aside0 (j < m → (D (mid + m - 1 - j)).t < (D j).t) ∧ Aside0 (Hd wr g n D) ∧ Aside0 (W.grownBy wr (some g))) (fun v20 v21 _ => (intOf v21).toNat - (intOf v20).toNat)
  case atStart => exact ⟨(a), m, by first | rfl | go_num, by first | rfl | go_num, Nat.le_refl _, by omega, Nat.le_refl _, ⟨fun h_ => absurd h_ (Nat.lt_irrefl _)⟩, ⟨fun h_ => absurd h_ (Nat.lt_irrefl _)⟩, ⟨H0.out⟩, ⟨World.grownBy.refl _ _⟩⟩
  case round =>
    obtain ⟨i, j, rfl, rfl, hi, hij, hj, HLO, HHI, HD, HG⟩ := hrel
    by_cases hlt : i < j
    · have hlt2 : (i : Int) < (j : Int) := by omega
      obtain ⟨h, hh⟩ : ∃ h : Nat, (i + j) / 2 = h := ⟨_, rfl⟩
      have hh1 : i ≤ h := by omega
      have hh2 : h < j := by omega
      have kh : ((i : Int) + (j : Int)) / 2 = (h : Int) := by omega
      obtain ⟨u, hu⟩ : ∃ u : Nat, mid + m - 1 - h = u := ⟨_, rfl⟩
      have kwu : IntKind.i64.wrap ((mid : Int) + (m : Int) - 1 - (h : Int)) = (u : Int) := by rw [IntKind.wrap_i64]; omega
      have kun : (u : Int) < (n : Int) := by omega
      have khn2 : (h : Int) < (n : Int) := by omega
      have kwh : IntKind.i64.wrap ((h : Int) + 1) = ((h + 1 : Nat) : Int) := by rw [IntKind.wrap_i64]; omega
      have cx := (HD.out.cell (show u < n by omega))
      have cy := (HD.out.cell (show h < n by omega))
      have HCM := Lib.hid (fun w => Lib.hid (cmpD_eq (D u).t (D h).t (D u).x (D h).x w))
      obtain ⟨⟨x0, _⟩, x1, _⟩ := cx
      obtain ⟨⟨y0, _⟩, y1, _⟩ := cy
      have HU := Lib.hid hu
      clear hh hu
      by_cases hcm : (D u).t < (D h).t
      · rw [cI_lt hcm] at HCM
        have HHN := Lib.hid (show h < m → (D (mid + m - 1 - h)).t < (D h).t from fun _ => by rw [HU.out]; exact hcm)
        clear hcm
        obtain ⟨p, hp⟩ : ∃ p, D u = p := ⟨_, rfl⟩
        obtain ⟨r, hr⟩ : ∃ r, D h = r := ⟨_, rfl⟩
        rw [hp] at x0 x1 HCM
        rw [hr] at y0 y1 HCM
        clear hp hr
        as_aux_lemma =>
        go_wp2_with fail
        refine WL.start (n := 14) (S := fun w' => Aside0 (Below wr.heap.size wr w') ∧ w'.cell? ⟨g, u * 2, none⟩ = some (.int .i64 p.t) ∧ w'.cell? ⟨g, u * 2 + 1, none⟩ = some (.string p.x) ∧ w'.cell? ⟨g, h * 2, none⟩ = some (.int .i64 r.t) ∧ w'.cell? ⟨g, h * 2 + 1, none⟩ = some (.string r.x)) (ds := []) [false, false, false, false, false, false, false, false, false, false, false, false, false, false] (by kernel_rfl) rfl rfl ⟨⟨below_drew (Below.refl _ _)⟩, x0, x1, y0, y1⟩ (fun hHeld => ?_)
        refine WL.tab tab84_35 (fun HT_ => ?_)
        refine WL.more [0, 1, 2, 3, 4, 5, 7, 8, 9, 6, 10, 11, 12, 13] ?_
        repeat (first
          | (refine WL.off (lb' := ?_) (ys := ?_) rfl rfl (by rfl) ?_ HT_.out ?_ (fun _ _ _ h => h) ?_ ?_; rotate_left 2; (focus dsimp only [List.set_cons_zero, List.set_cons_succ]; rfl); (focus kernel_rfl); (focus dsimp only [List.set_cons_zero, List.set_cons_succ]; rfl))
          | (refine WL.pure (lb' := ?_) (v := ?_) (ys := ?_) rfl rfl (by rfl) ?_ HT_.out ?_ (fun _ _ _ h => h) ?_ ?_ ?_; rotate_left 3; (focus dsimp only [List.set_cons_zero, List.set_cons_succ]; rfl); (focus kernel_rfl); (focus intro w'; go_simp; with_reducible rfl); (focus dsimp only [List.set_cons_zero, List.set_cons_succ]; rfl))
          | (refine WL.take (lb' := ?_) (v := ?_) (ys := ?_) rfl rfl (by rfl) ?_ HT_.out ?_ (fun _ _ _ h => h) hHeld ?_ ?_ ?_; rotate_left 3; (focus dsimp only [List.set_cons_zero, List.set_cons_succ]; rfl); (focus kernel_rfl); (focus rintro w' ⟨s0, s1, s2, s3, s4⟩; go_simp; with_reducible rfl); (focus dsimp only [List.set_cons_zero, List.set_cons_succ]; rfl))
          | (refine WL.one (lb' := ?_) rfl rfl ?_ HT_.out ?_ (by decide) (fun K hK => ?_); rotate_left; (focus dsimp only [List.set_cons_zero, List.set_cons_succ]; rfl); (focus kernel_rfl); first
              | (refine goesV_ Tryz.func22 (by kernel_rfl) rfl #[.agg #[.int .i64 p.t, .string p.x], .agg #[.int .i64 r.t, .string r.x]] (by rfl) rfl rfl rfl (by simp only [List.map_toArray, List.map_cons, List.map_nil]; rfl) ?_; (with_reducible refine ((HCM.out _).out).mono ?_); rintro e w5 ⟨rfl, hb⟩; refine ⟨_, rfl, ?_⟩; refine hK.out _ _ (by have h_ := hHeld.2; refine ⟨⟨below_tr hHeld.1.out hb⟩, ?_⟩; repeat (first | exact below_cell hb h_ | (refine ⟨below_cell hb h_.1, ?_⟩; replace h_ := h_.2))) (fun hHeld => ?_); clear hK K; refine WL.put (ys := ?_) ?_ ?_; rotate_left; (focus dsimp only [List.set_cons_zero, List.set_cons_succ]; rfl))))
        refine WL.done HT_.out (by kernel_rfl) ?_
        clear x0 x1 y0 y1
        have HDC := Lib.hid (HD.out.below hHeld.1.out)
        have HGC := Lib.hid (HG.out.trans (grown_bel hHeld.1.out (some g)))
        clear hHeld
        go_wp2
        go_roundw
        case rel => first | exact ⟨i, h, rfl, by first | rfl | go_num, hi, by omega, by omega, ⟨HLO.out⟩, ⟨HHN.out⟩, ⟨HDC.out⟩, ⟨HGC.out⟩⟩ | exact ⟨i, rfl, h, by first | rfl | go_num, hi, by omega, by omega, ⟨HLO.out⟩, ⟨HHN.out⟩, ⟨HDC.out⟩, ⟨HGC.out⟩⟩
        case measure => simp [intOf]; omega
      · have hcg := cI_ge hcm
        have HLN := Lib.hid (show (a) < h + 1 → (D (h + 1 - 1)).t ≤ (D (mid + m - 1 - (h + 1 - 1))).t from fun _ => by rw [Nat.add_sub_cancel, HU.out]; exact Int.not_lt.mp hcm)
        generalize cI (D u).t (D h).t = c at *
        clear hcm
        obtain ⟨p, hp⟩ : ∃ p, D u = p := ⟨_, rfl⟩
        obtain ⟨r, hr⟩ : ∃ r, D h = r := ⟨_, rfl⟩
        rw [hp] at x0 x1 HCM
        rw [hr] at y0 y1 HCM
        clear hp hr
        as_aux_lemma =>
        go_wp2_with fail
        refine WL.start (n := 14) (S := fun w' => Aside0 (Below wr.heap.size wr w') ∧ w'.cell? ⟨g, u * 2, none⟩ = some (.int .i64 p.t) ∧ w'.cell? ⟨g, u * 2 + 1, none⟩ = some (.string p.x) ∧ w'.cell? ⟨g, h * 2, none⟩ = some (.int .i64 r.t) ∧ w'.cell? ⟨g, h * 2 + 1, none⟩ = some (.string r.x)) (ds := []) [false, false, false, false, false, false, false, false, false, false, false, false, false, false] (by kernel_rfl) rfl rfl ⟨⟨below_drew (Below.refl _ _)⟩, x0, x1, y0, y1⟩ (fun hHeld => ?_)
        refine WL.tab tab84_35 (fun HT_ => ?_)
        refine WL.more [0, 1, 2, 3, 4, 5, 7, 8, 9, 6, 10, 11, 12, 13] ?_
        repeat (first
          | (refine WL.off (lb' := ?_) (ys := ?_) rfl rfl (by rfl) ?_ HT_.out ?_ (fun _ _ _ h => h) ?_ ?_; rotate_left 2; (focus dsimp only [List.set_cons_zero, List.set_cons_succ]; rfl); (focus kernel_rfl); (focus dsimp only [List.set_cons_zero, List.set_cons_succ]; rfl))
          | (refine WL.pure (lb' := ?_) (v := ?_) (ys := ?_) rfl rfl (by rfl) ?_ HT_.out ?_ (fun _ _ _ h => h) ?_ ?_ ?_; rotate_left 3; (focus dsimp only [List.set_cons_zero, List.set_cons_succ]; rfl); (focus kernel_rfl); (focus intro w'; go_simp; with_reducible rfl); (focus dsimp only [List.set_cons_zero, List.set_cons_succ]; rfl))
          | (refine WL.take (lb' := ?_) (v := ?_) (ys := ?_) rfl rfl (by rfl) ?_ HT_.out ?_ (fun _ _ _ h => h) hHeld ?_ ?_ ?_; rotate_left 3; (focus dsimp only [List.set_cons_zero, List.set_cons_succ]; rfl); (focus kernel_rfl); (focus rintro w' ⟨s0, s1, s2, s3, s4⟩; go_simp; with_reducible rfl); (focus dsimp only [List.set_cons_zero, List.set_cons_succ]; rfl))
          | (refine WL.one (lb' := ?_) rfl rfl ?_ HT_.out ?_ (by decide) (fun K hK => ?_); rotate_left; (focus dsimp only [List.set_cons_zero, List.set_cons_succ]; rfl); (focus kernel_rfl); first
              | (refine goesV_ Tryz.func22 (by kernel_rfl) rfl #[.agg #[.int .i64 p.t, .string p.x], .agg #[.int .i64 r.t, .string r.x]] (by rfl) rfl rfl rfl (by simp only [List.map_toArray, List.map_cons, List.map_nil]; rfl) ?_; (with_reducible refine ((HCM.out _).out).mono ?_); rintro e w5 ⟨rfl, hb⟩; refine ⟨_, rfl, ?_⟩; refine hK.out _ _ (by have h_ := hHeld.2; refine ⟨⟨below_tr hHeld.1.out hb⟩, ?_⟩; repeat (first | exact below_cell hb h_ | (refine ⟨below_cell hb h_.1, ?_⟩; replace h_ := h_.2))) (fun hHeld => ?_); clear hK K; refine WL.put (ys := ?_) ?_ ?_; rotate_left; (focus dsimp only [List.set_cons_zero, List.set_cons_succ]; rfl))))
        refine WL.done HT_.out (by kernel_rfl) ?_
        clear x0 x1 y0 y1
        have HDC := Lib.hid (HD.out.below hHeld.1.out)
        have HGC := Lib.hid (HG.out.trans (grown_bel hHeld.1.out (some g)))
        clear hHeld
        go_wp2
        go_roundw
        case rel => first | exact ⟨h + 1, j, by first | rfl | go_num, rfl, by omega, by omega, hj, ⟨HLN.out⟩, ⟨HHI.out⟩, ⟨HDC.out⟩, ⟨HGC.out⟩⟩ | exact ⟨h + 1, by first | rfl | go_num, j, rfl, by omega, by omega, hj, ⟨HLN.out⟩, ⟨HHI.out⟩, ⟨HDC.out⟩, ⟨HGC.out⟩⟩
        case measure => simp [intOf]; omega
    · have hije : i = j := by omega
      subst hije
      have hng : ¬ (i : Int) < (i : Int) := by omega
      have HCUT := Lib.hid (show Cut D a m b i (mid + m - i) from by
        have hc_ := cut_of (s := i) HA.out HB.out (by omega) (by omega) (by rw [HMID.out]; rw [if_neg (by omega)]; exact ⟨hi, hj⟩) (by rw [HMID.out]; rw [if_neg (by omega)]; exact fun h_ => Int.not_lt.mpr (HLO.out h_)) (by rw [HMID.out]; rw [if_neg (by omega)]; exact HHI.out)
        rw [HMID.out] at hc_
        exact hc_)
      clear HLO HHI
      obtain ⟨e, he⟩ : ∃ e : Nat, mid + m - i = e := ⟨_, rfl⟩
      have kwe : IntKind.i64.wrap ((mid : Int) + (m : Int) - (i : Int)) = (e : Int) := by rw [IntKind.wrap_i64]; omega
      have HEE := Lib.hid he
      have c1_ : i ≤ m := HCUT.out.sm
      have c2_ : m ≤ e := by have := HCUT.out.me; omega
      have c3_ : e ≤ b := by have := HCUT.out.eb; omega
      have c4_ : a ≤ i := HCUT.out.sa
      have c5_ : i ≤ mid := by omega
      have c6_ : mid ≤ e := by have := HEE.out; omega
      have HL := Lib.hid (show Srt (rot D i m e) a i ∧ Srt (rot D i m e) i mid ∧ Tg (rot D i m e) a i mid from by
        have q_ := merged_lo HA.out HB.out HT.out HCUT.out (by omega) (by omega) (by omega)
        rw [HEE.out] at q_
        exact q_)
      clear he hij hj hi hlt hng
      have hng : ¬ (i : Int) < (i : Int) := by omega
      as_aux_lemma =>
      go_upto_region 39 with fail
      go_cut [185] from 25 (fun v w => v = .bool (decide (i < m ∧ m < e)) ∧ Aside0 (Hd w g n D) ∧ Aside0 (W.grownBy w (some g)))
      case first => as_aux_lemma =>
        by_cases p1a : i < m
        · have p1x : (i : Int) < (m : Int) := by omega
          by_cases p1b : m < e
          · have p1y : (m : Int) < (e : Int) := by omega
            go_wp2
            go_meet
            case rel => exact ⟨by rw [decide_eq_true (show i < m ∧ m < e from ⟨p1a, p1b⟩)], ⟨HD.out⟩, ⟨HG.out⟩⟩
          · have p1y : ¬ (m : Int) < (e : Int) := by omega
            go_wp2
            go_meet
            case rel => exact ⟨by rw [decide_eq_false (show ¬ (i < m ∧ m < e) from fun h_ => p1b h_.2)], ⟨HD.out⟩, ⟨HG.out⟩⟩
        · have p1x : ¬ (i : Int) < (m : Int) := by omega
          go_wp2
          go_meet
          case rel => exact ⟨by rw [decide_eq_false (show ¬ (i < m ∧ m < e) from fun h_ => p1a h_.1)], ⟨HD.out⟩, ⟨HG.out⟩⟩
      clear HD HG
      obtain ⟨rfl, HD, HG⟩ := hcut
      obtain ⟨bp1, hbp1⟩ : ∃ q_ : Bool, decide (i < m ∧ m < e) = q_ := ⟨_, rfl⟩
      rw [hbp1]
      have HBp1 := Lib.hid hbp1
      clear hbp1
      go_upto_if 185 with fail
      go_cut [] from 25 (fun w => Aside0 (Hd w g n (rot D i m e)) ∧ Aside0 (W.grownBy w (some g)))
      case first => as_aux_lemma =>
        cases bp1 with
        | true =>
          have q1 := of_decide_eq_true HBp1.out
          have HRO := Lib.hid (rotate_any g n cap hn D i m e q1.1 q1.2 (by omega) wc HD.out)
          go_wp2_with (go_at_call 118; refine HRO.out.mono ?_; rintro ee w2 ⟨rfl, hd2, hg2⟩)
          go_meet
          case rel => exact ⟨⟨hd2⟩, ⟨HG.out.trans hg2⟩⟩
        | false =>
          have HD1 := Lib.hid (show Hd wc g n (rot D i m e) from by
            have q1 := of_decide_eq_false HBp1.out
            rcases (show i = m ∨ e = m by omega) with q_ | q_
            · rw [q_, rot_id']; exact HD.out
            · rw [q_, rot_id]; exact HD.out)
          go_wp2
          go_meet
          case rel => exact ⟨⟨HD1.out⟩, ⟨HG.out⟩⟩
      clear HD HG HBp1
      obtain ⟨HD, HG⟩ := hcut
      go_upto_region 41 with fail
      go_cut [199] from 25 (fun v w => v = .bool (decide (a < i ∧ i < mid)) ∧ Aside0 (Hd w g n (rot D i m e)) ∧ Aside0 (W.grownBy w (some g)))
      case first => as_aux_lemma =>
        by_cases p2a : a < i
        · have p2x : (a : Int) < (i : Int) := by omega
          by_cases p2b : i < mid
          · have p2y : (i : Int) < (mid : Int) := by omega
            go_wp2
            go_meet
            case rel => exact ⟨by rw [decide_eq_true (show a < i ∧ i < mid from ⟨p2a, p2b⟩)], ⟨HD.out⟩, ⟨HG.out⟩⟩
          · have p2y : ¬ (i : Int) < (mid : Int) := by omega
            go_wp2
            go_meet
            case rel => exact ⟨by rw [decide_eq_false (show ¬ (a < i ∧ i < mid) from fun h_ => p2b h_.2)], ⟨HD.out⟩, ⟨HG.out⟩⟩
        · have p2x : ¬ (a : Int) < (i : Int) := by omega
          go_wp2
          go_meet
          case rel => exact ⟨by rw [decide_eq_false (show ¬ (a < i ∧ i < mid) from fun h_ => p2a h_.1)], ⟨HD.out⟩, ⟨HG.out⟩⟩
      clear HD HG
      obtain ⟨rfl, HD, HG⟩ := hcut
      obtain ⟨bp2, hbp2⟩ : ∃ q_ : Bool, decide (a < i ∧ i < mid) = q_ := ⟨_, rfl⟩
      rw [hbp2]
      have HBp2 := Lib.hid hbp2
      clear hbp2
      go_upto_if 199 with fail
      go_cut [] from 25 (fun w => ∃ E, Aside0 (Hd w g n E) ∧ Aside0 (Mg (rot D i m e) E a mid) ∧ Aside0 (W.grownBy w (some g)))
      case first => as_aux_lemma =>
        cases bp2 with
        | true =>
          have q1 := of_decide_eq_true HBp2.out
          have HCA := Lib.hid (IH.out (rot D i m e) a i mid wc (by omega) q1.1 q1.2 (by omega) HL.out.1 HL.out.2.1 HL.out.2.2 HD.out)
          go_wp2_with (go_at_call 84; refine HCA.out.mono ?_; rintro ee w3 ⟨rfl, E, hd3, hm3, hg3⟩)
          go_meet
          case rel => exact ⟨E, ⟨hd3⟩, ⟨hm3⟩, ⟨HG.out.trans hg3⟩⟩
        | false =>
          have HM2 := Lib.hid (show Mg (rot D i m e) (rot D i m e) a mid from by
            have q1 := of_decide_eq_false HBp2.out
            refine ⟨?_, Sm.refl _ _ _⟩
            rcases (show i = a ∨ i = mid by omega) with q_ | q_
            · have := HL.out.2.1; rw [q_] at this ⊢; exact this
            · have := HL.out.1; rw [q_] at this ⊢; exact this)
          go_wp2
          go_meet
          case rel => exact ⟨_, ⟨HD.out⟩, ⟨HM2.out⟩, ⟨HG.out⟩⟩
      clear HD HG HBp2
      obtain ⟨E, HD, HM, HG⟩ := hcut
      have HH := Lib.hid (show Srt E mid e ∧ Srt E e b ∧ Tg E mid e b from by
        have q_ := merged_hi HA.out HB.out HT.out HCUT.out (by omega) (by omega) (by omega) (by rw [HEE.out]; exact HM.out.sm)
        rw [HEE.out] at q_
        exact q_)
      go_upto_region 43 with fail
      go_cut [213] from 25 (fun v w => v = .bool (decide (mid < e ∧ e < b)) ∧ Aside0 (Hd w g n E) ∧ Aside0 (W.grownBy w (some g)))
      case first => as_aux_lemma =>
        by_cases p3a : mid < e
        · have p3x : (mid : Int) < (e : Int) := by omega
          by_cases p3b : e < b
          · have p3y : (e : Int) < (b : Int) := by omega
            go_wp2
            go_meet
            case rel => exact ⟨by rw [decide_eq_true (show mid < e ∧ e < b from ⟨p3a, p3b⟩)], ⟨HD.out⟩, ⟨HG.out⟩⟩
          · have p3y : ¬ (e : Int) < (b : Int) := by omega
            go_wp2
            go_meet
            case rel => exact ⟨by rw [decide_eq_false (show ¬ (mid < e ∧ e < b) from fun h_ => p3b h_.2)], ⟨HD.out⟩, ⟨HG.out⟩⟩
        · have p3x : ¬ (mid : Int) < (e : Int) := by omega
          go_wp2
          go_meet
          case rel => exact ⟨by rw [decide_eq_false (show ¬ (mid < e ∧ e < b) from fun h_ => p3a h_.1)], ⟨HD.out⟩, ⟨HG.out⟩⟩
      clear HD HG
      obtain ⟨rfl, HD, HG⟩ := hcut
      obtain ⟨bp3, hbp3⟩ : ∃ q_ : Bool, decide (mid < e ∧ e < b) = q_ := ⟨_, rfl⟩
      rw [hbp3]
      have HBp3 := Lib.hid hbp3
      clear hbp3
      cases bp3 with
      | true =>
        as_aux_lemma =>
        have q1 := of_decide_eq_true HBp3.out
        have HCB := Lib.hid (IH.out E mid e b wc (by omega) q1.1 q1.2 (by omega) HH.out.1 HH.out.2.1 HH.out.2.2 HD.out)
        go_wp2_with (go_at_call 84; refine HCB.out.mono ?_; rintro ee w4 ⟨rfl, F, hd4, hm4, hg4⟩)
        exact ⟨rfl, _, results_none (by kernel_rfl) _ _ _, rfl, F, hd4, merged HA.out HB.out HT.out HCUT.out (by omega) (by omega) (by omega) (by omega) (by rw [HEE.out]; exact HM.out) hm4, HG.out.trans hg4⟩
      | false =>
        as_aux_lemma =>
        have HM2 := Lib.hid (show Mg E E mid b from by
          have q1 := of_decide_eq_false HBp3.out
          refine ⟨?_, Sm.refl _ _ _⟩
          rcases (show e = mid ∨ e = b by omega) with q_ | q_
          · have := HH.out.2.1; rw [q_] at this; exact this
          · have := HH.out.1; rw [q_] at this; exact this)
        go_wp2
        exact ⟨rfl, _, results_none (by kernel_rfl) _ _ _, rfl, E, HD.out, merged HA.out HB.out HT.out HCUT.out (by omega) (by omega) (by omega) (by omega) (by rw [HEE.out]; exact HM.out) HM2.out, HG.out⟩
  

/-- slices.symMergeCmpFunc at dates. -/
theorem symMerge_any (g n cap : Nat) (hn : n ≤ 1000) (q : Nat) : ∀ (D : Nat → Dt) (a m b : Nat) (W : World), b - a ≤ q → a < m → m < b → b ≤ n → Srt D a m → Srt D m b → Tg D a m b → Hd W g n D → Calls Tryz.prog 84 #[.slice (some ⟨g, 0, none⟩) n cap, .int .i64 a, .int .i64 m, .int .i64 b, .func (.func 22) #[] #[]] W (RMg D g n a b W) := by
  induction q with
  | zero => intro D a m b W hq h1 h2 _ _ _ _ _; omega
  | succ q ih =>
    intro D a m b W hq h1 h2 h3 hA hB hT h
    by_cases c1 : m = a + 1
    · subst c1
      exact sym1 g n cap hn D a b h2 h3 hB hT W h
    · by_cases c2 : b = m + 1
      · subst c2
        exact sym2 g n cap hn D a m (by omega) h3 hA hT W h
      · by_cases c3 : (a + b) / 2 < m
        · exact sym3t g n cap hn q ih D a m b hq (by omega) (by omega) c3 h3 hA hB hT W h
        · exact sym3f g n cap hn q ih D a m b hq (by omega) (by omega) c3 h3 hA hB hT W h
end Go.Proofs.YtafigkikblpbnaaGreatDoor.PG
namespace Go.Proofs.YtafigkikblpbnaaGreatDoor.PG
open Go.RowKit Go.Proofs.YtafigkikblpbnaaGreatDoorW.PrintWords Go.Proofs.YtafigkikblpbnaaGreatDoorW.PrintLast Go.Proofs.YtafigkikblpbnaaGreatDoorW.PrintMore
set_option linter.unusedVariables false
set_option linter.unusedSimpArgs false
set_option maxRecDepth 100000

/-- Behind the insertions. -/
def Pre (D F : Nat → Dt) (n : Nat) : Prop := (n ≤ 20 → Mg D F 0 n) ∧ (20 < n → Srt F 0 20 ∧ Srt F 20 n ∧ Tg F 0 20 n ∧ Sm D F 0 n)
theorem pre0 {D F : Nat → Dt} {n : Nat} (h : n < 20) (hm : Mg D F 0 n) : Pre D F n := ⟨fun _ => hm, fun h2 => by omega⟩
theorem pre20 {D E F : Nat → Dt} {n : Nat} (h : 20 ≤ n) (hg : ∀ k, k < n → (D k).g = k) (h1 : Mg D E 0 20) (h2 : Mg E F 20 n) : Pre D F n := by
  have hlo : ∀ i, i < 20 → F i = E i := fun i hi => h2.sm.out i (by omega)
  have hs1 : Srt F 0 20 := fun i j i1 i2 i3 => by rw [hlo i (by omega), hlo j i3]; exact h1.srt i j i1 i2 i3
  have hsm : Sm D F 0 n := (h1.sm.wider (Nat.le_refl _) h).trans (h2.sm.wider (Nat.zero_le _) (Nat.le_refl _))
  refine ⟨fun h3 => ?_, fun h3 => ⟨hs1, h2.srt, fun i j i1 i2 i3 i4 => ?_, hsm⟩⟩
  · have : n = 20 := by omega
    subst this
    exact ⟨hs1, hsm⟩
  · rw [hlo i i2]
    obtain ⟨x, x1, x2, ex⟩ := h1.sm.fwd i i1 i2
    obtain ⟨y, y1, y2, ey⟩ := h2.sm.fwd j i3 i4
    rw [ex, ey, h1.sm.out y (by omega), hg x (by omega), hg y (by omega)]
    omega
set_option maxHeartbeats 4000000 in
/-- slices.stableCmpFunc at dates. -/
theorem stable_any (g n cap : Nat) (hn : n ≤ 24) (D : Nat → Dt) (hg : ∀ k, k < n → (D k).g = k) (W : World) (h : Hd W g n D) :
    Calls Tryz.prog 48 #[.slice (some ⟨g, 0, none⟩) n cap, .int .i64 n, .func (.func 22) #[] #[]] W (RMg D g n 0 n W) := by
  have H0 := Lib.hid h
  have HTG := Lib.hid hg
  clear h hg
  have kw1 : IntKind.i64.wrap 40 = 40 := by rw [IntKind.wrap_i64]; omega
  go_enter Tryz.func48, Tryz.ntmps48
  go_wp2
  go_loopw [7, 8] (fun v7 v8 wr => (v7 = .int .i64 0 ∧ v8 = .int .i64 20 ∧ Aside0 (Hd wr g n D) ∧ Aside0 (W.grownBy wr (some g))) ∨ (v7 = .int .i64 20 ∧ v8 = .int .i64 40 ∧ 20 ≤ n ∧ ∃ E, Aside0 (Hd wr g n E) ∧ Aside0 (Mg D E 0 20) ∧ Aside0 (W.grownBy wr (some g)))) (fun v7 _ _ => 40 - (intOf v7).toNat)
  case atStart => exact .inl ⟨by first | rfl | go_num, by first | rfl | go_num, ⟨H0.out⟩, ⟨World.grownBy.refl _ _⟩⟩
  case round =>
    clear H0
    rcases hrel with ⟨rfl, rfl, HD, HG⟩ | ⟨rfl, rfl, h20, E, HD, HM, HG⟩
    · by_cases c20 : 20 ≤ n
      · have c20a : (20 : Int) ≤ (n : Int) := by omega
        have HIN := Lib.hid (insertion_any g n cap (by omega) D 0 20 (by omega) c20 (fun i j i1 i2 i3 => by rw [HTG.out i (by omega), HTG.out j (by omega)]; exact i2) wr HD.out)
        go_wp2_with (go_at_call 83; refine HIN.out.mono ?_; rintro ee w2 ⟨rfl, F2, hd2, hm2, hg2⟩)
        go_roundw
        case rel => exact .inr ⟨by first | rfl | go_num, by first | rfl | go_num, c20, F2, ⟨hd2⟩, ⟨hm2⟩, ⟨HG.out.trans hg2⟩⟩
        case measure => simp [intOf]
      · have c20a : ¬ (20 : Int) ≤ (n : Int) := by omega
        have HIN := Lib.hid (insertion_any g n cap (by omega) D 0 n (by omega) (Nat.le_refl _) (fun i j i1 i2 i3 => by rw [HTG.out i (by omega), HTG.out j (by omega)]; exact i2) wr HD.out)
        go_wp2_with (go_at_call 83; refine HIN.out.mono ?_; rintro ee w2 ⟨rfl, F, hd2, hm2, hg2⟩)
        have HD2 := Lib.hid hd2
        have HP2 := Lib.hid (pre0 (by omega) hm2)
        have HG2 := Lib.hid (HG.out.trans hg2)
        clear hd2 hm2 hg2 HD HG HIN
        go_loopw [6] (fun v6 wr => (v6 = .int .i64 20 ∧ ∃ F, Aside0 (Hd wr g n F) ∧ Aside0 (Pre D F n) ∧ Aside0 (W.grownBy wr (some g))) ∨ (v6 = .int .i64 40 ∧ ∃ F, Aside0 (Hd wr g n F) ∧ Aside0 (Mg D F 0 n) ∧ Aside0 (W.grownBy wr (some g)))) (fun v6 _ => 40 - (intOf v6).toNat)
        case atStart => exact .inl ⟨by first | rfl | go_num, F, ⟨HD2.out⟩, ⟨HP2.out⟩, ⟨HG2.out⟩⟩
        case round =>
          clear HD2 HP2 HG2
          rcases hrel with ⟨rfl, F, HD, HP, HG⟩ | ⟨rfl, F, HD, HM, HG⟩
          · by_cases c21 : 20 < n
            · exfalso; omega
            · have c20a : ¬ (20 : Int) < (n : Int) := by omega
              go_wp2
              exact ⟨rfl, _, results_none (by kernel_rfl) _ _ _, rfl, F, HD.out, HP.out.1 (by omega), HG.out⟩
          · have c40a : ¬ (40 : Int) < (n : Int) := by omega
            go_wp2
            exact ⟨rfl, _, results_none (by kernel_rfl) _ _ _, rfl, F, HD.out, HM.out, HG.out⟩

    · have c40a : ¬ (40 : Int) ≤ (n : Int) := by omega
      have HIN := Lib.hid (insertion_any g n cap (by omega) E 20 n h20 (Nat.le_refl _) (fun i j i1 i2 i3 => by rw [HM.out.sm.out i (by omega), HM.out.sm.out j (by omega), HTG.out i (by omega), HTG.out j (by omega)]; exact i2) wr HD.out)
      go_wp2_with (go_at_call 83; refine HIN.out.mono ?_; rintro ee w2 ⟨rfl, F, hd2, hm2, hg2⟩)
      have HD2 := Lib.hid hd2
      have HP2 := Lib.hid (pre20 h20 HTG.out HM.out hm2)
      have HG2 := Lib.hid (HG.out.trans hg2)
      clear hd2 hm2 hg2 HD HM HG HIN
      go_loopw [6] (fun v6 wr => (v6 = .int .i64 20 ∧ ∃ F, Aside0 (Hd wr g n F) ∧ Aside0 (Pre D F n) ∧ Aside0 (W.grownBy wr (some g))) ∨ (v6 = .int .i64 40 ∧ ∃ F, Aside0 (Hd wr g n F) ∧ Aside0 (Mg D F 0 n) ∧ Aside0 (W.grownBy wr (some g)))) (fun v6 _ => 40 - (intOf v6).toNat)
      case atStart => exact .inl ⟨by first | rfl | go_num, F, ⟨HD2.out⟩, ⟨HP2.out⟩, ⟨HG2.out⟩⟩
      case round =>
        clear HD2 HP2 HG2
        rcases hrel with ⟨rfl, F, HD, HP, HG⟩ | ⟨rfl, F, HD, HM, HG⟩
        · by_cases c20 : 20 < n
          · have c20a : (20 : Int) < (n : Int) := by omega
            have c40a : ¬ (40 : Int) ≤ (n : Int) := by omega
            go_wp2
            go_loopw [7, 8] (fun v7 v8 w_ => v7 = .int .i64 0 ∧ v8 = .int .i64 40 ∧ w_ = wr) (fun _ _ _ => 0)
            case atStart => exact ⟨by first | rfl | go_num, by first | rfl | go_num, rfl⟩
            case round =>
              obtain ⟨rfl, rfl, rfl⟩ := hrel
              have HSM := Lib.hid (symMerge_any g n cap (by omega) n F 0 20 n wr (by omega) (by omega) c20 (Nat.le_refl _) (HP.out.2 c20).1 (HP.out.2 c20).2.1 (HP.out.2 c20).2.2.1 HD.out)
              go_wp2_with (go_at_call 84; refine HSM.out.mono ?_; rintro ee w2 ⟨rfl, F2, hd2, hm2, hg2⟩)
              go_roundw
              case rel => exact .inr ⟨by first | rfl | go_num, F2, ⟨hd2⟩, ⟨(HP.out.2 c20).2.2.2.trans hm2.sm |> fun q_ => ⟨hm2.srt, q_⟩⟩, ⟨HG.out.trans hg2⟩⟩
              case measure => simp [intOf]
          · have c20a : ¬ (20 : Int) < (n : Int) := by omega
            go_wp2
            exact ⟨rfl, _, results_none (by kernel_rfl) _ _ _, rfl, F, HD.out, HP.out.1 (by omega), HG.out⟩
        · have c40a : ¬ (40 : Int) < (n : Int) := by omega
          go_wp2
          exact ⟨rfl, _, results_none (by kernel_rfl) _ _ _, rfl, F, HD.out, HM.out, HG.out⟩

set_option maxHeartbeats 1000000 in
/-- slices.SortStableFunc at dates. -/
theorem sortStable_any (g n cap : Nat) (hn : n ≤ 24) (D : Nat → Dt) (hg : ∀ k, k < n → (D k).g = k) (W : World) (h : Hd W g n D) :
    Calls Tryz.prog 21 #[.slice (some ⟨g, 0, none⟩) n cap, .func (.func 22) #[] #[]] W (RMg D g n 0 n W) := by
  have HST := Lib.hid (stable_any g n cap hn D hg W h)
  clear h hg
  go_enter Tryz.func21, Tryz.ntmps21
  go_wp2_with (go_at_call 48; refine HST.out.mono ?_; rintro ee w2 ⟨rfl, F2, hd2, hm2, hg2⟩)
  exact ⟨rfl, _, results_none (by kernel_rfl) _ _ _, rfl, F2, hd2, hm2, hg2⟩

/-- What a sort brings about is one thing. -/
theorem Mg.uniq {D E F : Nat → Dt} {n : Nat} (h1 : Mg D E 0 n) (h2 : Mg D F 0 n) : ∀ i, i < n → E i = F i := by
  have irr : ∀ a : Dt, ¬ a.lt a := fun a h => by unfold Dt.lt at h; omega
  intro i
  induction i using Nat.strongRecOn with
  | ind i ih =>
    intro hi
    obtain ⟨x, x1, x2, ex⟩ := h1.sm.fwd i (Nat.zero_le _) hi
    obtain ⟨j, j1, j2, ej⟩ := h2.sm.bwd x x1 x2
    obtain ⟨y, y1, y2, ey⟩ := h2.sm.fwd i (Nat.zero_le _) hi
    obtain ⟨k, k1, k2, ek⟩ := h1.sm.bwd y y1 y2
    have e1 : E i = F j := ex.trans ej
    have e2 : F i = E k := ey.trans ek
    rcases Nat.lt_trichotomy j i with c | c | c
    · have e3 := ih j c j2
      exact absurd (h1.srt j i (Nat.zero_le _) c hi) (by rw [e3, ← e1]; exact irr _)
    · rw [e1, c]
    · rcases Nat.lt_trichotomy k i with c2 | c2 | c2
      · have e3 := ih k c2 k2
        exact absurd (h2.srt k i (Nat.zero_le _) c2 hi) (by rw [← e3, ← e2]; exact irr _)
      · rw [e2, c2]
      · have g1 := h2.srt i j (Nat.zero_le _) c j2
        have g2 := h1.srt i k (Nat.zero_le _) c2 k2
        rw [← e1] at g1
        rw [← e2] at g2
        exact absurd (Dt.lt_trans (a := F i) (b := E i) (c := F i) g1 g2) (irr _)
/-- A date's kind. -/
def k50 : Kd (Int × ByteArray) := Kd.pair (Kd.int .i64) Kd.string
/-- The list's dates, each with its place. -/
def dl (xs : List (Int × ByteArray)) (j : Nat) : Dt := ⟨(xs.getD j (0, ⟨#[]⟩)).1, (xs.getD j (0, ⟨#[]⟩)).2, j⟩
theorem k50_M (w : World) (base : Nat) (ok : Nat → Prop) (p : Int × ByteArray) : k50.M w base ok p [.int .i64 p.1, .string p.2] := ⟨[.int .i64 p.1], [.string p.2], rfl, rfl, rfl⟩
/-- A row of dates, as a value has it. -/
def Hs (w : World) (v : Value) (n : Nat) (E : Nat → Dt) : Prop := ∃ A cap, v = .slice A n cap ∧ (n = 0 ∨ ∃ g, A = some ⟨g, 0, none⟩ ∧ Hd w g n E)
theorem hd_of {w : World} {base : Nat} {ok : Nat → Prop} {v : Value} {xs : List (Int × ByteArray)} (h : k50.R 50 w base ok v xs) : (v = .slice none 0 0 ∧ xs = []) ∨ ∃ g cap, v = .slice (some ⟨g, 0, none⟩) xs.length cap ∧ base ≤ g ∧ Hd w g xs.length (dl xs) := by
  obtain ⟨_, inner, ⟨hlen, ho⟩, hl, hr⟩ := h
  rcases ho with ⟨rfl, hn⟩ | ⟨g, cap, cur, rfl, hg, hb, hc1, _, hc3, hc4⟩
  · exact .inl ⟨rfl, List.eq_nil_of_length_eq_zero hn⟩
  · refine .inr ⟨g, cap, rfl, hg, cur, hb, ?_, fun j hj => ?_⟩
    · rw [hc3]; exact Nat.mul_le_mul_right _ hc1
    · obtain ⟨c0, c1, hcc, h0, h1⟩ := hr j _ (List.getElem?_eq_getElem hj)
      have h0' : c0 = [.int .i64 (xs[j]).1] := h0
      have h1' : c1 = [.string (xs[j]).2] := h1
      rw [h0', h1'] at hcc
      have hd : dl xs j = ⟨(xs[j]).1, (xs[j]).2, j⟩ := by
        unfold dl
        rw [List.getD_eq_getElem?_getD, List.getElem?_eq_getElem hj]
        rfl
      rw [hd]
      have hin : ∀ i, i < 2 → cur[j * 2 + i]? = ((inner.drop (j * 2)).take 2)[i]? := fun i hi => by
        rw [List.getElem?_take, if_pos hi, List.getElem?_drop, ← hc4, List.getElem?_take, if_pos (by show j * 2 + i < xs.length * 2; omega)]
        exact (Array.getElem?_toList).symm
      have e2 : (inner.drop (j * 2)).take 2 = [.int .i64 (xs[j]).1, .string (xs[j]).2] := hcc
      rw [e2] at hin
      exact ⟨hin 0 (by omega), hin 1 (by omega)⟩
set_option maxHeartbeats 1000000 in
theorem insertion_nil (W : World) : Calls Tryz.prog 83 #[.slice none 0 0, .int .i64 0, .int .i64 0, .func (.func 22) #[] #[]] W fun e w' => e = .returned (.tuple #[]) ∧ w' = W := by
  go_enter Tryz.func83, Tryz.ntmps83
  go_wp2
  go_loopw [8] (fun v8 wr => v8 = .int .i64 1 ∧ wr = W) (fun _ _ => 0)
  case atStart => exact ⟨by first | rfl | go_num, rfl⟩
  case round =>
    obtain ⟨rfl, rfl⟩ := hrel
    go_wp2
    exact ⟨rfl, _, results_none (by kernel_rfl) _ _ _, rfl, rfl⟩
set_option maxHeartbeats 1000000 in
theorem stable_nil (W : World) : Calls Tryz.prog 48 #[.slice none 0 0, .int .i64 0, .func (.func 22) #[] #[]] W fun e w' => e = .returned (.tuple #[]) ∧ w' = W := by
  have HIN := Lib.hid insertion_nil
  go_enter Tryz.func48, Tryz.ntmps48
  go_wp2
  go_loopw [7, 8] (fun v7 v8 wr => v7 = .int .i64 0 ∧ v8 = .int .i64 20 ∧ wr = W) (fun _ _ _ => 0)
  case atStart => exact ⟨by first | rfl | go_num, by first | rfl | go_num, rfl⟩
  case round =>
    obtain ⟨rfl, rfl, rfl⟩ := hrel
    go_wp2_with (go_at_call 83; refine (HIN.out _).mono ?_; rintro ee w2 ⟨rfl, rfl⟩)
    go_loopw [6] (fun v6 w_ => v6 = .int .i64 20 ∧ w_ = w2) (fun _ _ => 0)
    case atStart => exact ⟨by first | rfl | go_num, rfl⟩
    case round =>
      obtain ⟨rfl, rfl⟩ := hrel
      go_wp2
      exact ⟨rfl, _, results_none (by kernel_rfl) _ _ _, rfl, rfl⟩
set_option maxHeartbeats 1000000 in
theorem sortStable_nil (W : World) : Calls Tryz.prog 21 #[.slice none 0 0, .func (.func 22) #[] #[]] W fun e w' => e = .returned (.tuple #[]) ∧ w' = W := by
  have HST := Lib.hid stable_nil
  go_enter Tryz.func21, Tryz.ntmps21
  go_wp2_with (go_at_call 48; refine (HST.out _).mono ?_; rintro ee w2 ⟨rfl, rfl⟩)
  exact ⟨rfl, _, results_none (by kernel_rfl) _ _ _, rfl, rfl⟩
/-- slices.SortStableFunc at a row of dates. -/
theorem sort_row {W : World} {base : Nat} {ok : Nat → Prop} {v : Value} {xs : List (Int × ByteArray)} (h : k50.R 50 W base ok v xs) (hn : xs.length ≤ 24) :
    Calls Tryz.prog 21 #[v, .func (.func 22) #[] #[]] W fun e w' => e = .returned (.tuple #[]) ∧ (∃ E, Mg (dl xs) E 0 xs.length ∧ Hs w' v xs.length E) ∧ W.grownBy w' v.ownBlock ∧ ∀ k, v.ownBlock = some k → base ≤ k := by
  rcases hd_of h with ⟨rfl, rfl⟩ | ⟨g, cap, rfl, hg, hd⟩
  · refine (sortStable_nil W).mono ?_
    rintro e w' ⟨rfl, rfl⟩
    exact ⟨rfl, ⟨dl [], ⟨fun i j _ _ h3 => absurd h3 (Nat.not_lt_zero _), Sm.refl _ _ _⟩, none, 0, rfl, .inl rfl⟩, World.grownBy.refl _ _, fun k hk => by simp [Value.ownBlock] at hk⟩
  · refine (sortStable_any g xs.length cap hn (dl xs) (fun k _ => rfl) W hd).mono ?_
    rintro e w' ⟨rfl, E, hd2, hm2, hg2⟩
    exact ⟨rfl, ⟨E, hm2, _, _, rfl, .inr ⟨g, rfl, hd2⟩⟩, hg2, fun k hk => by simp [Value.ownBlock] at hk; omega⟩
end Go.Proofs.YtafigkikblpbnaaGreatDoor.PG
namespace Go.Proofs.YtafigkikblpbnaaGreatDoor.PG
open Go.RowKit Go.Proofs.YtafigkikblpbnaaGreatDoorW.PrintWords Go.Proofs.YtafigkikblpbnaaGreatDoorW.PrintLast Go.Proofs.YtafigkikblpbnaaGreatDoorW.PrintMore
set_option linter.unusedVariables false
set_option linter.unusedSimpArgs false
set_option maxRecDepth 100000
/-- How many records of a kind are in a state. -/
def stN (P : S48 → Bool) (l : List S48) (j : Int) : Nat := (l.filter fun r => P r && decide (r.f5 = j)).length
theorem stN_le (P : S48 → Bool) (l : List S48) (j : Int) : stN P l j ≤ l.length := List.length_filter_le _ _
theorem stN_snoc (P : S48 → Bool) (l : List S48) (y : S48) (j : Int) : stN P (l ++ [y]) j = stN P l j + (if (P y && decide (y.f5 = j)) = true then 1 else 0) := by
  unfold stN
  rw [List.filter_append, List.length_append, List.filter_cons]
  split <;> simp [*]
theorem take_rd48 {l : List S48} {k : Nat} (h : k < l.length) : l.take (k + 1) = l.take k ++ [rd_T48 l (k : Int)] := by
  have : rd_T48 l (k : Int) = l[k] := by unfold rd_T48; rw [Int.toNat_natCast, List.getD_eq_getElem?_getD, List.getElem?_eq_getElem h]; rfl
  rw [this, List.take_succ_eq_append_getElem h]
/-- Four numbers, a blank between. -/
def tx4 (f : Int → Nat) : ByteArray := tellS (f 1) ++ ⟨#[32]⟩ ++ tellS (f 2) ++ ⟨#[32]⟩ ++ tellS (f 3) ++ ⟨#[32]⟩ ++ tellS (f 4)
/-- A record's kind: its class, or any. -/
def cls (all : Bool) (cl : ByteArray) (r : S48) : Bool := all || (r.f3.toList == cl.toList)
end Go.Proofs.YtafigkikblpbnaaGreatDoor.PG
namespace Go.Proofs.YtafigkikblpbnaaGreatDoor.PG
open Go.RowKit Go.Proofs.YtafigkikblpbnaaGreatDoorW.PrintWords Go.Proofs.YtafigkikblpbnaaGreatDoorW.PrintLast Go.Proofs.YtafigkikblpbnaaGreatDoorW.PrintMore
set_option linter.unusedVariables false
set_option linter.unusedSimpArgs false
set_option maxRecDepth 100000
theorem tab28_1 : rtab .any (opsOf Tryz.f28 1) = (true, [([], []), ([], []), ([1], [1]), ([2], [2]), ([0], [0]), ([4, 3], [3, 4]), ([5], [5]), ([6], [6]), ([0], [0]), ([8, 3, 0, 1, 2, 3, 4, 5, 6, 7], [3, 8]), ([9, 7, 0, 1, 2, 3, 4, 5, 6, 7], [7, 9])]) := by kernel_rfl

def bump (n : Int → Nat) (j : Int) (i : Int) : Nat := n i + (if i = j then 1 else 0)
set_option maxHeartbeats 1000000 in
theorem add_eq1 (g : Nat) (n : Int → Nat) (hn : n 1 ≤ 1000) (r0 r1 r2 r3 : ByteArray) (r4 : Int) (W : World) (hg : W.heap[g]? = some (.cells #[.int .i64 (n 1 : Nat), .int .i64 (n 2 : Nat), .int .i64 (n 3 : Nat), .int .i64 (n 4 : Nat)] 65 (0, 0))) :
    Calls Tryz.prog 28 #[.pointer (some ⟨g, 0, none⟩), .agg #[.string r0, .string r1, .string r2, .string r3, .int .i64 r4, .int .i64 1]] W fun e w' => e = .returned (.tuple #[]) ∧ w'.heap[g]? = some (.cells #[.int .i64 ((bump n 1) 1 : Nat), .int .i64 ((bump n 1) 2 : Nat), .int .i64 ((bump n 1) 3 : Nat), .int .i64 ((bump n 1) 4 : Nat)] 65 (0, 0)) ∧ W.grownBy w' (some g) := by
  have HB := below_alloc (Below.refl W.heap.size W) (.cells #[.string r0, .string r1, .string r2, .string r3, .int .i64 r4, .int .i64 1] 48 (0, 0))
  have HC := new_blk W (.cells #[.string r0, .string r1, .string r2, .string r3, .int .i64 r4, .int .i64 1] 48 (0, 0))
  have HG := Lib.hid ((HB.block g (blk_lt hg)).trans hg)
  have HL := Lib.hid (blk_lt hg)
  have HBH := Lib.hid HB
  have x5 : ((W.alloc (.cells #[.string r0, .string r1, .string r2, .string r3, .int .i64 r4, .int .i64 1] 48 (0, 0))).drew).cell? ⟨W.heap.size, 5, none⟩ = some (.int .i64 1) := (blk_cell HC 5).trans rfl
  have c0 : ((W.alloc (.cells #[.string r0, .string r1, .string r2, .string r3, .int .i64 r4, .int .i64 1] 48 (0, 0))).drew).cell? ⟨g, 0, none⟩ = some (.int .i64 (n 1 : Nat)) := (blk_cell HG.out 0).trans rfl
  have f0 : ((W.alloc (.cells #[.string r0, .string r1, .string r2, .string r3, .int .i64 r4, .int .i64 1] 48 (0, 0))).drew).frozen? ⟨g, 0, none⟩ = false := blk_frozen HG.out 0
  have hn2 : (n 1 : Int) ≤ 1000 := by omega
  have wq : IntKind.i64.wrap 0 = 0 := by kernel_rfl
  have hw : IntKind.i64.wrap ((n 1 : Int) + 1) = (n 1 : Int) + 1 := by rw [IntKind.wrap_i64]; omega
  clear HB HC hg
  go_enter Tryz.func28, Tryz.ntmps28
  go_wp2_with fail
  refine WL.start (n := 11) (ds := [10]) (S := fun w' => w'.cell? ⟨W.heap.size, 5, none⟩ = some (.int .i64 1) ∧ w'.cell? ⟨g, 0, none⟩ = some (.int .i64 (n 1 : Nat))) [false, false, false, false, false, false, false, false, false, false, false] (by kernel_rfl) rfl rfl ⟨x5, c0⟩ (fun hHeld => ?_)
  refine WL.tab tab28_1 (fun HT_ => ?_)
  refine WL.more [0, 1, 4, 8, 2, 3, 5, 6, 7, 9] ?_
  repeat (first
    | (refine WL.off (lb' := ?_) (ys := ?_) rfl rfl (by rfl) ?_ HT_.out ?_ (fun _ _ _ h => h) ?_ ?_; rotate_left 2; (focus dsimp only [List.set_cons_zero, List.set_cons_succ]; rfl); (focus kernel_rfl); (focus dsimp only [List.set_cons_zero, List.set_cons_succ]; rfl))
    | (refine WL.pure (lb' := ?_) (v := ?_) (ys := ?_) rfl rfl (by rfl) ?_ HT_.out ?_ (fun _ _ _ h => h) ?_ ?_ ?_; rotate_left 3; (focus dsimp only [List.set_cons_zero, List.set_cons_succ]; rfl); (focus kernel_rfl); (focus intro w'; go_simp; with_reducible rfl); (focus dsimp only [List.set_cons_zero, List.set_cons_succ]; rfl))
    | (refine WL.take (lb' := ?_) (v := ?_) (ys := ?_) rfl rfl (by rfl) ?_ HT_.out ?_ (fun _ _ _ h => h) hHeld ?_ ?_ ?_; rotate_left 3; (focus dsimp only [List.set_cons_zero, List.set_cons_succ]; rfl); (focus kernel_rfl); (focus rintro w' ⟨s0, s1⟩; go_simp; with_reducible rfl); (focus dsimp only [List.set_cons_zero, List.set_cons_succ]; rfl)))
  refine WL.more [10] ?_
  refine WL.last (lb' := ?_) rfl rfl ?_ HT_.out ?_ (by decide) (fun K hK => ?_); rotate_left; (focus dsimp only [List.set_cons_zero, List.set_cons_succ]; rfl); (focus kernel_rfl)
  refine skip_ (w1 := ?_) (by rfl) rfl ?_ ?_
  rotate_left
  (focus go_simp; rfl)
  refine hK.out _ _ ?_
  clear hK K
  refine WL.done HT_.out (by kernel_rfl) ?_
  have HF1 := Lib.hid (blk_put HG.out 0 (.int .i64 ((n 1 : Int) + 1)) rfl)
  have HF2 := Lib.hid (show W.grownBy (((W.alloc (.cells #[.string r0, .string r1, .string r2, .string r3, .int .i64 r4, .int .i64 1] 48 (0, 0))).setCell ⟨g, 0, none⟩ (.int .i64 ((n 1 : Int) + 1))).drew) (some g) from ⟨HBH.out.os, HBH.out.tape, HBH.out.output, by simp [World.setCell], fun k hk hne => (Below.heap_setCell _ _ _ _ (fun e => hne (congrArg some e))).trans (HBH.out.block k hk)⟩)
  clear c0 f0 x5
  go_wp2
  exact ⟨rfl, _, results_none (by kernel_rfl) _ _ _, rfl, HF1.out, HF2.out⟩
set_option maxHeartbeats 1000000 in
theorem add_eq2 (g : Nat) (n : Int → Nat) (hn : n 2 ≤ 1000) (r0 r1 r2 r3 : ByteArray) (r4 : Int) (W : World) (hg : W.heap[g]? = some (.cells #[.int .i64 (n 1 : Nat), .int .i64 (n 2 : Nat), .int .i64 (n 3 : Nat), .int .i64 (n 4 : Nat)] 65 (0, 0))) :
    Calls Tryz.prog 28 #[.pointer (some ⟨g, 0, none⟩), .agg #[.string r0, .string r1, .string r2, .string r3, .int .i64 r4, .int .i64 2]] W fun e w' => e = .returned (.tuple #[]) ∧ w'.heap[g]? = some (.cells #[.int .i64 ((bump n 2) 1 : Nat), .int .i64 ((bump n 2) 2 : Nat), .int .i64 ((bump n 2) 3 : Nat), .int .i64 ((bump n 2) 4 : Nat)] 65 (0, 0)) ∧ W.grownBy w' (some g) := by
  have HB := below_alloc (Below.refl W.heap.size W) (.cells #[.string r0, .string r1, .string r2, .string r3, .int .i64 r4, .int .i64 2] 48 (0, 0))
  have HC := new_blk W (.cells #[.string r0, .string r1, .string r2, .string r3, .int .i64 r4, .int .i64 2] 48 (0, 0))
  have HG := Lib.hid ((HB.block g (blk_lt hg)).trans hg)
  have HL := Lib.hid (blk_lt hg)
  have HBH := Lib.hid HB
  have x5 : ((W.alloc (.cells #[.string r0, .string r1, .string r2, .string r3, .int .i64 r4, .int .i64 2] 48 (0, 0))).drew).cell? ⟨W.heap.size, 5, none⟩ = some (.int .i64 2) := (blk_cell HC 5).trans rfl
  have c0 : ((W.alloc (.cells #[.string r0, .string r1, .string r2, .string r3, .int .i64 r4, .int .i64 2] 48 (0, 0))).drew).cell? ⟨g, 1, none⟩ = some (.int .i64 (n 2 : Nat)) := (blk_cell HG.out 1).trans rfl
  have f0 : ((W.alloc (.cells #[.string r0, .string r1, .string r2, .string r3, .int .i64 r4, .int .i64 2] 48 (0, 0))).drew).frozen? ⟨g, 1, none⟩ = false := blk_frozen HG.out 1
  have hn2 : (n 2 : Int) ≤ 1000 := by omega
  have wq : IntKind.i64.wrap 1 = 1 := by kernel_rfl
  have hw : IntKind.i64.wrap ((n 2 : Int) + 1) = (n 2 : Int) + 1 := by rw [IntKind.wrap_i64]; omega
  clear HB HC hg
  go_enter Tryz.func28, Tryz.ntmps28
  go_wp2_with fail
  refine WL.start (n := 11) (ds := [10]) (S := fun w' => w'.cell? ⟨W.heap.size, 5, none⟩ = some (.int .i64 2) ∧ w'.cell? ⟨g, 1, none⟩ = some (.int .i64 (n 2 : Nat))) [false, false, false, false, false, false, false, false, false, false, false] (by kernel_rfl) rfl rfl ⟨x5, c0⟩ (fun hHeld => ?_)
  refine WL.tab tab28_1 (fun HT_ => ?_)
  refine WL.more [0, 1, 4, 8, 2, 3, 5, 6, 7, 9] ?_
  repeat (first
    | (refine WL.off (lb' := ?_) (ys := ?_) rfl rfl (by rfl) ?_ HT_.out ?_ (fun _ _ _ h => h) ?_ ?_; rotate_left 2; (focus dsimp only [List.set_cons_zero, List.set_cons_succ]; rfl); (focus kernel_rfl); (focus dsimp only [List.set_cons_zero, List.set_cons_succ]; rfl))
    | (refine WL.pure (lb' := ?_) (v := ?_) (ys := ?_) rfl rfl (by rfl) ?_ HT_.out ?_ (fun _ _ _ h => h) ?_ ?_ ?_; rotate_left 3; (focus dsimp only [List.set_cons_zero, List.set_cons_succ]; rfl); (focus kernel_rfl); (focus intro w'; go_simp; with_reducible rfl); (focus dsimp only [List.set_cons_zero, List.set_cons_succ]; rfl))
    | (refine WL.take (lb' := ?_) (v := ?_) (ys := ?_) rfl rfl (by rfl) ?_ HT_.out ?_ (fun _ _ _ h => h) hHeld ?_ ?_ ?_; rotate_left 3; (focus dsimp only [List.set_cons_zero, List.set_cons_succ]; rfl); (focus kernel_rfl); (focus rintro w' ⟨s0, s1⟩; go_simp; with_reducible rfl); (focus dsimp only [List.set_cons_zero, List.set_cons_succ]; rfl)))
  refine WL.more [10] ?_
  refine WL.last (lb' := ?_) rfl rfl ?_ HT_.out ?_ (by decide) (fun K hK => ?_); rotate_left; (focus dsimp only [List.set_cons_zero, List.set_cons_succ]; rfl); (focus kernel_rfl)
  refine skip_ (w1 := ?_) (by rfl) rfl ?_ ?_
  rotate_left
  (focus go_simp; rfl)
  refine hK.out _ _ ?_
  clear hK K
  refine WL.done HT_.out (by kernel_rfl) ?_
  have HF1 := Lib.hid (blk_put HG.out 1 (.int .i64 ((n 2 : Int) + 1)) rfl)
  have HF2 := Lib.hid (show W.grownBy (((W.alloc (.cells #[.string r0, .string r1, .string r2, .string r3, .int .i64 r4, .int .i64 2] 48 (0, 0))).setCell ⟨g, 1, none⟩ (.int .i64 ((n 2 : Int) + 1))).drew) (some g) from ⟨HBH.out.os, HBH.out.tape, HBH.out.output, by simp [World.setCell], fun k hk hne => (Below.heap_setCell _ _ _ _ (fun e => hne (congrArg some e))).trans (HBH.out.block k hk)⟩)
  clear c0 f0 x5
  go_wp2
  exact ⟨rfl, _, results_none (by kernel_rfl) _ _ _, rfl, HF1.out, HF2.out⟩
set_option maxHeartbeats 1000000 in
theorem add_eq3 (g : Nat) (n : Int → Nat) (hn : n 3 ≤ 1000) (r0 r1 r2 r3 : ByteArray) (r4 : Int) (W : World) (hg : W.heap[g]? = some (.cells #[.int .i64 (n 1 : Nat), .int .i64 (n 2 : Nat), .int .i64 (n 3 : Nat), .int .i64 (n 4 : Nat)] 65 (0, 0))) :
    Calls Tryz.prog 28 #[.pointer (some ⟨g, 0, none⟩), .agg #[.string r0, .string r1, .string r2, .string r3, .int .i64 r4, .int .i64 3]] W fun e w' => e = .returned (.tuple #[]) ∧ w'.heap[g]? = some (.cells #[.int .i64 ((bump n 3) 1 : Nat), .int .i64 ((bump n 3) 2 : Nat), .int .i64 ((bump n 3) 3 : Nat), .int .i64 ((bump n 3) 4 : Nat)] 65 (0, 0)) ∧ W.grownBy w' (some g) := by
  have HB := below_alloc (Below.refl W.heap.size W) (.cells #[.string r0, .string r1, .string r2, .string r3, .int .i64 r4, .int .i64 3] 48 (0, 0))
  have HC := new_blk W (.cells #[.string r0, .string r1, .string r2, .string r3, .int .i64 r4, .int .i64 3] 48 (0, 0))
  have HG := Lib.hid ((HB.block g (blk_lt hg)).trans hg)
  have HL := Lib.hid (blk_lt hg)
  have HBH := Lib.hid HB
  have x5 : ((W.alloc (.cells #[.string r0, .string r1, .string r2, .string r3, .int .i64 r4, .int .i64 3] 48 (0, 0))).drew).cell? ⟨W.heap.size, 5, none⟩ = some (.int .i64 3) := (blk_cell HC 5).trans rfl
  have c0 : ((W.alloc (.cells #[.string r0, .string r1, .string r2, .string r3, .int .i64 r4, .int .i64 3] 48 (0, 0))).drew).cell? ⟨g, 2, none⟩ = some (.int .i64 (n 3 : Nat)) := (blk_cell HG.out 2).trans rfl
  have f0 : ((W.alloc (.cells #[.string r0, .string r1, .string r2, .string r3, .int .i64 r4, .int .i64 3] 48 (0, 0))).drew).frozen? ⟨g, 2, none⟩ = false := blk_frozen HG.out 2
  have hn2 : (n 3 : Int) ≤ 1000 := by omega
  have wq : IntKind.i64.wrap 2 = 2 := by kernel_rfl
  have hw : IntKind.i64.wrap ((n 3 : Int) + 1) = (n 3 : Int) + 1 := by rw [IntKind.wrap_i64]; omega
  clear HB HC hg
  go_enter Tryz.func28, Tryz.ntmps28
  go_wp2_with fail
  refine WL.start (n := 11) (ds := [10]) (S := fun w' => w'.cell? ⟨W.heap.size, 5, none⟩ = some (.int .i64 3) ∧ w'.cell? ⟨g, 2, none⟩ = some (.int .i64 (n 3 : Nat))) [false, false, false, false, false, false, false, false, false, false, false] (by kernel_rfl) rfl rfl ⟨x5, c0⟩ (fun hHeld => ?_)
  refine WL.tab tab28_1 (fun HT_ => ?_)
  refine WL.more [0, 1, 4, 8, 2, 3, 5, 6, 7, 9] ?_
  repeat (first
    | (refine WL.off (lb' := ?_) (ys := ?_) rfl rfl (by rfl) ?_ HT_.out ?_ (fun _ _ _ h => h) ?_ ?_; rotate_left 2; (focus dsimp only [List.set_cons_zero, List.set_cons_succ]; rfl); (focus kernel_rfl); (focus dsimp only [List.set_cons_zero, List.set_cons_succ]; rfl))
    | (refine WL.pure (lb' := ?_) (v := ?_) (ys := ?_) rfl rfl (by rfl) ?_ HT_.out ?_ (fun _ _ _ h => h) ?_ ?_ ?_; rotate_left 3; (focus dsimp only [List.set_cons_zero, List.set_cons_succ]; rfl); (focus kernel_rfl); (focus intro w'; go_simp; with_reducible rfl); (focus dsimp only [List.set_cons_zero, List.set_cons_succ]; rfl))
    | (refine WL.take (lb' := ?_) (v := ?_) (ys := ?_) rfl rfl (by rfl) ?_ HT_.out ?_ (fun _ _ _ h => h) hHeld ?_ ?_ ?_; rotate_left 3; (focus dsimp only [List.set_cons_zero, List.set_cons_succ]; rfl); (focus kernel_rfl); (focus rintro w' ⟨s0, s1⟩; go_simp; with_reducible rfl); (focus dsimp only [List.set_cons_zero, List.set_cons_succ]; rfl)))
  refine WL.more [10] ?_
  refine WL.last (lb' := ?_) rfl rfl ?_ HT_.out ?_ (by decide) (fun K hK => ?_); rotate_left; (focus dsimp only [List.set_cons_zero, List.set_cons_succ]; rfl); (focus kernel_rfl)
  refine skip_ (w1 := ?_) (by rfl) rfl ?_ ?_
  rotate_left
  (focus go_simp; rfl)
  refine hK.out _ _ ?_
  clear hK K
  refine WL.done HT_.out (by kernel_rfl) ?_
  have HF1 := Lib.hid (blk_put HG.out 2 (.int .i64 ((n 3 : Int) + 1)) rfl)
  have HF2 := Lib.hid (show W.grownBy (((W.alloc (.cells #[.string r0, .string r1, .string r2, .string r3, .int .i64 r4, .int .i64 3] 48 (0, 0))).setCell ⟨g, 2, none⟩ (.int .i64 ((n 3 : Int) + 1))).drew) (some g) from ⟨HBH.out.os, HBH.out.tape, HBH.out.output, by simp [World.setCell], fun k hk hne => (Below.heap_setCell _ _ _ _ (fun e => hne (congrArg some e))).trans (HBH.out.block k hk)⟩)
  clear c0 f0 x5
  go_wp2
  exact ⟨rfl, _, results_none (by kernel_rfl) _ _ _, rfl, HF1.out, HF2.out⟩
set_option maxHeartbeats 1000000 in
theorem add_eq4 (g : Nat) (n : Int → Nat) (hn : n 4 ≤ 1000) (r0 r1 r2 r3 : ByteArray) (r4 : Int) (W : World) (hg : W.heap[g]? = some (.cells #[.int .i64 (n 1 : Nat), .int .i64 (n 2 : Nat), .int .i64 (n 3 : Nat), .int .i64 (n 4 : Nat)] 65 (0, 0))) :
    Calls Tryz.prog 28 #[.pointer (some ⟨g, 0, none⟩), .agg #[.string r0, .string r1, .string r2, .string r3, .int .i64 r4, .int .i64 4]] W fun e w' => e = .returned (.tuple #[]) ∧ w'.heap[g]? = some (.cells #[.int .i64 ((bump n 4) 1 : Nat), .int .i64 ((bump n 4) 2 : Nat), .int .i64 ((bump n 4) 3 : Nat), .int .i64 ((bump n 4) 4 : Nat)] 65 (0, 0)) ∧ W.grownBy w' (some g) := by
  have HB := below_alloc (Below.refl W.heap.size W) (.cells #[.string r0, .string r1, .string r2, .string r3, .int .i64 r4, .int .i64 4] 48 (0, 0))
  have HC := new_blk W (.cells #[.string r0, .string r1, .string r2, .string r3, .int .i64 r4, .int .i64 4] 48 (0, 0))
  have HG := Lib.hid ((HB.block g (blk_lt hg)).trans hg)
  have HL := Lib.hid (blk_lt hg)
  have HBH := Lib.hid HB
  have x5 : ((W.alloc (.cells #[.string r0, .string r1, .string r2, .string r3, .int .i64 r4, .int .i64 4] 48 (0, 0))).drew).cell? ⟨W.heap.size, 5, none⟩ = some (.int .i64 4) := (blk_cell HC 5).trans rfl
  have c0 : ((W.alloc (.cells #[.string r0, .string r1, .string r2, .string r3, .int .i64 r4, .int .i64 4] 48 (0, 0))).drew).cell? ⟨g, 3, none⟩ = some (.int .i64 (n 4 : Nat)) := (blk_cell HG.out 3).trans rfl
  have f0 : ((W.alloc (.cells #[.string r0, .string r1, .string r2, .string r3, .int .i64 r4, .int .i64 4] 48 (0, 0))).drew).frozen? ⟨g, 3, none⟩ = false := blk_frozen HG.out 3
  have hn2 : (n 4 : Int) ≤ 1000 := by omega
  have wq : IntKind.i64.wrap 3 = 3 := by kernel_rfl
  have hw : IntKind.i64.wrap ((n 4 : Int) + 1) = (n 4 : Int) + 1 := by rw [IntKind.wrap_i64]; omega
  clear HB HC hg
  go_enter Tryz.func28, Tryz.ntmps28
  go_wp2_with fail
  refine WL.start (n := 11) (ds := [10]) (S := fun w' => w'.cell? ⟨W.heap.size, 5, none⟩ = some (.int .i64 4) ∧ w'.cell? ⟨g, 3, none⟩ = some (.int .i64 (n 4 : Nat))) [false, false, false, false, false, false, false, false, false, false, false] (by kernel_rfl) rfl rfl ⟨x5, c0⟩ (fun hHeld => ?_)
  refine WL.tab tab28_1 (fun HT_ => ?_)
  refine WL.more [0, 1, 4, 8, 2, 3, 5, 6, 7, 9] ?_
  repeat (first
    | (refine WL.off (lb' := ?_) (ys := ?_) rfl rfl (by rfl) ?_ HT_.out ?_ (fun _ _ _ h => h) ?_ ?_; rotate_left 2; (focus dsimp only [List.set_cons_zero, List.set_cons_succ]; rfl); (focus kernel_rfl); (focus dsimp only [List.set_cons_zero, List.set_cons_succ]; rfl))
    | (refine WL.pure (lb' := ?_) (v := ?_) (ys := ?_) rfl rfl (by rfl) ?_ HT_.out ?_ (fun _ _ _ h => h) ?_ ?_ ?_; rotate_left 3; (focus dsimp only [List.set_cons_zero, List.set_cons_succ]; rfl); (focus kernel_rfl); (focus intro w'; go_simp; with_reducible rfl); (focus dsimp only [List.set_cons_zero, List.set_cons_succ]; rfl))
    | (refine WL.take (lb' := ?_) (v := ?_) (ys := ?_) rfl rfl (by rfl) ?_ HT_.out ?_ (fun _ _ _ h => h) hHeld ?_ ?_ ?_; rotate_left 3; (focus dsimp only [List.set_cons_zero, List.set_cons_succ]; rfl); (focus kernel_rfl); (focus rintro w' ⟨s0, s1⟩; go_simp; with_reducible rfl); (focus dsimp only [List.set_cons_zero, List.set_cons_succ]; rfl)))
  refine WL.more [10] ?_
  refine WL.last (lb' := ?_) rfl rfl ?_ HT_.out ?_ (by decide) (fun K hK => ?_); rotate_left; (focus dsimp only [List.set_cons_zero, List.set_cons_succ]; rfl); (focus kernel_rfl)
  refine skip_ (w1 := ?_) (by rfl) rfl ?_ ?_
  rotate_left
  (focus go_simp; rfl)
  refine hK.out _ _ ?_
  clear hK K
  refine WL.done HT_.out (by kernel_rfl) ?_
  have HF1 := Lib.hid (blk_put HG.out 3 (.int .i64 ((n 4 : Int) + 1)) rfl)
  have HF2 := Lib.hid (show W.grownBy (((W.alloc (.cells #[.string r0, .string r1, .string r2, .string r3, .int .i64 r4, .int .i64 4] 48 (0, 0))).setCell ⟨g, 3, none⟩ (.int .i64 ((n 4 : Int) + 1))).drew) (some g) from ⟨HBH.out.os, HBH.out.tape, HBH.out.output, by simp [World.setCell], fun k hk hne => (Below.heap_setCell _ _ _ _ (fun e => hne (congrArg some e))).trans (HBH.out.block k hk)⟩)
  clear c0 f0 x5
  go_wp2
  exact ⟨rfl, _, results_none (by kernel_rfl) _ _ _, rfl, HF1.out, HF2.out⟩
/-- A record is counted. -/
theorem add_eq (g : Nat) (n : Int → Nat) (hn : ∀ j, n j ≤ 1000) (r : S48) (hr : 1 ≤ r.f5 ∧ r.f5 ≤ 4) (W : World) (hg : W.heap[g]? = some (.cells #[.int .i64 (n 1 : Nat), .int .i64 (n 2 : Nat), .int .i64 (n 3 : Nat), .int .i64 (n 4 : Nat)] 65 (0, 0))) :
    Calls Tryz.prog 28 #[.pointer (some ⟨g, 0, none⟩), .agg #[.string r.f0, .string r.f1, .string r.f2, .string r.f3, .int .i64 r.f4, .int .i64 r.f5]] W fun e w' => e = .returned (.tuple #[]) ∧ w'.heap[g]? = some (.cells #[.int .i64 ((bump n r.f5) 1 : Nat), .int .i64 ((bump n r.f5) 2 : Nat), .int .i64 ((bump n r.f5) 3 : Nat), .int .i64 ((bump n r.f5) 4 : Nat)] 65 (0, 0)) ∧ W.grownBy w' (some g) := by
  obtain ⟨r0, r1, r2, r3, r4, r5⟩ := r
  obtain h | h | h | h : r5 = 1 ∨ r5 = 2 ∨ r5 = 3 ∨ r5 = 4 := by dsimp only at hr; omega
  all_goals subst h
  · exact add_eq1 g n (hn 1) r0 r1 r2 r3 r4 W hg
  · exact add_eq2 g n (hn 2) r0 r1 r2 r3 r4 W hg
  · exact add_eq3 g n (hn 3) r0 r1 r2 r3 r4 W hg
  · exact add_eq4 g n (hn 4) r0 r1 r2 r3 r4 W hg
end Go.Proofs.YtafigkikblpbnaaGreatDoor.PG
namespace Go.Proofs.YtafigkikblpbnaaGreatDoor.PG
open Go.RowKit Go.Proofs.YtafigkikblpbnaaGreatDoorW.PrintWords Go.Proofs.YtafigkikblpbnaaGreatDoorW.PrintLast Go.Proofs.YtafigkikblpbnaaGreatDoorW.PrintMore
set_option linter.unusedVariables false
set_option linter.unusedSimpArgs false
set_option maxRecDepth 100000
open Go.RowKit Go.Maps Go.WideMaps
theorem lawS : Keyed Tryz.prog 9 := string_keyed Tryz.underlying9
theorem zeroP (w : World) : (zeroValue 67).run Tryz.prog w = .ok (.pointer none) w := by kernel_rfl
/-- How a place of a block is told. -/
def ptrR : Value → Option (DataW Unit × List MemPlace)
  | .pointer none => some (.lit (.int .i64 (-1)), [])
  | .pointer (some ⟨g, 0, none⟩) => some (.lit (.int .i64 g), [])
  | _ => none
def ptrN : Option Nat → Int
  | none => -1
  | some g => g
def ptrV : Option Nat → Value
  | none => .pointer none
  | some g => .pointer (some ⟨g, 0, none⟩)
theorem ptrR_mk (o : Option Nat) : ptrR (ptrV o) = some (.lit (.int .i64 (ptrN o)), []) := by cases o <;> rfl
theorem ptrR_inv {v : Value} {o : Option Nat} {ps : List MemPlace} (h : ptrR v = some (.lit (.int .i64 (ptrN o)), ps)) : v = ptrV o := by
  unfold ptrR at h
  split at h
  · injection h with h
    injection h with h _
    injection h with h
    injection h with _ h
    cases o
    · rfl
    · exact absurd h (by simp only [ptrN]; omega)
  · injection h with h
    injection h with h _
    injection h with h
    injection h with _ h
    cases o
    · exact absurd h (by simp only [ptrN]; omega)
    · simp only [ptrN] at h
      rw [show _ = _ from Int.ofNat.inj h]
      rfl
  · cases h
/-- Block b is a map of at most so many names to blocks: as T says. -/
def HasP (w : World) (b cnt : Nat) (T : ByteArray → Option Nat) : Prop :=
  ∃ D : DataW Unit, w.ownsMap Tryz.prog 9 ptrR b cnt D ∧ ∀ s : ByteArray, s.size ≤ maxLen → D.atKey (.string s.data.toList) (.lit (.int .i64 (-1))) = .lit (.int .i64 (ptrN (T s)))
theorem lit_ne {s t : ByteArray} (h : t ≠ s) : (Lit.string t.data.toList) ≠ Lit.string s.data.toList := by
  intro e
  injection e with e
  apply h
  obtain ⟨a⟩ := s
  obtain ⟨b⟩ := t
  have : b = a := Array.toList_inj.1 e
  rw [this]
theorem HasP.made (w : World) : HasP (w.alloc (.map #[] 0)) w.heap.size 0 (fun _ => none) :=
  ⟨_, World.ownsMap_made _ _ _ _, fun _ _ => rfl⟩
theorem HasP.lookup {w : World} {b cnt : Nat} {T : ByteArray → Option Nat} (h : HasP w b cnt T) (s : ByteArray) (hs : s.size ≤ maxLen) : (Instr.lookup 66 (.map (some b)) (.string s) false).run Tryz.prog w = .ok (ptrV (T s)) w := by
  obtain ⟨D, hD, hS⟩ := h
  obtain ⟨v, ps, hrun, hv⟩ := hD.lookup lawS Tryz.underlying66 (zeroP w) (ptrR_mk none) (keyOf_string_mk Tryz.underlying9 hs)
  rw [show ptrN none = -1 from rfl, hS s hs] at hv
  rw [hrun, ptrR_inv hv]
theorem HasP.put {w : World} {b cnt : Nat} {T : ByteArray → Option Nat} (h : HasP w b cnt T) (hn : cnt < maxLen) (s : ByteArray) (hs : s.size ≤ maxLen) (g : Nat) :
    ∃ w', (Instr.mapUpdate 66 (.map (some b)) (.string s) (.pointer (some ⟨g, 0, none⟩))).run Tryz.prog w = .ok () w' ∧ HasP w' b (cnt + 1) (fun t => if t = s then some g else T t) ∧ w.grownBy w' (some b) := by
  obtain ⟨D, hD, hS⟩ := h
  obtain ⟨w', hrun, h1, h2⟩ := hD.update lawS Tryz.underlying66 hn (keyOf_string_mk Tryz.underlying9 hs) (ptrR_mk (some g))
  refine ⟨w', hrun, ⟨_, h1, fun t ht => ?_⟩, h2⟩
  by_cases e : t = s
  · subst e
    rw [atKey_put_same hD.isMap (show WideAt.IsKeyLit (.string _) from trivial)]
    show _ = DataW.lit (.int .i64 (ptrN (if t = t then some g else T t)))
    rw [if_pos rfl]
  · rw [atKey_put_other (lit_ne e), hS t ht]
    show _ = DataW.lit (.int .i64 (ptrN (if t = s then some g else T t)))
    rw [if_neg e]
theorem HasP.kept {w w' : World} {b cnt : Nat} {T : ByteArray → Option Nat} {row : Option Nat} (h : HasP w b cnt T) (hg : w.grownBy w' row) (hne : some b ≠ row) : HasP w' b cnt T := by
  obtain ⟨D, hD, hS⟩ := h
  exact ⟨D, hD.kept hg hne, hS⟩
theorem HasP.lt {w : World} {b cnt : Nat} {T : ByteArray → Option Nat} (h : HasP w b cnt T) : b < w.heap.size := by
  obtain ⟨D, hD, _⟩ := h
  exact hD.lt
end Go.Proofs.YtafigkikblpbnaaGreatDoor.PG
