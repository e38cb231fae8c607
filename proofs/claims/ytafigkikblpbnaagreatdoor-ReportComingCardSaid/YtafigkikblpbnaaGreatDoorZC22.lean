/- What is asked of a state ahead, with acts and the clock; no condition beyond each theorem its own. -/
import Derived.Test.YtafigkikblpbnaaGreatDoorZC21
import Derived.Test.YtafigkikblpbnaaGreatDoorZC11
import Derived.Test.YtafigkikblpbnaaGreatDoorZC12
import Derived.Test.YtafigkikblpbnaaGreatDoorZC19
namespace Go.Proofs.YtafigkikblpbnaaGreatDoor.PG
open Go.RowKit Go.Proofs.YtafigkikblpbnaaGreatDoorW.PrintWords Go.Proofs.YtafigkikblpbnaaGreatDoorW.PrintLast Go.Proofs.YtafigkikblpbnaaGreatDoorW.PrintMore
set_option linter.unusedVariables false
set_option linter.unusedSimpArgs false
set_option maxRecDepth 100000

set_option maxHeartbeats 4000000 in
theorem Check17b (l : List S96) (A : Option Addr) (c : Nat) (W : World) (hC : Kd.C k96 W A l.length l) (hl : l.length ≤ c) (hz : ∀ x ∈ l, x.f0.size ≤ 140737488351232 ∧ Z95 x.f1) :
    Calls Tryz.prog 65 #[.slice A l.length c] W (RIp (l.length ≤ 12 ∧ ∀ x ∈ l, H95 8 x.f1 ∧ x.f0.size ≤ 16 ∧ (1 ≤ x.f2 ∧ x.f2 ≤ 3)) W) := by
  have HZ := Lib.hid hz
  clear hz
  have hm : l.length ≤ 9223372036854775807 := hC.2.1
  by_cases h12 : l.length ≤ 12
  · have h12' : ¬ (12 : Int) < (l.length : Int) := by omega
    go_enter Tryz.func65, Tryz.ntmps65
    go_wp2
    go_loopw [3] (fun v3 wr => ∃ k : Nat, v3 = .int .i64 k ∧ k ≤ l.length ∧ Aside0 (∀ y ∈ l.take k, H95 8 y.f1 ∧ y.f0.size ≤ 16 ∧ (1 ≤ y.f2 ∧ y.f2 ≤ 3)) ∧ Aside0 (Below W.heap.size W wr)) (fun v3 _ => l.length - (intOf v3).toNat)
    case atStart => exact ⟨0, rfl, Nat.zero_le _, ⟨fun y hy => by simp at hy⟩, ⟨Below.refl _ _⟩⟩
    case round =>
      obtain ⟨k, rfl, hk, HA, HB⟩ := hrel
      by_cases hlt : k < l.length
      · have hlt2 : (k : Int) < (l.length : Int) := by omega
        obtain ⟨ad, A4, c4, e, h0, h1, h2, h3, h4, h5, hl4, hC4⟩ := at_T96 (Kd.C_below hC HB.out) (k : Int) (by omega) (by omega)
        subst e
        simp only [Int.toNat_natCast] at h0 h1 h2 h3 h4 h5
        have HT := Lib.hid (take_rd97 hlt)
        have hzz := HZ.out _ (rd_mem97 hlt)
        generalize rd_T96 l (k : Int) = y at *
        have HN := fun w => Lib.hid (Name_eq y.f0 hzz.1 w)
        have HM := Lib.hid (MayExpr_any y.f1 A4 c4 wr hzz.2 hC4 hl4)
        have HSZ := Lib.hid (show (y.f0.toList = [] ∨ nmOk y.f0 = true) → y.f0.size ≤ 16 from fun h => h.elim (fun h => by rw [size_nil h]; omega) nmOk_16)
        clear hC4 hl4 hzz
        go_wp2_with (first | (go_at_call 68; refine (HN _).out.mono ?_; rintro e w2 ⟨rfl, rfl⟩) | (go_at_call 103; refine HM.out.mono ?_; rintro e w3 ⟨b, rfl, hb1, hb⟩))
        all_goals first
          | (go_ret; exact RIp.no HB.out (by decide))
          | (have HB2 := Lib.hid (below_tr HB.out hb)
             clear hb
             first
               | (go_ret; exact RIp.no HB2.out (by decide))
               | (have HH : Hid (H95 8 y.f1) := by first | exact hb1 rfl | exact hb1 trivial | exact hb1 | exact hb1 (by assumption) | exact hb1 (by rename_i hq; first | (simpa using hq.2) | (simpa using hq))
                  clear hb1
                  have HA2 := Lib.hid (show 1 ≤ y.f2 ∧ y.f2 ≤ 3 by omega)
                  have HS := Lib.hid (HSZ.out (by first | (left; assumption) | (right; assumption)))
                  go_roundw
                  case rel => exact ⟨k + 1, by go_num, by omega, ⟨fun z hz => by
                    rw [HT.out] at hz
                    rcases List.mem_append.1 hz with hz | hz
                    · exact HA.out z hz
                    · rw [List.mem_singleton.1 hz]; exact ⟨HH.out, HS.out, HA2.out⟩⟩, ⟨HB2.out⟩⟩
                  case measure => simp [intOf]; omega))
      · have hk2 : k = l.length := by omega
        have HALL := Lib.hid (show l.length ≤ 12 ∧ ∀ x ∈ l, H95 8 x.f1 ∧ x.f0.size ≤ 16 ∧ (1 ≤ x.f2 ∧ x.f2 ≤ 3) from ⟨h12, fun y hy => HA.out y (by rw [hk2, List.take_length]; exact hy)⟩)
        clear hk2 HA
        go_wp2
        go_loopw [4] (fun v4 wq => ∃ k : Nat, v4 = .int .i64 k ∧ k ≤ l.length ∧ Aside0 (Below W.heap.size W wq)) (fun v4 _ => l.length - (intOf v4).toNat)
        case atStart => exact ⟨0, rfl, Nat.zero_le _, ⟨HB.out⟩⟩
        case round =>
          obtain ⟨q, rfl, hq, HBQ⟩ := hrel
          by_cases hlt : q < l.length
          · have hlt2 : (q : Int) < (l.length : Int) := by omega
            go_wp2
            go_loopw [5] (fun v5 wp => ∃ j : Nat, v5 = .int .i64 j ∧ j ≤ q ∧ Aside0 (Below W.heap.size W wp)) (fun v5 _ => q - (intOf v5).toNat)
            case atStart => exact ⟨0, rfl, Nat.zero_le _, ⟨HBQ.out⟩⟩
            case round =>
              obtain ⟨j, rfl, hj, HBP⟩ := hrel
              by_cases hjq : j < q
              · have hjq2 : (j : Int) < (q : Int) := by omega
                have hjl : (j : Int) < (l.length : Int) := by omega
                obtain ⟨ad, A4, c4, e, h0, h1, h2, h3, h4, h5, hl4, hC4⟩ := at_T96 (Kd.C_below hC HBP.out) (j : Int) (by omega) (by omega)
                obtain ⟨ad2, A5, c5, e2, g0, g1, g2, g3, g4, g5, gl4, gC4⟩ := at_T96 (Kd.C_below hC HBP.out) (q : Int) (by omega) (by omega)
                subst e
                injection e2 with e2
                subst e2
                simp only [Int.toNat_natCast] at h0 h1 h2 h3 h4 h5 g0 g1 g2 g3 g4 g5
                generalize rd_T96 l (j : Int) = y at *
                generalize rd_T96 l (q : Int) = z at *
                clear hC4 hl4 gC4 gl4 h1 h2 h3 h4 h5 g1 g2 g3 g4 g5
                go_wp2_with fail
                go_quiet (fail)
                have HBN := Lib.hid (pw_below_drewN HBP.out nq)
                go_wp2
                all_goals first
                  | (go_ret; exact RIp.no HBN.out (by decide))
                  | (go_roundw
                     case rel => exact ⟨j + 1, by go_num, by omega, ⟨HBN.out⟩⟩
                     case measure => simp [intOf]; omega)
              · go_wp2
                go_roundw
                case rel => exact ⟨q + 1, by go_num, by omega, ⟨HBP.out⟩⟩
                case measure => simp [intOf]; omega
          · go_wp2
            go_ret
            exact ⟨0, rfl, fun _ => HALL.out, HBQ.out⟩
  · have h12' : (12 : Int) < (l.length : Int) := by omega
    go_enter Tryz.func65, Tryz.ntmps65
    go_wp2
    go_ret
    exact RIp.no (Below.refl _ _) (by decide)
set_option maxHeartbeats 4000000 in
theorem Print17b (l : List S96) (A : Option Addr) (c : Nat) (W : World) (hC : Kd.C k96 W A l.length l) (hl : l.length ≤ c) (hz : ∀ x ∈ l, x.f0.size ≤ 140737488351232 ∧ Z95 x.f1) :
    Calls Tryz.prog 40 #[.slice A l.length c] W (RTI (l.length ≤ 12 ∧ ∀ x ∈ l, H95 8 x.f1 ∧ x.f0.size ≤ 16 ∧ (1 ≤ x.f2 ∧ x.f2 ≤ 3)) W) := by
  have hm : l.length ≤ 9223372036854775807 := hC.2.1
  have HCALL := Lib.hid (Check17b l A c W hC hl hz)
  clear hz
  go_enter Tryz.func40, Tryz.ntmps40
  go_wp2_with fail
  refine HCALL.out.mono ?_
  rintro e w2 ⟨r, rfl, hr, hb⟩
  have HB := Lib.hid hb
  have HC := Lib.hid (Kd.C_below hC hb)
  have HR := Lib.hid hr
  clear hb hC hr
  by_cases h0 : r = 0
  · subst h0
    obtain ⟨h12, hall⟩ := HR.out rfl
    have HALL := Lib.hid hall
    clear hall
    go_wp2
    go_loopw [5, 6] (fun v5 v6 wr => ∃ (k : Nat) (t : ByteArray), v6 = .int .i64 k ∧ k ≤ l.length ∧ v5 = .string t ∧ Aside0 (t.size ≤ k * (EB 8 + 100)) ∧ Aside0 (Below w2.heap.size w2 wr)) (fun v5 v6 _ => l.length - (intOf v6).toNat)
    case atStart => exact ⟨0, _, rfl, Nat.zero_le _, rfl, ⟨Nat.zero_le _⟩, ⟨Below.refl _ _⟩⟩
    case round =>
      obtain ⟨k, t, rfl, hk, rfl, HS, HBW⟩ := hrel
      have ht : t.size ≤ 2000000000000000 := by have h := HS.out; have h3 : k * (EB 8 + 100) ≤ 12 * (EB 8 + 100) := Nat.mul_le_mul_right _ (by omega); have h4 : EB 8 ≤ 100000000000000 := (by decide); omega
      by_cases hlt : k < l.length
      · have hlt2 : (k : Int) < (l.length : Int) := by omega
        obtain ⟨ad, A4, c4, e, h0, h1, h2, h3, h4, h5, hl4, hC4⟩ := at_T96 (Kd.C_below HC.out HBW.out) (k : Int) (by omega) (by omega)
        subst e
        simp only [Int.toNat_natCast] at h0 h1 h2 h3 h4 h5
        have hy := HALL.out _ (rd_mem97 hlt)
        generalize rd_T96 l (k : Int) = y at *
        have hy0 := hy.2
        have HEX := fun w' (h : (Aside0 (Below wr.heap.size wr w') ∧ w'.cell? ⟨(ad.add (k * 6)).block, (ad.add (k * 6)).off + 1, none⟩ = some (.int .i64 y.f1.f0) ∧ w'.cell? ⟨(ad.add (k * 6)).block, (ad.add (k * 6)).off + 2, none⟩ = some (.int .i64 y.f1.f1) ∧ w'.cell? ⟨(ad.add (k * 6)).block, (ad.add (k * 6)).off + 3, none⟩ = some (.string y.f1.f2) ∧ w'.cell? ⟨(ad.add (k * 6)).block, (ad.add (k * 6)).off + 4, none⟩ = some (.slice A4 y.f1.f3.length c4) ∧ w'.cell? ⟨(ad.add (k * 6)).block, (ad.add (k * 6)).off + 5, none⟩ = some (.int .i64 y.f2))) => Lib.hid (Expr17 8 y.f1 A4 c4 w' (by decide) hy.1 (Kd.C_below hC4 h.1.out) hl4)
        have HKEEP := Lib.hid (show ∀ w1 w2 : World, (Aside0 (Below wr.heap.size wr w1) ∧ w1.cell? ⟨(ad.add (k * 6)).block, (ad.add (k * 6)).off + 1, none⟩ = some (.int .i64 y.f1.f0) ∧ w1.cell? ⟨(ad.add (k * 6)).block, (ad.add (k * 6)).off + 2, none⟩ = some (.int .i64 y.f1.f1) ∧ w1.cell? ⟨(ad.add (k * 6)).block, (ad.add (k * 6)).off + 3, none⟩ = some (.string y.f1.f2) ∧ w1.cell? ⟨(ad.add (k * 6)).block, (ad.add (k * 6)).off + 4, none⟩ = some (.slice A4 y.f1.f3.length c4) ∧ w1.cell? ⟨(ad.add (k * 6)).block, (ad.add (k * 6)).off + 5, none⟩ = some (.int .i64 y.f2)) → Below w1.heap.size w1 w2 → (Aside0 (Below wr.heap.size wr w2) ∧ w2.cell? ⟨(ad.add (k * 6)).block, (ad.add (k * 6)).off + 1, none⟩ = some (.int .i64 y.f1.f0) ∧ w2.cell? ⟨(ad.add (k * 6)).block, (ad.add (k * 6)).off + 2, none⟩ = some (.int .i64 y.f1.f1) ∧ w2.cell? ⟨(ad.add (k * 6)).block, (ad.add (k * 6)).off + 3, none⟩ = some (.string y.f1.f2) ∧ w2.cell? ⟨(ad.add (k * 6)).block, (ad.add (k * 6)).off + 4, none⟩ = some (.slice A4 y.f1.f3.length c4) ∧ w2.cell? ⟨(ad.add (k * 6)).block, (ad.add (k * 6)).off + 5, none⟩ = some (.int .i64 y.f2)) from fun w1 w2 h hb => ⟨⟨below_tr h.1.out hb⟩, below_cell hb h.2.1, below_cell hb h.2.2.1, below_cell hb h.2.2.2.1, below_cell hb h.2.2.2.2.1, below_cell hb h.2.2.2.2.2⟩)
        have HS0 := Lib.hid (show (Aside0 (Below wr.heap.size wr wr.drew) ∧ wr.drew.cell? ⟨(ad.add (k * 6)).block, (ad.add (k * 6)).off + 1, none⟩ = some (.int .i64 y.f1.f0) ∧ wr.drew.cell? ⟨(ad.add (k * 6)).block, (ad.add (k * 6)).off + 2, none⟩ = some (.int .i64 y.f1.f1) ∧ wr.drew.cell? ⟨(ad.add (k * 6)).block, (ad.add (k * 6)).off + 3, none⟩ = some (.string y.f1.f2) ∧ wr.drew.cell? ⟨(ad.add (k * 6)).block, (ad.add (k * 6)).off + 4, none⟩ = some (.slice A4 y.f1.f3.length c4) ∧ wr.drew.cell? ⟨(ad.add (k * 6)).block, (ad.add (k * 6)).off + 5, none⟩ = some (.int .i64 y.f2)) from ⟨⟨below_drew (Below.refl _ _)⟩, h1, h2, h3, h4, h5⟩)
        have HAC := fun w' => Lib.hid (act_any y.f2 w')
        clear hC4 hl4 hy
        have hE8 : EB 8 ≤ 100000000000000 := by decide
        have e7 : (⟨#[100, 101, 102, 97, 117, 108, 116]⟩ : ByteArray).size = 7 := rfl
        have e7b : (⟨#[99, 108, 97, 115, 115, 32, 34]⟩ : ByteArray).size = 7 := rfl
        have e1 : (⟨#[34]⟩ : ByteArray).size = 1 := rfl
        by_cases hcl : y.f0.toList.isEmpty = true
        · go_wp2_with fail
          all_goals first
            | (exfalso; omega)
            | skip
          generalize ht2 : t ++ (⟨#[100, 101, 102, 97, 117, 108, 116]⟩ : ByteArray) = t2 at *
          have HT2 := Lib.hid ht2
          clear ht2
          have z2 : t2.size ≤ t.size + 24 := by rw [← HT2.out]; simp only [ByteArray.size_append, e7, e7b, e1]; omega
          have z3 : ¬ 9223372036854775807 < t2.size + 6 := by omega
          have HZ4 := Lib.hid (show ∀ q : ByteArray, q.size ≤ EB 8 → ¬ 9223372036854775807 < t2.size + 6 + q.size from fun q hq => by omega)
          have HZ5 := Lib.hid (show ∀ q : ByteArray, q.size ≤ EB 8 → ¬ 9223372036854775807 < t2.size + 6 + q.size + 6 from fun q hq => by omega)
          have HZ6 := Lib.hid (show ∀ q q2 : ByteArray, q.size ≤ EB 8 → q2.size ≤ 7 → ¬ 9223372036854775807 < t2.size + 6 + q.size + 6 + q2.size from fun q q2 hq h2 => by omega)
          have HZ7 := Lib.hid (show ∀ q q2 : ByteArray, q.size ≤ EB 8 → q2.size ≤ 7 → ¬ 9223372036854775807 < t2.size + 6 + q.size + 6 + q2.size + 2 from fun q q2 hq h2 => by omega)
          go_region_held3 (fun w' => (Aside0 (Below wr.heap.size wr w') ∧ w'.cell? ⟨(ad.add (k * 6)).block, (ad.add (k * 6)).off + 1, none⟩ = some (.int .i64 y.f1.f0) ∧ w'.cell? ⟨(ad.add (k * 6)).block, (ad.add (k * 6)).off + 2, none⟩ = some (.int .i64 y.f1.f1) ∧ w'.cell? ⟨(ad.add (k * 6)).block, (ad.add (k * 6)).off + 3, none⟩ = some (.string y.f1.f2) ∧ w'.cell? ⟨(ad.add (k * 6)).block, (ad.add (k * 6)).off + 4, none⟩ = some (.slice A4 y.f1.f3.length c4) ∧ w'.cell? ⟨(ad.add (k * 6)).block, (ad.add (k * 6)).off + 5, none⟩ = some (.int .i64 y.f2))) (first | assumption | exact HS0.out | exact HKEEP.out _ _ (by assumption) hb) (first | (go_at_call 66; refine (HEX _ (by assumption)).out.mono ?_; rintro e w3 ⟨s, rfl, hs, hb⟩; have z4 := HZ4.out s hs; have z5 := HZ5.out s hs) | (go_at_call 67; refine (HAC _).out.mono ?_; rintro e w4 ⟨s2, rfl, hs2, rfl⟩; have z6 := HZ6.out s s2 hs hs2; have z7 := HZ7.out s s2 hs hs2))
          go_wp2
          go_roundw
          case rel => exact ⟨k + 1, _, by go_num, by omega, rfl, ⟨by
            have h := HS.out
            have e2 : (⟨#[32, 107, 101, 101, 112, 32]⟩ : ByteArray).size = 6 := rfl
            have e3 : (⟨#[32, 116, 104, 101, 110, 32]⟩ : ByteArray).size = 6 := rfl
            have e4 : (⟨#[59, 10]⟩ : ByteArray).size = 2 := rfl
            rw [Nat.succ_mul]
            simp only [ByteArray.size_append, e2, e3, e4]
            omega⟩, ⟨below_tr HBW.out (Aside0.out (And.left (by assumption)))⟩⟩
          case measure => simp [intOf]; omega
        · go_wp2_with fail
          all_goals first
            | (exfalso; omega)
            | skip
          generalize ht2 : t ++ (⟨#[99, 108, 97, 115, 115, 32, 34]⟩ : ByteArray) ++ y.f0 ++ (⟨#[34]⟩ : ByteArray) = t2 at *
          have HT2 := Lib.hid ht2
          clear ht2
          have z2 : t2.size ≤ t.size + 24 := by rw [← HT2.out]; simp only [ByteArray.size_append, e7, e7b, e1]; omega
          have z3 : ¬ 9223372036854775807 < t2.size + 6 := by omega
          have HZ4 := Lib.hid (show ∀ q : ByteArray, q.size ≤ EB 8 → ¬ 9223372036854775807 < t2.size + 6 + q.size from fun q hq => by omega)
          have HZ5 := Lib.hid (show ∀ q : ByteArray, q.size ≤ EB 8 → ¬ 9223372036854775807 < t2.size + 6 + q.size + 6 from fun q hq => by omega)
          have HZ6 := Lib.hid (show ∀ q q2 : ByteArray, q.size ≤ EB 8 → q2.size ≤ 7 → ¬ 9223372036854775807 < t2.size + 6 + q.size + 6 + q2.size from fun q q2 hq h2 => by omega)
          have HZ7 := Lib.hid (show ∀ q q2 : ByteArray, q.size ≤ EB 8 → q2.size ≤ 7 → ¬ 9223372036854775807 < t2.size + 6 + q.size + 6 + q2.size + 2 from fun q q2 hq h2 => by omega)
          go_region_held3 (fun w' => (Aside0 (Below wr.heap.size wr w') ∧ w'.cell? ⟨(ad.add (k * 6)).block, (ad.add (k * 6)).off + 1, none⟩ = some (.int .i64 y.f1.f0) ∧ w'.cell? ⟨(ad.add (k * 6)).block, (ad.add (k * 6)).off + 2, none⟩ = some (.int .i64 y.f1.f1) ∧ w'.cell? ⟨(ad.add (k * 6)).block, (ad.add (k * 6)).off + 3, none⟩ = some (.string y.f1.f2) ∧ w'.cell? ⟨(ad.add (k * 6)).block, (ad.add (k * 6)).off + 4, none⟩ = some (.slice A4 y.f1.f3.length c4) ∧ w'.cell? ⟨(ad.add (k * 6)).block, (ad.add (k * 6)).off + 5, none⟩ = some (.int .i64 y.f2))) (first | assumption | exact HS0.out | exact HKEEP.out _ _ (by assumption) hb) (first | (go_at_call 66; refine (HEX _ (by assumption)).out.mono ?_; rintro e w3 ⟨s, rfl, hs, hb⟩; have z4 := HZ4.out s hs; have z5 := HZ5.out s hs) | (go_at_call 67; refine (HAC _).out.mono ?_; rintro e w4 ⟨s2, rfl, hs2, rfl⟩; have z6 := HZ6.out s s2 hs hs2; have z7 := HZ7.out s s2 hs hs2))
          go_wp2
          go_roundw
          case rel => exact ⟨k + 1, _, by go_num, by omega, rfl, ⟨by
            have h := HS.out
            have e2 : (⟨#[32, 107, 101, 101, 112, 32]⟩ : ByteArray).size = 6 := rfl
            have e3 : (⟨#[32, 116, 104, 101, 110, 32]⟩ : ByteArray).size = 6 := rfl
            have e4 : (⟨#[59, 10]⟩ : ByteArray).size = 2 := rfl
            rw [Nat.succ_mul]
            simp only [ByteArray.size_append, e2, e3, e4]
            omega⟩, ⟨below_tr HBW.out (Aside0.out (And.left (by assumption)))⟩⟩
          case measure => simp [intOf]; omega
      · go_wp2
        all_goals
          go_ret2
          exact ⟨_, _, rfl, fun _ => ⟨h12, HALL.out⟩, below_tr HB.out HBW.out⟩
  · go_wp2
    go_ret2
    exact ⟨_, r, rfl, fun h => absurd h h0, HB.out⟩

/-- It answers a truth value; where it is true p holds; nothing is turned. -/
def RBt (p : Prop) (w : World) (e : Ending) (w' : World) : Prop := ∃ b : Bool, e = .returned (.bool b) ∧ (b = true → p) ∧ w' = w
/-- Is it a tick? -/
theorem tick_eq (n : Int) (w : World) : Calls Tryz.prog 41 #[.int .i64 n] w (RBt (0 ≤ n ∧ n ≤ 1099511627776) w) := by
  by_cases h1 : 0 ≤ n
  · by_cases h2 : n ≤ 1099511627776
    · go_enter Tryz.func41, Tryz.ntmps41
      go_wp2
      go_ret
      exact ⟨_, rfl, fun _ => ⟨h1, h2⟩, rfl⟩
    · have h3 : (1099511627776 : Int) < n := by omega
      have h4 : decide (n ≤ 1099511627776) = false := decide_eq_false h2
      go_enter Tryz.func41, Tryz.ntmps41
      go_wp2
      go_ret
      exact ⟨_, rfl, fun h => absurd h (by decide), rfl⟩
  · have h3 : n < 0 := by omega
    go_enter Tryz.func41, Tryz.ntmps41
    go_wp2
    go_ret
    exact ⟨_, rfl, fun h => absurd h (by decide), rfl⟩
/-- What is known of a state that may be. -/
structure May5b (s : S31) : Prop where
  rules : s.f2.length ≤ 12 ∧ ∀ x ∈ s.f2, H95 8 x.f1 ∧ x.f0.size ≤ 16 ∧ (1 ≤ x.f2 ∧ x.f2 ≤ 3)
  miles : ∀ y ∈ s.f3, y.f1.length ≤ 8
  recs : Ok5 s
  clock : 0 ≤ s.f0 ∧ s.f0 ≤ 1099511627776

set_option maxHeartbeats 4000000 in
theorem May_b (s : S31) (A2 A3 A4 A5 A6 A7 A8 : Option Addr) (c2 c3 c4 c5 c6 c7 c8 : Nat) (W : World) (hs : Rs W s A2 A3 A4 A5 A6 A7 A8 c2 c3 c4 c5 c6 c7 c8) (hz : Zs s) : Calls Tryz.prog 19 #[.agg #[.int .i64 s.f0, .int .u64 s.f1, .slice A2 s.f2.length c2, .slice A3 s.f3.length c3, .slice A4 s.f4.length c4, .slice A5 s.f5.length c5, .slice A6 s.f6.length c6, .slice A7 s.f7.length c7, .slice A8 s.f8.length c8, .int .i64 s.f9]] W (RBq (May5b s) W) := by
  have HB := Lib.hid (show Below W.heap.size W (W.alloc (.cells #[.int .i64 s.f0, .int .u64 s.f1, .slice A2 s.f2.length c2, .slice A3 s.f3.length c3, .slice A4 s.f4.length c4, .slice A5 s.f5.length c5, .slice A6 s.f6.length c6, .slice A7 s.f7.length c7, .slice A8 s.f8.length c8, .int .i64 s.f9] 31 (0, 0))) from below_alloc (Below.refl _ _) _)
  have HY := Lib.hid (new_blk W (.cells #[.int .i64 s.f0, .int .u64 s.f1, .slice A2 s.f2.length c2, .slice A3 s.f3.length c3, .slice A4 s.f4.length c4, .slice A5 s.f5.length c5, .slice A6 s.f6.length c6, .slice A7 s.f7.length c7, .slice A8 s.f8.length c8, .int .i64 s.f9] 31 (0, 0)))
  have HS := Lib.hid (hs.below HB.out)
  have HZ := Lib.hid hz
  clear hs hz
  have HP := Lib.hid (Print17b s.f2 A2 c2 _ HS.out.g2 HS.out.l2 HZ.out.z2)
  go_enter Tryz.func19, Tryz.ntmps19
  go_wp2_with fail
  generalize W.alloc (.cells #[.int .i64 s.f0, .int .u64 s.f1, .slice A2 s.f2.length c2, .slice A3 s.f3.length c3, .slice A4 s.f4.length c4, .slice A5 s.f5.length c5, .slice A6 s.f6.length c6, .slice A7 s.f7.length c7, .slice A8 s.f8.length c8, .int .i64 s.f9] 31 (0, 0)) = W1 at *
  refine HP.out.mono ?_
  rintro e w2 ⟨st, r, rfl, hr, hb⟩
  have HR := Lib.hid hr
  have HB2 := Lib.hid (below_tr HB.out hb)
  have HY2 := Lib.hid ((hb.block W.heap.size (blk_lt HY.out)).trans HY.out)
  have HS2 := Lib.hid (HS.out.below hb)
  clear hr hb
  have q0 : (w2).cell? ⟨W.heap.size, 0, none⟩ = some (.int .i64 s.f0) := (blk_cell HY2.out 0).trans rfl
  have q1 : (w2).cell? ⟨W.heap.size, 1, none⟩ = some (.int .u64 s.f1) := (blk_cell HY2.out 1).trans rfl
  have q2 : (w2).cell? ⟨W.heap.size, 2, none⟩ = some (.slice A2 s.f2.length c2) := (blk_cell HY2.out 2).trans rfl
  have q3 : (w2).cell? ⟨W.heap.size, 3, none⟩ = some (.slice A3 s.f3.length c3) := (blk_cell HY2.out 3).trans rfl
  have q4 : (w2).cell? ⟨W.heap.size, 4, none⟩ = some (.slice A4 s.f4.length c4) := (blk_cell HY2.out 4).trans rfl
  have q5 : (w2).cell? ⟨W.heap.size, 5, none⟩ = some (.slice A5 s.f5.length c5) := (blk_cell HY2.out 5).trans rfl
  have q6 : (w2).cell? ⟨W.heap.size, 6, none⟩ = some (.slice A6 s.f6.length c6) := (blk_cell HY2.out 6).trans rfl
  have q7 : (w2).cell? ⟨W.heap.size, 7, none⟩ = some (.slice A7 s.f7.length c7) := (blk_cell HY2.out 7).trans rfl
  have q8 : (w2).cell? ⟨W.heap.size, 8, none⟩ = some (.slice A8 s.f8.length c8) := (blk_cell HY2.out 8).trans rfl
  have q9 : (w2).cell? ⟨W.heap.size, 9, none⟩ = some (.int .i64 s.f9) := (blk_cell HY2.out 9).trans rfl
  have HTK := fun w => Lib.hid (tick_eq s.f0 w)
  by_cases hr0 : r = 0
  · have HR2 := Lib.hid (HR.out hr0)
    subst hr0
    go_wp2_with fail
    refine (HTK _).out.mono ?_
    rintro e w3 ⟨b, rfl, hbt, rfl⟩
    have HBT := Lib.hid hbt
    clear hbt
    cases b
    · go_wp2_with fail
      go_ret
      exact RBq.no HB2.out
    · go_wp2_with fail
      all_goals first
        | (go_ret; exact RBq.no HB2.out)
        | skip
      refine (lists_any s _ _ _ _ _ _ _ _ _ _ _ _ _ _ _ HS2.out HZ.out).mono ?_
      rintro e w4 ⟨b, rfl, hm, hb⟩
      have HM := Lib.hid hm
      have HB4 := Lib.hid (below_tr HB2.out hb)
      have HY4 := Lib.hid ((hb.block W.heap.size (blk_lt HY2.out)).trans HY2.out)
      have HS4 := Lib.hid (HS2.out.below hb)
      clear hm hb q0 q1 q2 q3 q4 q5 q6 q7 q8 q9
      have q0 : (w4).cell? ⟨W.heap.size, 0, none⟩ = some (.int .i64 s.f0) := (blk_cell HY4.out 0).trans rfl
      have q1 : (w4).cell? ⟨W.heap.size, 1, none⟩ = some (.int .u64 s.f1) := (blk_cell HY4.out 1).trans rfl
      have q2 : (w4).cell? ⟨W.heap.size, 2, none⟩ = some (.slice A2 s.f2.length c2) := (blk_cell HY4.out 2).trans rfl
      have q3 : (w4).cell? ⟨W.heap.size, 3, none⟩ = some (.slice A3 s.f3.length c3) := (blk_cell HY4.out 3).trans rfl
      have q4 : (w4).cell? ⟨W.heap.size, 4, none⟩ = some (.slice A4 s.f4.length c4) := (blk_cell HY4.out 4).trans rfl
      have q5 : (w4).cell? ⟨W.heap.size, 5, none⟩ = some (.slice A5 s.f5.length c5) := (blk_cell HY4.out 5).trans rfl
      have q6 : (w4).cell? ⟨W.heap.size, 6, none⟩ = some (.slice A6 s.f6.length c6) := (blk_cell HY4.out 6).trans rfl
      have q7 : (w4).cell? ⟨W.heap.size, 7, none⟩ = some (.slice A7 s.f7.length c7) := (blk_cell HY4.out 7).trans rfl
      have q8 : (w4).cell? ⟨W.heap.size, 8, none⟩ = some (.slice A8 s.f8.length c8) := (blk_cell HY4.out 8).trans rfl
      have q9 : (w4).cell? ⟨W.heap.size, 9, none⟩ = some (.int .i64 s.f9) := (blk_cell HY4.out 9).trans rfl
      cases b
      · go_wp2_with fail
        go_ret
        exact RBq.no HB4.out
      · go_wp2_with fail
        refine (rest_any s _ _ _ _ _ _ _ _ _ _ _ _ _ _ _ HS4.out HZ.out).mono ?_
        rintro e w5 ⟨b, rfl, hm, hb⟩
        have HM5 := Lib.hid hm
        have HB5 := Lib.hid (below_tr HB4.out hb)
        clear hm hb q0 q1 q2 q3 q4 q5 q6 q7 q8 q9
        go_wp2_with fail
        go_ret
        exact ⟨b, rfl, fun h => ⟨HR2.out, HM.out (by simp), HM5.out h, by first | exact HBT.out rfl | exact HBT.out trivial⟩, HB5.out⟩
  · have hr1 : (r == 0) = false := by simp [hr0]
    clear hr0
    go_wp2_with fail
    refine (HTK _).out.mono ?_
    rintro e w3 ⟨b, rfl, hbt, rfl⟩
    have HBT := Lib.hid hbt
    clear hbt
    go_wp2_with fail
    all_goals (go_ret; exact RBq.no HB2.out)
set_option maxHeartbeats 2000000 in
/-- What is asked of a state ahead. -/
theorem small_b (s : S31) (A2 A3 A4 A5 A6 A7 A8 : Option Addr) (c2 c3 c4 c5 c6 c7 c8 : Nat) (W : World) (hs : Rs W s A2 A3 A4 A5 A6 A7 A8 c2 c3 c4 c5 c6 c7 c8) (hz : Zs s) : Calls Tryz.prog 6 #[.agg #[.int .i64 s.f0, .int .u64 s.f1, .slice A2 s.f2.length c2, .slice A3 s.f3.length c3, .slice A4 s.f4.length c4, .slice A5 s.f5.length c5, .slice A6 s.f6.length c6, .slice A7 s.f7.length c7, .slice A8 s.f8.length c8, .int .i64 s.f9]] W (RBq (Few s ∧ May5b s) W) := by
  have HB1 := Lib.hid (show Below W.heap.size W (W.alloc (.cells #[.int .i64 s.f0, .int .u64 s.f1, .slice A2 s.f2.length c2, .slice A3 s.f3.length c3, .slice A4 s.f4.length c4, .slice A5 s.f5.length c5, .slice A6 s.f6.length c6, .slice A7 s.f7.length c7, .slice A8 s.f8.length c8, .int .i64 s.f9] 31 (0, 0))) from below_alloc (Below.refl _ _) _)
  have HY1 := Lib.hid (new_blk W (.cells #[.int .i64 s.f0, .int .u64 s.f1, .slice A2 s.f2.length c2, .slice A3 s.f3.length c3, .slice A4 s.f4.length c4, .slice A5 s.f5.length c5, .slice A6 s.f6.length c6, .slice A7 s.f7.length c7, .slice A8 s.f8.length c8, .int .i64 s.f9] 31 (0, 0)))
  have HS1 := Lib.hid (hs.below HB1.out)
  have HSM := Lib.hid (Small28 s A2 A3 A4 A5 A6 A7 A8 c2 c3 c4 c5 c6 c7 c8 _ HS1.out)
  have HMA := Lib.hid (fun w' (h : Rs w' s A2 A3 A4 A5 A6 A7 A8 c2 c3 c4 c5 c6 c7 c8) => May_b s A2 A3 A4 A5 A6 A7 A8 c2 c3 c4 c5 c6 c7 c8 w' h hz)
  clear hs hz
  generalize hw1 : W.alloc (.cells #[.int .i64 s.f0, .int .u64 s.f1, .slice A2 s.f2.length c2, .slice A3 s.f3.length c3, .slice A4 s.f4.length c4, .slice A5 s.f5.length c5, .slice A6 s.f6.length c6, .slice A7 s.f7.length c7, .slice A8 s.f8.length c8, .int .i64 s.f9] 31 (0, 0)) = w1 at *
  have HW := Lib.hid hw1
  clear hw1
  have q0 : (W.alloc (.cells #[.int .i64 s.f0, .int .u64 s.f1, .slice A2 s.f2.length c2, .slice A3 s.f3.length c3, .slice A4 s.f4.length c4, .slice A5 s.f5.length c5, .slice A6 s.f6.length c6, .slice A7 s.f7.length c7, .slice A8 s.f8.length c8, .int .i64 s.f9] 31 (0, 0))).cell? ⟨W.heap.size, 0, none⟩ = some (.int .i64 s.f0) := by rw [HW.out]; exact (blk_cell HY1.out 0).trans rfl
  have q1 : (W.alloc (.cells #[.int .i64 s.f0, .int .u64 s.f1, .slice A2 s.f2.length c2, .slice A3 s.f3.length c3, .slice A4 s.f4.length c4, .slice A5 s.f5.length c5, .slice A6 s.f6.length c6, .slice A7 s.f7.length c7, .slice A8 s.f8.length c8, .int .i64 s.f9] 31 (0, 0))).cell? ⟨W.heap.size, 1, none⟩ = some (.int .u64 s.f1) := by rw [HW.out]; exact (blk_cell HY1.out 1).trans rfl
  have q2 : (W.alloc (.cells #[.int .i64 s.f0, .int .u64 s.f1, .slice A2 s.f2.length c2, .slice A3 s.f3.length c3, .slice A4 s.f4.length c4, .slice A5 s.f5.length c5, .slice A6 s.f6.length c6, .slice A7 s.f7.length c7, .slice A8 s.f8.length c8, .int .i64 s.f9] 31 (0, 0))).cell? ⟨W.heap.size, 2, none⟩ = some (.slice A2 s.f2.length c2) := by rw [HW.out]; exact (blk_cell HY1.out 2).trans rfl
  have q3 : (W.alloc (.cells #[.int .i64 s.f0, .int .u64 s.f1, .slice A2 s.f2.length c2, .slice A3 s.f3.length c3, .slice A4 s.f4.length c4, .slice A5 s.f5.length c5, .slice A6 s.f6.length c6, .slice A7 s.f7.length c7, .slice A8 s.f8.length c8, .int .i64 s.f9] 31 (0, 0))).cell? ⟨W.heap.size, 3, none⟩ = some (.slice A3 s.f3.length c3) := by rw [HW.out]; exact (blk_cell HY1.out 3).trans rfl
  have q4 : (W.alloc (.cells #[.int .i64 s.f0, .int .u64 s.f1, .slice A2 s.f2.length c2, .slice A3 s.f3.length c3, .slice A4 s.f4.length c4, .slice A5 s.f5.length c5, .slice A6 s.f6.length c6, .slice A7 s.f7.length c7, .slice A8 s.f8.length c8, .int .i64 s.f9] 31 (0, 0))).cell? ⟨W.heap.size, 4, none⟩ = some (.slice A4 s.f4.length c4) := by rw [HW.out]; exact (blk_cell HY1.out 4).trans rfl
  have q5 : (W.alloc (.cells #[.int .i64 s.f0, .int .u64 s.f1, .slice A2 s.f2.length c2, .slice A3 s.f3.length c3, .slice A4 s.f4.length c4, .slice A5 s.f5.length c5, .slice A6 s.f6.length c6, .slice A7 s.f7.length c7, .slice A8 s.f8.length c8, .int .i64 s.f9] 31 (0, 0))).cell? ⟨W.heap.size, 5, none⟩ = some (.slice A5 s.f5.length c5) := by rw [HW.out]; exact (blk_cell HY1.out 5).trans rfl
  have q6 : (W.alloc (.cells #[.int .i64 s.f0, .int .u64 s.f1, .slice A2 s.f2.length c2, .slice A3 s.f3.length c3, .slice A4 s.f4.length c4, .slice A5 s.f5.length c5, .slice A6 s.f6.length c6, .slice A7 s.f7.length c7, .slice A8 s.f8.length c8, .int .i64 s.f9] 31 (0, 0))).cell? ⟨W.heap.size, 6, none⟩ = some (.slice A6 s.f6.length c6) := by rw [HW.out]; exact (blk_cell HY1.out 6).trans rfl
  have q7 : (W.alloc (.cells #[.int .i64 s.f0, .int .u64 s.f1, .slice A2 s.f2.length c2, .slice A3 s.f3.length c3, .slice A4 s.f4.length c4, .slice A5 s.f5.length c5, .slice A6 s.f6.length c6, .slice A7 s.f7.length c7, .slice A8 s.f8.length c8, .int .i64 s.f9] 31 (0, 0))).cell? ⟨W.heap.size, 7, none⟩ = some (.slice A7 s.f7.length c7) := by rw [HW.out]; exact (blk_cell HY1.out 7).trans rfl
  have q8 : (W.alloc (.cells #[.int .i64 s.f0, .int .u64 s.f1, .slice A2 s.f2.length c2, .slice A3 s.f3.length c3, .slice A4 s.f4.length c4, .slice A5 s.f5.length c5, .slice A6 s.f6.length c6, .slice A7 s.f7.length c7, .slice A8 s.f8.length c8, .int .i64 s.f9] 31 (0, 0))).cell? ⟨W.heap.size, 8, none⟩ = some (.slice A8 s.f8.length c8) := by rw [HW.out]; exact (blk_cell HY1.out 8).trans rfl
  have q9 : (W.alloc (.cells #[.int .i64 s.f0, .int .u64 s.f1, .slice A2 s.f2.length c2, .slice A3 s.f3.length c3, .slice A4 s.f4.length c4, .slice A5 s.f5.length c5, .slice A6 s.f6.length c6, .slice A7 s.f7.length c7, .slice A8 s.f8.length c8, .int .i64 s.f9] 31 (0, 0))).cell? ⟨W.heap.size, 9, none⟩ = some (.int .i64 s.f9) := by rw [HW.out]; exact (blk_cell HY1.out 9).trans rfl
  go_enter Tryz.func6, Tryz.ntmps6
  go_wp2_with fail
  rw [HW.out]
  clear HW q0 q1 q2 q3 q4 q5 q6 q7 q8 q9
  refine HSM.out.mono ?_
  rintro e w2 ⟨b, rfl, hf, hb⟩
  have HB2 := Lib.hid (below_tr HB1.out hb)
  have HY2 := Lib.hid ((hb.block W.heap.size (blk_lt HY1.out)).trans HY1.out)
  have HS2 := Lib.hid (HS1.out.below hb)
  have q0 : (w2).cell? ⟨W.heap.size, 0, none⟩ = some (.int .i64 s.f0) := (blk_cell HY2.out 0).trans rfl
  have q1 : (w2).cell? ⟨W.heap.size, 1, none⟩ = some (.int .u64 s.f1) := (blk_cell HY2.out 1).trans rfl
  have q2 : (w2).cell? ⟨W.heap.size, 2, none⟩ = some (.slice A2 s.f2.length c2) := (blk_cell HY2.out 2).trans rfl
  have q3 : (w2).cell? ⟨W.heap.size, 3, none⟩ = some (.slice A3 s.f3.length c3) := (blk_cell HY2.out 3).trans rfl
  have q4 : (w2).cell? ⟨W.heap.size, 4, none⟩ = some (.slice A4 s.f4.length c4) := (blk_cell HY2.out 4).trans rfl
  have q5 : (w2).cell? ⟨W.heap.size, 5, none⟩ = some (.slice A5 s.f5.length c5) := (blk_cell HY2.out 5).trans rfl
  have q6 : (w2).cell? ⟨W.heap.size, 6, none⟩ = some (.slice A6 s.f6.length c6) := (blk_cell HY2.out 6).trans rfl
  have q7 : (w2).cell? ⟨W.heap.size, 7, none⟩ = some (.slice A7 s.f7.length c7) := (blk_cell HY2.out 7).trans rfl
  have q8 : (w2).cell? ⟨W.heap.size, 8, none⟩ = some (.slice A8 s.f8.length c8) := (blk_cell HY2.out 8).trans rfl
  have q9 : (w2).cell? ⟨W.heap.size, 9, none⟩ = some (.int .i64 s.f9) := (blk_cell HY2.out 9).trans rfl
  clear hb
  cases b
  · go_wp2_with fail
    go_ret
    exact RBq.no HB2.out
  · have HF := Lib.hid (hf rfl)
    clear hf
    go_wp2_with fail
    refine (HMA.out w2 HS2.out).mono ?_
    rintro e w3 ⟨b, rfl, hm, hb⟩
    have HB3 := Lib.hid (below_tr HB2.out hb)
    have HM := Lib.hid hm
    clear q0 q1 q2 q3 q4 q5 q6 q7 q8 q9 hb hm
    go_wp2_with fail
    go_ret
    exact RBq.mk (fun h => ⟨HF.out, HM.out h⟩) HB3.out

end Go.Proofs.YtafigkikblpbnaaGreatDoor.PG
