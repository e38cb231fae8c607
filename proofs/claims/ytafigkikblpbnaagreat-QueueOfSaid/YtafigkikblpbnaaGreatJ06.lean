/- A reader's numbers. A reader's texts; no condition beyond each theorem its own. -/
import Derived.Test.YtafigkikblpbnaaGreatJ05
namespace Go.Proofs.YtafigkikblpbnaaGreat.PG
open Go.RowKit Go.Proofs.YtafigkikblpbnaaGreatW.PrintWords Go.Proofs.YtafigkikblpbnaaGreatW.PrintLast Go.Proofs.YtafigkikblpbnaaGreatW.PrintMore
set_option linter.unusedVariables false
set_option linter.unusedSimpArgs false
set_option maxRecDepth 100000

theorem Rdr.blk {w : World} {p : Nat} {f : Bool} (h : Rdr w p f) : ∃ v, w.heap[p]? = some (.cells #[v, .bool f] 196 (0, 0)) := by
  obtain ⟨A, xs, c, hb, _⟩ := h
  exact ⟨_, hb⟩
theorem Rdr.fail {w : World} {p : Nat} {f : Bool} (h : Rdr w p f) : Rdr (w.setCell ⟨p, 1, none⟩ (.bool true)) p true := by
  obtain ⟨A, xs, c, hb, hC, hc, hf, hx⟩ := h
  exact ⟨A, xs, c, blk_set hb 1 _, Kd.C_keep 0 hC (keep_grown (grown_set w p 1 _)) hf, hc, hf, hx⟩
/-- It answers a number; the reader alone is turned. -/
def Nummed (m : Int) (k : IntKind) (p : Nat) (w : World) (e : Ending) (w' : World) : Prop := ∃ (v : Int) (f : Bool), e = .returned (.int k v) ∧ 0 ≤ v ∧ v ≤ m ∧ Rdr w' p f ∧ w.grownBy w' (some p)
theorem u8_first {w : World} {A : Option Addr} {ys : List Int} (h : (Kd.int .u8).C w A ys.length ys) (h0 : 0 < ys.length) : ∃ ad x, A = some ad ∧ w.cell? ad = some (.int .u8 x) := by
  obtain ⟨ad, c, e, hl, hK, hc⟩ := Kd.C_get h 0 0 (by omega) (by omega)
  have hk : c = [.int .u8 (ys.getD (0 : Int).toNat 0)] := hK
  rw [hk] at hc
  have h := hc 0 _ rfl
  rw [show (0 : Int).toNat * (Kd.int IntKind.u8).sz + 0 = 0 from rfl] at h
  rw [show ad.add 0 = ad by obtain ⟨b, o, s⟩ := ad; unfold Addr.add; cases s <;> simp] at h
  exact ⟨ad, _, e, h⟩
theorem u64_range (n : Int) : 0 ≤ IntKind.u64.wrap n ∧ IntKind.u64.wrap n ≤ 18446744073709551615 := by rw [IntKind.wrap_u64]; omega
set_option maxHeartbeats 1000000 in
theorem value_any (xs : List Int) (A : Option Addr) (c : Nat) (w : World) (hC : (Kd.int .u8).C w A xs.length xs) : Calls Tryz.prog 164 #[.slice A xs.length c] w fun e w' => ∃ v : Int, e = .returned (.int .u64 v) ∧ 0 ≤ v ∧ v ≤ 18446744073709551615 ∧ Below w.heap.size w w' := by
  have hm : xs.length ≤ 9223372036854775807 := hC.2.1
  go_enter Tryz.func164, Tryz.ntmps164
  go_wp2
  go_loopw [3, 4] (fun v3 v4 wr => ∃ (k : Nat) (q : Int), v4 = .int .i64 k ∧ k ≤ xs.length ∧ v3 = .int .u64 q ∧ 0 ≤ q ∧ q ≤ 18446744073709551615 ∧ Aside0 (wr = w)) (fun v3 v4 _ => xs.length - (intOf v4).toNat)
  case atStart => exact ⟨0, 0, rfl, Nat.zero_le _, rfl, by omega, by omega, ⟨rfl⟩⟩
  case round =>
    obtain ⟨k, q, rfl, hk, rfl, hq1, hq2, HW⟩ := hrel
    obtain rfl := HW.out
    by_cases hlt : k < xs.length
    · have hlt2 : (k : Int) < (xs.length : Int) := by omega
      obtain ⟨ad, cl, e, hl, hK, hc⟩ := Kd.C_get hC 0 (k : Int) (by omega) (by omega)
      have hk1 : cl = [.int .u8 (xs.getD (k : Int).toNat 0)] := hK
      rw [hk1] at hc
      have h0 := hc 0 _ rfl
      subst e
      simp only [Int.toNat_natCast, show (Kd.int IntKind.u8).sz = 1 from rfl, Nat.mul_one, Nat.add_zero] at h0
      generalize xs.getD k 0 = x at *
      clear hc hK hk1 hl
      go_wp2
      go_roundw
      case rel => exact ⟨k + 1, _, by go_num, by omega, rfl, by first | omega | exact (u64_range _).1, by first | omega | exact (u64_range _).2, ⟨by first | rfl | trivial⟩⟩
      case measure => simp [intOf]; omega
    · go_wp2
      go_ret
      exact ⟨q, rfl, hq1, hq2, Below.refl _ _⟩
set_option maxHeartbeats 2000000 in
theorem num_any_ (p : Nat) (f : Bool) (w : World) (h : Rdr w p f) : Calls Tryz.prog 156 #[.pointer (some ⟨p, 0, none⟩)] w (Nummed 18446744073709551615 .u64 p w) := by
  have HT1 := Lib.hid (take_any p 1 f w h)
  clear h
  go_enter Tryz.func156, Tryz.ntmps156
  go_wp2_with fail
  refine HT1.out.mono ?_
  rintro e w1 ⟨A1, c1, ys1, f1, rfl, hl1, hC1, hf1, hr1, hn1, hg1, _⟩
  obtain ⟨vb, hb1⟩ := hr1.blk
  have q1 : w1.cell? ⟨p, 1, none⟩ = some (.bool f1) := (blk_cell hb1 1).trans rfl
  have z1 := blk_frozen hb1 1
  have HR1 := Lib.hid hr1
  have HG1 := Lib.hid hg1
  have HF1 := Lib.hid (show Nummed 18446744073709551615 .u64 p w (.returned (.int .u64 0)) (w1.setCell ⟨p, 1, none⟩ (.bool true)) from ⟨0, true, rfl, by omega, by omega, hr1.fail, grown_tr hg1 (grown_set _ _ _ _)⟩)
  clear hr1 hg1 hb1
  cases f1
  · have hy := hn1 rfl
    have hy1 : ys1.length = 1 := by omega
    obtain ⟨ad, x, rfl, hx⟩ := u8_first hC1 (by omega)
    rw [hy1]
    clear hn1 hy hf1
    have HT2 := fun n => Lib.hid (take_any p n false w1 HR1.out)
    by_cases h8 : 8 < x
    · go_wp2
      go_ret
      exact HF1.out
    go_wp2_with fail
    refine (HT2 _).out.mono ?_
    rintro e w2 ⟨A2, c2, ys2, f2, rfl, hl2, hC2, hf2, hr2, hn2, hg2, _⟩
    obtain ⟨vb, hb2⟩ := hr2.blk
    clear q1 z1 hx
    have q1 : w2.cell? ⟨p, 1, none⟩ = some (.bool f2) := (blk_cell hb2 1).trans rfl
    have z1 := blk_frozen hb2 1
    have hgg := grown_tr HG1.out hg2
    have HF2 := Lib.hid (show Nummed 18446744073709551615 .u64 p w (.returned (.int .u64 0)) (w2.setCell ⟨p, 1, none⟩ (.bool true)) from ⟨0, true, rfl, by omega, by omega, hr2.fail, grown_tr hgg (grown_set _ _ _ _)⟩)
    have HV := Lib.hid (value_any ys2 A2 c2 w2 hC2)
    have HR2 := Lib.hid hr2
    have HGG := Lib.hid hgg
    clear hb2 hr2 hgg hg2 hn2 hf2 hl2
    cases f2
    · have fin : ∀ e w', (∃ v : Int, e = Ending.returned (.int .u64 v) ∧ 0 ≤ v ∧ v ≤ 18446744073709551615 ∧ Below w2.heap.size w2 w') → Nummed 18446744073709551615 .u64 p w e w' := by
        rintro e w' ⟨v, rfl, h1, h2, hb⟩
        refine ⟨v, false, rfl, h1, h2, ?_, grown_tr HGG.out (grown_below hb)⟩
        obtain ⟨A, xs, c, hb3, hC3, hc3, hf3, hx3⟩ := HR2.out
        exact ⟨A, xs, c, (hb.block p (blk_lt hb3)).trans hb3, Kd.C_below hC3 hb, hc3, hf3, hx3⟩
      have FIN := Lib.hid fin
      clear fin
      by_cases h20 : 0 < ys2.length
      · obtain ⟨ad2, x2, rfl, hx2⟩ := u8_first hC2 h20
        have h20' : (0 : Int) < (ys2.length : Int) := by omega
        clear hC2
        by_cases h00 : x2 = 0
        · subst h00
          go_wp2
          go_ret
          exact HF2.out
        · go_wp2_with (go_at_call 164; refine HV.out.mono ?_; rintro e w3 ⟨v, rfl, h1, h2, hb⟩)
          all_goals
            go_ret
            exact FIN.out _ _ ⟨v, rfl, h1, h2, hb⟩
      · have h20' : ¬ (0 : Int) < (ys2.length : Int) := by omega
        clear hC2
        go_wp2_with (go_at_call 164; refine HV.out.mono ?_; rintro e w3 ⟨v, rfl, h1, h2, hb⟩)
        all_goals
          go_ret
          exact FIN.out _ _ ⟨v, rfl, h1, h2, hb⟩
    · go_wp2
      all_goals (go_ret; exact HF2.out)
  · go_wp2
    all_goals (go_ret; exact HF1.out)
end Go.Proofs.YtafigkikblpbnaaGreat.PG
namespace Go.Proofs.YtafigkikblpbnaaGreat.PG
open Go.RowKit Go.Proofs.YtafigkikblpbnaaGreatW.PrintWords Go.Proofs.YtafigkikblpbnaaGreatW.PrintLast Go.Proofs.YtafigkikblpbnaaGreatW.PrintMore
set_option linter.unusedVariables false
set_option linter.unusedSimpArgs false
set_option maxRecDepth 100000

set_option maxHeartbeats 1000000 in
theorem count_any_ (p : Nat) (f : Bool) (m : Nat) (hm : m ≤ 4611686018427387904) (w : World) (h : Rdr w p f) : Calls Tryz.prog 143 #[.pointer (some ⟨p, 0, none⟩), .int .i64 m] w (Nummed m .i64 p w) := by
  have HN := Lib.hid (num_any_ p f w h)
  clear h
  go_enter Tryz.func143, Tryz.ntmps143
  go_wp2_with fail
  refine HN.out.mono ?_
  rintro e w1 ⟨v, f1, rfl, hv1, hv2, hr1, hg1⟩
  obtain ⟨vb, hb1⟩ := hr1.blk
  have z1 := blk_frozen hb1 1
  have q1 : w1.cell? ⟨p, 1, none⟩ = some (.bool f1) := (blk_cell hb1 1).trans rfl
  have HF := Lib.hid (show Nummed m .i64 p w (.returned (.int .i64 0)) (w1.setCell ⟨p, 1, none⟩ (.bool true)) from ⟨0, true, rfl, by omega, by omega, hr1.fail, grown_tr hg1 (grown_set _ _ _ _)⟩)
  have HR := Lib.hid hr1
  have HG := Lib.hid hg1
  clear hr1 hg1 hb1
  have hwm : IntKind.u64.wrap (m : Int) = (m : Int) := by rw [IntKind.wrap_u64]; omega
  by_cases hvm : (m : Int) < v
  · go_wp2
    go_ret
    exact HF.out
  · have hwv : wrap64 v = v := by unfold wrap64; omega
    have HK := Lib.hid (show Nummed m .i64 p w (.returned (.int .i64 v)) w1 from ⟨v, f1, rfl, hv1, by omega, HR.out, HG.out⟩)
    go_wp2
    go_ret
    exact HK.out
/-- It answers bytes of its own; the reader alone is turned. -/
def Took2 (p : Nat) (w : World) (e : Ending) (w' : World) : Prop :=
  ∃ (A : Option Addr) (c : Nat) (ys : List Int) (f : Bool), e = .returned (.slice A ys.length c) ∧ ys.length ≤ c ∧ (Kd.int .u8).C w' A ys.length ys ∧ Rdr w' p f ∧ w.grownBy w' (some p) ∧ ys.length ≤ 140737488351232
set_option maxHeartbeats 1000000 in
theorem text_any_ (p : Nat) (f : Bool) (m : Nat) (hm : m ≤ 4611686018427387904) (w : World) (h : Rdr w p f) : Calls Tryz.prog 144 #[.pointer (some ⟨p, 0, none⟩), .int .i64 m] w (Took2 p w) := by
  have HN := Lib.hid (count_any_ p f m hm w h)
  clear h
  go_enter Tryz.func144, Tryz.ntmps144
  go_wp2_with fail
  refine HN.out.mono ?_
  rintro e w1 ⟨v, f1, rfl, hv1, hv2, hr1, hg1⟩
  have HT := Lib.hid (take_any p v f1 w1 hr1)
  have HG := Lib.hid hg1
  clear hr1 hg1
  go_wp2_with fail
  refine HT.out.mono ?_
  rintro e w2 ⟨A, c, ys, f2, rfl, hl2, hC2, hf2, hr2, hn2, hg2, hy2⟩
  have HK := Lib.hid (show Took2 p w (.returned (.slice A ys.length c)) w2 from ⟨A, c, ys, f2, rfl, hl2, hC2, hr2, grown_tr HG.out hg2, hy2⟩)
  clear hl2 hC2 hf2 hr2 hn2 hg2
  go_wp2
  go_ret
  exact HK.out
theorem name23_any (s : ByteArray) (hs : s.size ≤ 140737488351232) (w : World) : Calls Tryz.prog 157 #[.string s] w (RB w) := by
  have HN := Lib.hid (Name_eq s hs w)
  go_enter Tryz.func157, Tryz.ntmps157
  go_wp2_with (go_at_call 36; refine HN.out.mono ?_; rintro e w2 ⟨rfl, rfl⟩)
  all_goals (go_ret; exact RB.mk)
set_option maxHeartbeats 1000000 in
theorem May23_any (a b : Int) (s u : ByteArray) (hs : s.size ≤ 140737488351232) (hu : u.size ≤ 140737488351232) (W : World) : Calls Tryz.prog 145 #[.agg #[.int .i64 a, .int .i64 b, .string s, .string u]] W (RBb W) := by
  have HS := fun w => Lib.hid (name23_any s hs w)
  have HU := fun w => Lib.hid (name23_any u hu w)
  go_enter Tryz.func145, Tryz.ntmps145
  go_wp2_with (first | (go_at_call 157; refine (HS _).out.mono ?_; rintro e w2 ⟨q, rfl, rfl⟩) | (go_at_call 157; refine (HU _).out.mono ?_; rintro e w3 ⟨q2, rfl, rfl⟩))
  all_goals (go_ret; exact RBb.mk (below_alloc (Below.refl _ _) _))
set_option maxHeartbeats 1000000 in
theorem Ends23_any (a b : Int) (s u : ByteArray) (hs : s.size ≤ 140737488351232) (hu : u.size ≤ 140737488351232) (W : World) : Calls Tryz.prog 117 #[.agg #[.int .i64 a, .int .i64 b, .string s, .string u]] W (RBb W) := by
  have HM := Lib.hid (May23_any a b s u hs hu (W.alloc (.cells #[.int .i64 a, .int .i64 b, .string s, .string u] 90 (0, 0))))
  have HY := Lib.hid (new_blk W (.cells #[.int .i64 a, .int .i64 b, .string s, .string u] 90 (0, 0)))
  have HB := Lib.hid (show Below W.heap.size W (W.alloc (.cells #[.int .i64 a, .int .i64 b, .string s, .string u] 90 (0, 0))) from below_alloc (Below.refl _ _) _)
  go_enter Tryz.func117, Tryz.ntmps117
  go_wp2_with fail
  refine HM.out.mono ?_
  rintro e w2 ⟨q, rfl, hb⟩
  have HY2 := Lib.hid ((hb.block W.heap.size (blk_lt HY.out)).trans HY.out)
  have q0 : w2.cell? ⟨W.heap.size, 0, none⟩ = some (.int .i64 a) := (blk_cell HY2.out 0).trans rfl
  have HB2 := Lib.hid (below_tr HB.out hb)
  clear hb
  go_wp2
  all_goals (go_ret; exact RBb.mk HB2.out)
end Go.Proofs.YtafigkikblpbnaaGreat.PG
