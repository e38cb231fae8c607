/- The item of a record that is to be reviewed; no condition beyond each theorem its own. -/
import Derived.Test.YtafigkikblpbnaaGreatJ17
import Derived.Test.YtafigkikblpbnaaGreatJ18
import Derived.Test.YtafigkikblpbnaaGreatJ19
import Derived.Test.YtafigkikblpbnaaGreatHandW
import Derived.Test.YtafigkikblpbnaaGreatHandS
namespace Go.Proofs.YtafigkikblpbnaaGreat.PG
open Go.RowKit Go.Proofs.YtafigkikblpbnaaGreatW.PrintWords Go.Proofs.YtafigkikblpbnaaGreatW.PrintLast Go.Proofs.YtafigkikblpbnaaGreatW.PrintMore
set_option linter.unusedVariables false
set_option linter.unusedSimpArgs false
set_option maxRecDepth 100000
theorem tab21_4 : rtab .any (opsOf Tryz.f21 4) = (true, [([], []), ([0], [0]), ([], []), ([], []), ([3], [3]), ([], []), ([4, 5], [4, 5]), ([6], [6]), ([1, 2, 7], [1, 2, 7]), ([8], [8]), ([9], [9]), ([9], [9]), ([9], [9]), ([10, 8, 0, 1, 2, 3, 4, 5, 6, 7, 8, 9, 10], [10]), ([11, 13, 0, 1, 2, 3, 4, 5, 6, 7, 8, 9, 10, 11, 13], [11]), ([12, 14, 0, 1, 2, 3, 4, 5, 6, 7, 8, 9, 10, 11, 12, 13, 14], [12])]) := by kernel_rfl
theorem tab21_5 : rtab .any (opsOf Tryz.f21 5) = (true, [([], []), ([0], [0]), ([], []), ([], []), ([1, 2, 3], [1, 2, 3]), ([], []), ([5], [5]), ([6], [6]), ([7, 6], [6, 7]), ([6, 8], [6, 8]), ([9, 6], [9]), ([10], [10]), ([10], [10]), ([12, 10], [10, 12]), ([11, 13, 10], [10, 11, 13]), ([10, 14], [10, 14]), ([4, 10, 0, 1, 2, 3, 4], [4]), ([15, 16, 0, 1, 2, 3, 4, 5, 6, 7, 8, 9, 10, 11, 12, 13, 14, 15, 16], [15])]) := by kernel_rfl
section
variable {P : Program} {ops : Array Oper} {Q : Exit → Act → World → Prop} {md : Region.Mode} {S : World → Prop} {ds : List Nat} {T : Bool × List (List Nat × List Nat)}
theorem WL.last {i : Nat} {is : List Nat} {rest : List Oper} {N : Option Tmp} {oi : Oper} {fuel : Nat} {lb lb' : List Bool} {a : Act} {w : World} (hi : ops.toList.drop i = oi :: rest) (hN : oi.dst = N) (hl : lb.set i true = lb') (hT : rtab md ops = T) (hc : (readyT T.2 lb == [i] && lb.set i true == lb') = true) (hd : i ∈ ds)
    (h : ∀ K : Act → World → Prop, Shut (∀ a' w', WL is (wpAnyLast P md ops Q S ds fuel lb'.toArray a' w') → K a' w') → if Region.wanted oi (yielded ops a.tmps) = true then Oper.wp P oi a w K Q else K (a.put N undef) w) :
    WL (i :: is) (wpAnyLast P md ops Q S ds (fuel + 1) lb.toArray a w) :=
  ⟨last_ _ (at_drop hi) hN (one_of hT (by simpa using hc)) hd (fun K hK => h K (fun a' w' hn => hK a' w' hn.out))⟩
end

theorem far3 {w : World} {b : Nat} {v0 v1 v2 v : Value} {a : Addr} (h : a.block ≠ b) (hc : w.cell? a = some v) : (((w.setCell ⟨b, 0, none⟩ v0).setCell ⟨b, 1, none⟩ v1).setCell ⟨b, 2, none⟩ v2).cell? a = some v :=
  (World.cell?_of_block ((Below.heap_setCell _ ⟨b, 2, none⟩ _ a.block h).trans ((Below.heap_setCell _ ⟨b, 1, none⟩ _ a.block h).trans (Below.heap_setCell _ ⟨b, 0, none⟩ _ a.block h)))).trans hc
theorem rd_memi59 {l : List S59} {i : Int} (h0 : 0 ≤ i) (h : i < l.length) : rd_T59 l i ∈ l := by
  obtain ⟨k, rfl⟩ : ∃ k : Nat, i = (k : Int) := ⟨i.toNat, by omega⟩
  exact rd_mem59 (by omega)
/-- What is known of a state that can be asked. -/
structure Ask (d : Nat) (s : S31) : Prop where
  rules : ∀ x ∈ s.f2, lim 8 x.f1
  miles : ∀ y ∈ s.f3, y.f1.length ≤ 1000
  holds : ∀ x ∈ s.f6, dp d x.f1
  few : s.f6.length ≤ 1000000
/-- Where a record's case stands. -/
def csI (s : S31) (r : S73) : Int := ix (nm59 r.f1) s.f3 0
/-- The item of a record that is to be reviewed. -/
def rvL (d : Nat) (s : S31) (i : Int) (r : S73) : S40 × Bool :=
  if r.f5 = 1 ∧ 0 ≤ csI s r ∧ heldP d s.f6 r = false then
    (⟨r.f0, (dueL s.f2 r (rd_T59 s.f3 (csI s r))).1, i⟩, (dueL s.f2 r (rd_T59 s.f3 (csI s r))).2.2 && decide ((dueL s.f2 r (rd_T59 s.f3 (csI s r))).2.1 = 2) && decide ((dueL s.f2 r (rd_T59 s.f3 (csI s r))).1 ≤ s.f0))
  else (⟨⟨#[]⟩, 0, 0⟩, false)
/-- It answers an item and a truth value. -/
def RIt (v : S40 × Bool) (W : World) (e : Ending) (w' : World) : Prop := e = .returned (.tuple #[.agg #[.string v.1.f0, .int .i64 v.1.f1, .int .i64 v.1.f2], .bool v.2]) ∧ Below W.heap.size W w'
set_option maxHeartbeats 4000000 in
theorem review_any (d : Nat) (s : S31) (A2 A3 A4 A5 A6 A7 A8 : Option Addr) (c2 c3 c4 c5 c6 c7 c8 : Nat) (i : Int) (r : S73) (W : World) (hs : Rs W s A2 A3 A4 A5 A6 A7 A8 c2 c3 c4 c5 c6 c7 c8) (ha : Ask d s) :
    Calls Tryz.prog 21 #[.agg #[.int .i64 s.f0, .int .u64 s.f1, .slice A2 s.f2.length c2, .slice A3 s.f3.length c3, .slice A4 s.f4.length c4, .slice A5 s.f5.length c5, .slice A6 s.f6.length c6, .slice A7 s.f7.length c7, .slice A8 s.f8.length c8, .int .i64 s.f9], .int .i64 i, .agg #[.string r.f0, .string r.f1, .string r.f2, .string r.f3, .int .i64 r.f4, .int .i64 r.f5]] W (RIt (rvL d s i r) W) := by
  obtain ⟨W3, hW3⟩ : ∃ W3, ((W.alloc (.cells #[.int .i64 s.f0, .int .u64 s.f1, .slice A2 s.f2.length c2, .slice A3 s.f3.length c3, .slice A4 s.f4.length c4, .slice A5 s.f5.length c5, .slice A6 s.f6.length c6, .slice A7 s.f7.length c7, .slice A8 s.f8.length c8, .int .i64 s.f9] 31 (0, 0))).alloc (.cells #[.string r.f0, .string r.f1, .string r.f2, .string r.f3, .int .i64 r.f4, .int .i64 r.f5] 73 (0, 0))).alloc (.cells #[.string (⟨#[]⟩ : ByteArray), .int .i64 0, .int .i64 0] 39 (0, 0)) = W3 := ⟨_, rfl⟩
  have HB := Lib.hid (show Below W.heap.size W W3 by rw [← hW3]; exact below_alloc (below_alloc (below_alloc (Below.refl _ _) _) _) _)
  have hz1 : (W.alloc (.cells #[.int .i64 s.f0, .int .u64 s.f1, .slice A2 s.f2.length c2, .slice A3 s.f3.length c3, .slice A4 s.f4.length c4, .slice A5 s.f5.length c5, .slice A6 s.f6.length c6, .slice A7 s.f7.length c7, .slice A8 s.f8.length c8, .int .i64 s.f9] 31 (0, 0))).heap.size = W.heap.size + 1 := by show (W.heap.push _).size = _; rw [Array.size_push]
  have hz2 : ((W.alloc (.cells #[.int .i64 s.f0, .int .u64 s.f1, .slice A2 s.f2.length c2, .slice A3 s.f3.length c3, .slice A4 s.f4.length c4, .slice A5 s.f5.length c5, .slice A6 s.f6.length c6, .slice A7 s.f7.length c7, .slice A8 s.f8.length c8, .int .i64 s.f9] 31 (0, 0))).alloc (.cells #[.string r.f0, .string r.f1, .string r.f2, .string r.f3, .int .i64 r.f4, .int .i64 r.f5] 73 (0, 0))).heap.size = W.heap.size + 1 + 1 := by show ((W.heap.push _).push _).size = _; rw [Array.size_push, Array.size_push]
  have hy1 := new_blk W (.cells #[.int .i64 s.f0, .int .u64 s.f1, .slice A2 s.f2.length c2, .slice A3 s.f3.length c3, .slice A4 s.f4.length c4, .slice A5 s.f5.length c5, .slice A6 s.f6.length c6, .slice A7 s.f7.length c7, .slice A8 s.f8.length c8, .int .i64 s.f9] 31 (0, 0))
  have hy2 := new_blk (W.alloc (.cells #[.int .i64 s.f0, .int .u64 s.f1, .slice A2 s.f2.length c2, .slice A3 s.f3.length c3, .slice A4 s.f4.length c4, .slice A5 s.f5.length c5, .slice A6 s.f6.length c6, .slice A7 s.f7.length c7, .slice A8 s.f8.length c8, .int .i64 s.f9] 31 (0, 0))) (.cells #[.string r.f0, .string r.f1, .string r.f2, .string r.f3, .int .i64 r.f4, .int .i64 r.f5] 73 (0, 0))
  have hy3 := new_blk ((W.alloc (.cells #[.int .i64 s.f0, .int .u64 s.f1, .slice A2 s.f2.length c2, .slice A3 s.f3.length c3, .slice A4 s.f4.length c4, .slice A5 s.f5.length c5, .slice A6 s.f6.length c6, .slice A7 s.f7.length c7, .slice A8 s.f8.length c8, .int .i64 s.f9] 31 (0, 0))).alloc (.cells #[.string r.f0, .string r.f1, .string r.f2, .string r.f3, .int .i64 r.f4, .int .i64 r.f5] 73 (0, 0))) (.cells #[.string (⟨#[]⟩ : ByteArray), .int .i64 0, .int .i64 0] 39 (0, 0))
  have hb2 := below_alloc (Below.refl (W.alloc (.cells #[.int .i64 s.f0, .int .u64 s.f1, .slice A2 s.f2.length c2, .slice A3 s.f3.length c3, .slice A4 s.f4.length c4, .slice A5 s.f5.length c5, .slice A6 s.f6.length c6, .slice A7 s.f7.length c7, .slice A8 s.f8.length c8, .int .i64 s.f9] 31 (0, 0))).heap.size _) (.cells #[.string r.f0, .string r.f1, .string r.f2, .string r.f3, .int .i64 r.f4, .int .i64 r.f5] 73 (0, 0))
  have hb3 := below_alloc (Below.refl ((W.alloc (.cells #[.int .i64 s.f0, .int .u64 s.f1, .slice A2 s.f2.length c2, .slice A3 s.f3.length c3, .slice A4 s.f4.length c4, .slice A5 s.f5.length c5, .slice A6 s.f6.length c6, .slice A7 s.f7.length c7, .slice A8 s.f8.length c8, .int .i64 s.f9] 31 (0, 0))).alloc (.cells #[.string r.f0, .string r.f1, .string r.f2, .string r.f3, .int .i64 r.f4, .int .i64 r.f5] 73 (0, 0))).heap.size _) (.cells #[.string (⟨#[]⟩ : ByteArray), .int .i64 0, .int .i64 0] 39 (0, 0))
  have hy1b := ((below_tr hb2 hb3).block _ (blk_lt hy1)).trans hy1
  have hy2b := (hb3.block _ (blk_lt hy2)).trans hy2
  rw [hz1] at hy2b
  rw [hz2] at hy3
  rw [hW3] at hy1b hy2b hy3
  have HY1 := Lib.hid hy1b
  have HY2 := Lib.hid hy2b
  have HY3 := Lib.hid hy3
  have HW3 := Lib.hid hW3
  have HS := Lib.hid (hs.below HB.out)
  have HA := Lib.hid ha
  clear hs ha hW3 hz1 hz2 hy1 hy2 hy3 hb2 hb3 hy1b hy2b
  have q0 : (W3).cell? ⟨W.heap.size, 0, none⟩ = some (.int .i64 s.f0) := (blk_cell HY1.out 0).trans rfl
  have q1 : (W3).cell? ⟨W.heap.size, 1, none⟩ = some (.int .u64 s.f1) := (blk_cell HY1.out 1).trans rfl
  have q2 : (W3).cell? ⟨W.heap.size, 2, none⟩ = some (.slice A2 s.f2.length c2) := (blk_cell HY1.out 2).trans rfl
  have q3 : (W3).cell? ⟨W.heap.size, 3, none⟩ = some (.slice A3 s.f3.length c3) := (blk_cell HY1.out 3).trans rfl
  have q4 : (W3).cell? ⟨W.heap.size, 4, none⟩ = some (.slice A4 s.f4.length c4) := (blk_cell HY1.out 4).trans rfl
  have q5 : (W3).cell? ⟨W.heap.size, 5, none⟩ = some (.slice A5 s.f5.length c5) := (blk_cell HY1.out 5).trans rfl
  have q6 : (W3).cell? ⟨W.heap.size, 6, none⟩ = some (.slice A6 s.f6.length c6) := (blk_cell HY1.out 6).trans rfl
  have q7 : (W3).cell? ⟨W.heap.size, 7, none⟩ = some (.slice A7 s.f7.length c7) := (blk_cell HY1.out 7).trans rfl
  have q8 : (W3).cell? ⟨W.heap.size, 8, none⟩ = some (.slice A8 s.f8.length c8) := (blk_cell HY1.out 8).trans rfl
  have q9 : (W3).cell? ⟨W.heap.size, 9, none⟩ = some (.int .i64 s.f9) := (blk_cell HY1.out 9).trans rfl
  have r0 : W3.cell? ⟨W.heap.size + 1, 0, none⟩ = some (.string r.f0) := (blk_cell HY2.out 0).trans rfl
  have r1 : W3.cell? ⟨W.heap.size + 1, 1, none⟩ = some (.string r.f1) := (blk_cell HY2.out 1).trans rfl
  have r2 : W3.cell? ⟨W.heap.size + 1, 2, none⟩ = some (.string r.f2) := (blk_cell HY2.out 2).trans rfl
  have r3 : W3.cell? ⟨W.heap.size + 1, 3, none⟩ = some (.string r.f3) := (blk_cell HY2.out 3).trans rfl
  have r4 : W3.cell? ⟨W.heap.size + 1, 4, none⟩ = some (.int .i64 r.f4) := (blk_cell HY2.out 4).trans rfl
  have r5 : W3.cell? ⟨W.heap.size + 1, 5, none⟩ = some (.int .i64 r.f5) := (blk_cell HY2.out 5).trans rfl
  obtain ⟨D, hD⟩ : ∃ D, D = rvL d s i r := ⟨_, rfl⟩
  rw [← hD]
  have HD := Lib.hid hD
  clear hD
  have HCS := Lib.hid (catCase_any s _ _ _ _ _ _ _ _ _ _ _ _ _ _ r.f1 W3 HS.out)
  go_enter Tryz.func21, Tryz.ntmps21
  go_wp2_with fail
  rw [HW3.out]
  refine HCS.out.mono ?_
  rintro e w4 ⟨rfl, hb⟩
  have HJR := Lib.hid (ix_range (nm59 r.f1) s.f3 0)
  have HB4 := Lib.hid (below_tr HB.out hb)
  have HY14 := Lib.hid ((hb.block _ (blk_lt HY1.out)).trans HY1.out)
  have HY24 := Lib.hid ((hb.block _ (blk_lt HY2.out)).trans HY2.out)
  have HY34 := Lib.hid ((hb.block _ (blk_lt HY3.out)).trans HY3.out)
  have HS4 := Lib.hid (HS.out.below hb)
  have HGE := Lib.hid (show W.heap.size ≤ W.heap.size + 1 + 1 by omega)
  have HCI := Lib.hid (show csI s r = ix (nm59 r.f1) s.f3 0 from rfl)
  replace q0 := below_cell hb q0
  replace q1 := below_cell hb q1
  replace q2 := below_cell hb q2
  replace q3 := below_cell hb q3
  replace q4 := below_cell hb q4
  replace q5 := below_cell hb q5
  replace q6 := below_cell hb q6
  replace q7 := below_cell hb q7
  replace q8 := below_cell hb q8
  replace q9 := below_cell hb q9
  replace r0 := below_cell hb r0
  replace r1 := below_cell hb r1
  replace r2 := below_cell hb r2
  replace r3 := below_cell hb r3
  replace r4 := below_cell hb r4
  replace r5 := below_cell hb r5
  clear hb
  generalize ix (nm59 r.f1) s.f3 0 = ci at *
  generalize hr5 : (r.f5 != 1) = b5 at *
  cases b5
  · by_cases hci : 0 ≤ ci
    · have hc2 : decide (ci ≥ 0) = true := decide_eq_true hci
      have hmx : max ci 0 = ci := by omega
      have HH := Lib.hid (Held_any d s.f6 r A6 c6 w4 HA.out.holds HS4.out.g6)
      have HHP := Lib.hid (show (s.f6.any fun x => x.f2 && mt d x.f1 r) = heldP d s.f6 r from rfl)
      generalize (s.f6.any fun x => x.f2 && mt d x.f1 r) = h9 at *
      have hlc : ci < (s.f3.length : Int) := by have := HJR.out; omega
      go_wp2_with fail
      refine HH.out.mono ?_
      rintro e w5 ⟨rfl, hb⟩
      have HB5 := Lib.hid (below_tr HB4.out hb)
      have HY25 := Lib.hid ((hb.block _ (blk_lt HY24.out)).trans HY24.out)
      have HY35 := Lib.hid ((hb.block _ (blk_lt HY34.out)).trans HY34.out)
      have HS5 := Lib.hid (HS4.out.below hb)
      replace q0 := below_cell hb q0
      replace q1 := below_cell hb q1
      replace q2 := below_cell hb q2
      replace q3 := below_cell hb q3
      replace q4 := below_cell hb q4
      replace q5 := below_cell hb q5
      replace q6 := below_cell hb q6
      replace q7 := below_cell hb q7
      replace q8 := below_cell hb q8
      replace q9 := below_cell hb q9
      replace r0 := below_cell hb r0
      replace r1 := below_cell hb r1
      replace r2 := below_cell hb r2
      replace r3 := below_cell hb r3
      replace r4 := below_cell hb r4
      replace r5 := below_cell hb r5
      clear hb
      have hr6 : r.f5 = 1 := by simpa [bne] using hr5
      cases h9
      · obtain ⟨ad, A1, c1, e, h0, h1, hl1, hC1⟩ := at_T59 HS5.out.g3 ci hci hlc
        subst e
        have HDD := Lib.hid (show D = (⟨r.f0, (dueL s.f2 r (rd_T59 s.f3 ci)).1, i⟩, (dueL s.f2 r (rd_T59 s.f3 ci)).2.2 && decide ((dueL s.f2 r (rd_T59 s.f3 ci)).2.1 = 2) && decide ((dueL s.f2 r (rd_T59 s.f3 ci)).1 ≤ s.f0)) by rw [HD.out]; unfold rvL; rw [HCI.out, if_pos ⟨hr6, hci, HHP.out.symm⟩])
        have HMI := Lib.hid (HA.out.miles _ (rd_memi59 hci hlc))
        clear hr6 hr5
        generalize rd_T59 s.f3 ci = c at *
        have HOF := fun w' (h : Below w5.heap.size w5 w') => Lib.hid (OfP_any s.f2 r c A2 c2 A1 c1 w' (HS5.out.below h).g2 (HS5.out.below h).l2 HA.out.rules (Kd.C_below hC1 h) hl1 HMI.out)
        clear hl1 hC1
        generalize dueL s.f2 r c = du at *
        obtain ⟨du1, du2, du3⟩ := du
        go_wp2_with fail
        refine WL.start (n := 16) (S := fun w' => Aside0 (Below w5.heap.size w5 w') ∧ w'.cell? ⟨W.heap.size, 0, none⟩ = some (.int .i64 s.f0) ∧ w'.cell? ⟨W.heap.size, 2, none⟩ = some (.slice A2 s.f2.length c2) ∧ w'.cell? ⟨W.heap.size, 3, none⟩ = some (.slice (some ad) s.f3.length c3) ∧ w'.cell? ⟨W.heap.size + 1, 0, none⟩ = some (.string r.f0) ∧ w'.cell? ⟨W.heap.size + 1, 1, none⟩ = some (.string r.f1) ∧ w'.cell? ⟨W.heap.size + 1, 2, none⟩ = some (.string r.f2) ∧ w'.cell? ⟨W.heap.size + 1, 3, none⟩ = some (.string r.f3) ∧ w'.cell? ⟨W.heap.size + 1, 4, none⟩ = some (.int .i64 r.f4) ∧ w'.cell? ⟨W.heap.size + 1, 5, none⟩ = some (.int .i64 r.f5) ∧ w'.cell? (ad.add (ci.toNat * 2)) = some (.string c.f0) ∧ w'.cell? ⟨(ad.add (ci.toNat * 2)).block, (ad.add (ci.toNat * 2)).off + 1, none⟩ = some (.slice A1 c.f1.length c1)) (ds := []) [false, false, false, false, false, false, false, false, false, false, false, false, false, false, false, false] (by kernel_rfl) rfl rfl ⟨⟨below_drew (Below.refl _ _)⟩, q0, q2, q3, r0, r1, r2, r3, r4, r5, h0, h1⟩ (fun hHeld => ?_)
        refine WL.tab tab21_4 (fun HT_ => ?_)
        refine WL.more [0, 3, 5, 1, 2, 4, 6, 7, 8, 9, 10, 11, 12, 13, 14, 15] ?_
        repeat (first
          | (refine WL.off (lb' := ?_) (ys := ?_) rfl rfl (by rfl) ?_ HT_.out ?_ (fun _ _ _ h => h) ?_ ?_; rotate_left 2; (focus dsimp only [List.set_cons_zero, List.set_cons_succ]; rfl); (focus kernel_rfl); (focus dsimp only [List.set_cons_zero, List.set_cons_succ]; rfl))
          | (refine WL.pure (lb' := ?_) (v := ?_) (ys := ?_) rfl rfl (by rfl) ?_ HT_.out ?_ (fun _ _ _ h => h) ?_ ?_ ?_; rotate_left 3; (focus dsimp only [List.set_cons_zero, List.set_cons_succ]; rfl); (focus kernel_rfl); (focus intro w'; go_simp; with_reducible rfl); (focus dsimp only [List.set_cons_zero, List.set_cons_succ]; rfl))
          | (refine WL.take (lb' := ?_) (v := ?_) (ys := ?_) rfl rfl (by rfl) ?_ HT_.out ?_ (fun _ _ _ h => h) hHeld ?_ ?_ ?_; rotate_left 3; (focus dsimp only [List.set_cons_zero, List.set_cons_succ]; rfl); (focus kernel_rfl); (focus rintro w' ⟨s0, s1, s2, s3, s4, s5, s6, s7, s8, s9, s10, s11⟩; go_simp; with_reducible rfl); (focus dsimp only [List.set_cons_zero, List.set_cons_succ]; rfl))
          | (refine WL.one (lb' := ?_) rfl rfl ?_ HT_.out ?_ (by decide) (fun K hK => ?_); rotate_left; (focus dsimp only [List.set_cons_zero, List.set_cons_succ]; rfl); (focus kernel_rfl); first
              | (refine goes_ Tryz.func50 (by kernel_rfl) rfl #[.slice A2 s.f2.length c2, .agg #[.string r.f0, .string r.f1, .string r.f2, .string r.f3, .int .i64 r.f4, .int .i64 r.f5], .agg #[.string c.f0, .slice A1 c.f1.length c1]] (by rfl) rfl rfl (by simp only [List.map_toArray, List.map_cons, List.map_nil]; rfl) ?_; (with_reducible refine ((HOF _ hHeld.1.out).out).mono ?_); rintro e w6 ⟨rfl, hb⟩; refine ⟨_, rfl, ?_⟩; refine hK.out _ _ (by have h_ := hHeld.2; refine ⟨⟨below_tr hHeld.1.out hb⟩, ?_⟩; repeat (first | exact below_cell hb h_ | (refine ⟨below_cell hb h_.1, ?_⟩; replace h_ := h_.2))) (fun hHeld => ?_); clear hK K; refine WL.put (ys := ?_) ?_ ?_; rotate_left; (focus dsimp only [List.set_cons_zero, List.set_cons_succ]; rfl))))
        refine WL.done HT_.out (by kernel_rfl) ?_
        have HB6 := Lib.hid (below_tr HB5.out hHeld.1.out)
        have HY36 := Lib.hid ((hHeld.1.out.block _ (blk_lt HY35.out)).trans HY35.out)
        obtain ⟨_, q0, q2, q3, r0, r1, r2, r3, r4, r5, h0, h1⟩ := hHeld
        clear q2 q3 r1 r2 r3 r4 r5 h0 h1
        have z0 := (blk_cell HY36.out 0).trans rfl; have z1 := (blk_cell HY36.out 1).trans rfl; have z2 := (blk_cell HY36.out 2).trans rfl; have f0 := blk_frozen HY36.out 0; have f1 := blk_frozen HY36.out 1; have f2 := blk_frozen HY36.out 2
        have hn0 : (⟨W.heap.size, 0, none⟩ : Addr).block ≠ W.heap.size + 1 + 1 := by show W.heap.size ≠ _; omega
        have hn1 : (⟨W.heap.size + 1, 0, none⟩ : Addr).block ≠ W.heap.size + 1 + 1 := by show W.heap.size + 1 ≠ _; omega
        have HN0 := Lib.hid hn0
        have HN1 := Lib.hid hn1
        clear hn0 hn1
        generalize hg2 : (du2 == 2) = g2 at *
        generalize hg3 : decide (du1 ≤ s.f0) = g3 at *
        have HFD := Lib.hid (show D = (⟨r.f0, du1, i⟩, du3 && g2 && g3) by rw [HDD.out, ← hg2, ← hg3]; rfl)
        clear HDD
        go_wp2_with fail
        cases du3
        all_goals cases g2
        all_goals
          obtain rfl := HFD.out
          refine WL.start (n := 18) (S := fun w' => w'.cell? ⟨W.heap.size + 1, 0, none⟩ = some (.string r.f0) ∧ w'.cell? ⟨W.heap.size, 0, none⟩ = some (.int .i64 s.f0)) (ds := []) [false, false, false, false, false, false, false, false, false, false, false, false, false, false, false, false, false, false] (by kernel_rfl) rfl rfl ⟨r0, q0⟩ (fun hHeld => ?_)
          refine WL.tab tab21_5 (fun HT_ => ?_)
          refine WL.more [0, 2, 3, 5, 6, 7, 8, 9, 10, 11, 12, 1, 4, 13, 14, 15, 16, 17] ?_
          repeat (first
            | (refine WL.off (lb' := ?_) (ys := ?_) rfl rfl (by rfl) ?_ HT_.out ?_ (fun _ _ _ h => h) ?_ ?_; rotate_left 2; (focus dsimp only [List.set_cons_zero, List.set_cons_succ]; rfl); (focus kernel_rfl); (focus dsimp only [List.set_cons_zero, List.set_cons_succ]; rfl))
            | (refine WL.pure (lb' := ?_) (v := ?_) (ys := ?_) rfl rfl (by rfl) ?_ HT_.out ?_ (fun _ _ _ h => h) ?_ ?_ ?_; rotate_left 3; (focus dsimp only [List.set_cons_zero, List.set_cons_succ]; rfl); (focus kernel_rfl); (focus intro w'; go_simp; with_reducible rfl); (focus dsimp only [List.set_cons_zero, List.set_cons_succ]; rfl))
            | (refine WL.take (lb' := ?_) (v := ?_) (ys := ?_) rfl rfl (by rfl) ?_ HT_.out ?_ (fun _ _ _ h => h) hHeld ?_ ?_ ?_; rotate_left 3; (focus dsimp only [List.set_cons_zero, List.set_cons_succ]; rfl); (focus kernel_rfl); (focus rintro w' ⟨s0, s1⟩; go_simp; with_reducible rfl); (focus dsimp only [List.set_cons_zero, List.set_cons_succ]; rfl))
            | (refine WL.one (lb' := ?_) rfl rfl ?_ HT_.out ?_ (by decide) (fun K hK => ?_); rotate_left; (focus dsimp only [List.set_cons_zero, List.set_cons_succ]; rfl); (focus kernel_rfl); first
                | (refine skip_ (w1 := ?_) (by rfl) rfl ?_ ?_; rotate_left; (focus go_simp; rfl); refine hK.out _ _ ⟨far3 HN1.out hHeld.1, far3 HN0.out hHeld.2⟩ (fun hHeld => ?_); clear hK K)))
          refine WL.done HT_.out (by kernel_rfl) ?_
          go_wp2
          refine bodyPost_ret (results_ct rfl _ _ (W.heap.size + 1 + 1) 39 #[.string r.f0, .int .i64 du1, .int .i64 i] (0, 0) _ rfl (by refine blk_put (cs := #[.string r.f0, .int .i64 du1, .int .i64 0]) ?_ 2 _ rfl; refine blk_put (cs := #[.string r.f0, .int .i64 0, .int .i64 0]) ?_ 1 _ rfl; refine blk_put (cs := #[.string (⟨#[]⟩ : ByteArray), .int .i64 0, .int .i64 0]) ?_ 0 _ rfl; exact HY36.out) Tryz.underlying39 rfl (by kernel_rfl)) rfl ?_
          exact ⟨rfl, (below_set (below_set (below_set (below_drew HB6.out) HGE.out) HGE.out) HGE.out)⟩
      · obtain rfl : D = (⟨⟨#[]⟩, 0, 0⟩, false) := by rw [HD.out]; unfold rvL; rw [if_neg (by rw [← HHP.out]; simp)]
        have z0 := (blk_cell HY35.out 0).trans rfl; have f0 := blk_frozen HY35.out 0; have z1 := (blk_cell HY35.out 1).trans rfl; have f1 := blk_frozen HY35.out 1; have z2 := (blk_cell HY35.out 2).trans rfl; have f2 := blk_frozen HY35.out 2
        go_wp2
        refine bodyPost_ret (results_ct rfl _ _ (W.heap.size + 1 + 1) 39 #[.string (⟨#[]⟩ : ByteArray), .int .i64 0, .int .i64 0] (0, 0) _ rfl (by refine blk_put (cs := #[.string (⟨#[]⟩ : ByteArray), .int .i64 0, .int .i64 0]) ?_ 2 _ rfl; refine blk_put (cs := #[.string (⟨#[]⟩ : ByteArray), .int .i64 0, .int .i64 0]) ?_ 1 _ rfl; refine blk_put (cs := #[.string (⟨#[]⟩ : ByteArray), .int .i64 0, .int .i64 0]) ?_ 0 _ rfl; exact HY35.out) Tryz.underlying39 rfl (by kernel_rfl)) rfl ?_
        exact ⟨rfl, (below_set (below_set (below_set HB5.out HGE.out) HGE.out) HGE.out)⟩
    · have hc2 : decide (ci ≥ 0) = false := decide_eq_false hci
      obtain rfl : D = (⟨⟨#[]⟩, 0, 0⟩, false) := by rw [HD.out]; unfold rvL; rw [if_neg (by rw [HCI.out]; simp [hci])]
      have z0 := (blk_cell HY34.out 0).trans rfl; have f0 := blk_frozen HY34.out 0; have z1 := (blk_cell HY34.out 1).trans rfl; have f1 := blk_frozen HY34.out 1; have z2 := (blk_cell HY34.out 2).trans rfl; have f2 := blk_frozen HY34.out 2
      go_wp2
      refine bodyPost_ret (results_ct rfl _ _ (W.heap.size + 1 + 1) 39 #[.string (⟨#[]⟩ : ByteArray), .int .i64 0, .int .i64 0] (0, 0) _ rfl (by refine blk_put (cs := #[.string (⟨#[]⟩ : ByteArray), .int .i64 0, .int .i64 0]) ?_ 2 _ rfl; refine blk_put (cs := #[.string (⟨#[]⟩ : ByteArray), .int .i64 0, .int .i64 0]) ?_ 1 _ rfl; refine blk_put (cs := #[.string (⟨#[]⟩ : ByteArray), .int .i64 0, .int .i64 0]) ?_ 0 _ rfl; exact HY34.out) Tryz.underlying39 rfl (by kernel_rfl)) rfl ?_
      exact ⟨rfl, (below_set (below_set (below_set HB4.out HGE.out) HGE.out) HGE.out)⟩
  · obtain rfl : D = (⟨⟨#[]⟩, 0, 0⟩, false) := by rw [HD.out]; unfold rvL; rw [if_neg (by simp at hr5; simp [hr5])]
    have z0 := (blk_cell HY34.out 0).trans rfl; have f0 := blk_frozen HY34.out 0; have z1 := (blk_cell HY34.out 1).trans rfl; have f1 := blk_frozen HY34.out 1; have z2 := (blk_cell HY34.out 2).trans rfl; have f2 := blk_frozen HY34.out 2
    go_wp2
    refine bodyPost_ret (results_ct rfl _ _ (W.heap.size + 1 + 1) 39 #[.string (⟨#[]⟩ : ByteArray), .int .i64 0, .int .i64 0] (0, 0) _ rfl (by refine blk_put (cs := #[.string (⟨#[]⟩ : ByteArray), .int .i64 0, .int .i64 0]) ?_ 2 _ rfl; refine blk_put (cs := #[.string (⟨#[]⟩ : ByteArray), .int .i64 0, .int .i64 0]) ?_ 1 _ rfl; refine blk_put (cs := #[.string (⟨#[]⟩ : ByteArray), .int .i64 0, .int .i64 0]) ?_ 0 _ rfl; exact HY34.out) Tryz.underlying39 rfl (by kernel_rfl)) rfl ?_
    exact ⟨rfl, (below_set (below_set (below_set HB4.out HGE.out) HGE.out) HGE.out)⟩
end Go.Proofs.YtafigkikblpbnaaGreat.PG
