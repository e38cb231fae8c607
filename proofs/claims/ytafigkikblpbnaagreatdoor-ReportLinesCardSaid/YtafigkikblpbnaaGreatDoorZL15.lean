/- The item of a record that is to be reviewed. The document's numbers of records by their states. The program's names of the holds on a record; no condition beyond each theorem its own. -/
import Derived.Test.YtafigkikblpbnaaGreatDoorZL09
import Derived.Test.YtafigkikblpbnaaGreatDoorZL14
import Derived.Test.YtafigkikblpbnaaGreatDoorZL07
import Derived.Test.YtafigkikblpbnaaGreatDoorZL04
import Derived.Test.YtafigkikblpbnaaGreatDoorZL10
import Derived.Test.YtafigkikblpbnaaGreatDoorZL05
import Derived.Test.YtafigkikblpbnaaGreatDoorZL03
namespace Go.Proofs.YtafigkikblpbnaaGreatDoor.PG
open Go.RowKit Go.Proofs.YtafigkikblpbnaaGreatDoorW.PrintWords Go.Proofs.YtafigkikblpbnaaGreatDoorW.PrintLast Go.Proofs.YtafigkikblpbnaaGreatDoorW.PrintMore
set_option linter.unusedVariables false
set_option linter.unusedSimpArgs false
set_option maxRecDepth 100000
section
variable {P : Program} {ops : Array Oper} {Q : Exit → Act → World → Prop} {md : Region.Mode} {S : World → Prop} {ds : List Nat} {T : Bool × List (List Nat × List Nat)}
theorem WL.last {i : Nat} {is : List Nat} {rest : List Oper} {N : Option Tmp} {oi : Oper} {fuel : Nat} {lb lb' : List Bool} {a : Act} {w : World} (hi : ops.toList.drop i = oi :: rest) (hN : oi.dst = N) (hl : lb.set i true = lb') (hT : rtab md ops = T) (hc : (readyT T.2 lb == [i] && lb.set i true == lb') = true) (hd : i ∈ ds)
    (h : ∀ K : Act → World → Prop, Shut (∀ a' w', WL is (wpAnyLast P md ops Q S ds fuel lb'.toArray a' w') → K a' w') → if Region.wanted oi (yielded ops a.tmps) = true then Oper.wp P oi a w K Q else K (a.put N undef) w) :
    WL (i :: is) (wpAnyLast P md ops Q S ds (fuel + 1) lb.toArray a w) :=
  ⟨last_ _ (at_drop hi) hN (one_of hT (by simpa using hc)) hd (fun K hK => h K (fun a' w' hn => hK a' w' hn.out))⟩
end

/-- What is known of a state that can be asked. -/
structure Ask (d : Nat) (s : S31) : Prop where
  rules : ∀ x ∈ s.f2, lim 8 x.f1
  miles : ∀ y ∈ s.f3, y.f1.length ≤ 1000
  holds : ∀ x ∈ s.f6, dp d x.f1
  few : s.f6.length ≤ 1000000
end Go.Proofs.YtafigkikblpbnaaGreatDoor.PG
namespace Go.Proofs.YtafigkikblpbnaaGreatDoor.PG
open Go.RowKit Go.Proofs.YtafigkikblpbnaaGreatDoorW.PrintWords Go.Proofs.YtafigkikblpbnaaGreatDoorW.PrintLast Go.Proofs.YtafigkikblpbnaaGreatDoorW.PrintMore
set_option linter.unusedVariables false
set_option linter.unusedSimpArgs false
set_option maxRecDepth 100000
theorem tab33_7 : rtab .any (opsOf Tryz.f33 7) = (true, [([], []), ([0], [0]), ([1], [1]), ([2], [2]), ([3], [3]), ([], []), ([5], [5]), ([6], [6]), ([7, 3], [7]), ([4, 8], [4, 8]), ([9], [9]), ([], []), ([11], [11]), ([12], [12]), ([13, 8], [13]), ([10, 14], [10, 14]), ([15], [15]), ([], []), ([17], [17]), ([18], [18]), ([19, 14], [19]), ([16, 20], [16, 20]), ([21, 20, 0, 1, 2, 3, 4, 5, 6, 7, 8, 9, 10, 11, 12, 13, 14, 15, 16, 17, 18, 19, 20, 21], [21])]) := by kernel_rfl

/-- How many records of a kind are in a state. -/
def stN (P : S48 → Bool) (l : List S48) (j : Int) : Nat := (l.filter fun r => P r && decide (r.f5 = j)).length
theorem stN_le (P : S48 → Bool) (l : List S48) (j : Int) : stN P l j ≤ l.length := List.length_filter_le _ _
theorem stN_snoc (P : S48 → Bool) (l : List S48) (y : S48) (j : Int) : stN P (l ++ [y]) j = stN P l j + (if (P y && decide (y.f5 = j)) = true then 1 else 0) := by
  unfold stN
  rw [List.filter_append, List.length_append, List.filter_cons]
  split <;> simp [*]
theorem take_rd48 {l : List S48} {k : Nat} (h : k < l.length) : l.take (k + 1) = l.take k ++ [rd_T48 l (k : Int)] := by
  have : rd_T48 l (k : Int) = l[k] := by unfold rd_T48; rw [Int.toNat_natCast, List.getD_eq_getElem?_getD, List.getElem?_eq_getElem h]; rfl
  rw [this, List.take_succ_eq_append_getElem h]
/-- Four numbers, a blank between. -/
def tx4 (f : Int → Nat) : ByteArray := tellS (f 1) ++ ⟨#[32]⟩ ++ tellS (f 2) ++ ⟨#[32]⟩ ++ tellS (f 3) ++ ⟨#[32]⟩ ++ tellS (f 4)
/-- A record's kind: its class, or any. -/
def cls (all : Bool) (cl : ByteArray) (r : S48) : Bool := all || (r.f3.toList == cl.toList)
set_option maxHeartbeats 4000000 in
theorem counts_eq (s : S31) (A2 A3 A4 A5 A6 A7 A8 : Option Addr) (c2 c3 c4 c5 c6 c7 c8 : Nat) (cl : ByteArray) (all : Bool) (W : World) (hs : Rs W s A2 A3 A4 A5 A6 A7 A8 c2 c3 c4 c5 c6 c7 c8) (hst : ∀ k : Nat, k < s.f5.length → 1 ≤ (rd_T48 s.f5 (k : Int)).f5 ∧ (rd_T48 s.f5 (k : Int)).f5 ≤ 4) (hn : s.f5.length ≤ 1000) :
    Calls Tryz.prog 33 #[.agg #[.int .i64 s.f0, .int .u64 s.f1, .slice A2 s.f2.length c2, .slice A3 s.f3.length c3, .slice A4 s.f4.length c4, .slice A5 s.f5.length c5, .slice A6 s.f6.length c6, .slice A7 s.f7.length c7, .slice A8 s.f8.length c8, .int .i64 s.f9], .string cl, .bool all] W fun e w' => e = .returned (.string (tx4 (stN (cls all cl) s.f5))) ∧ Below W.heap.size W w' := by
  have hz1 : (W.alloc (.cells #[.int .i64 s.f0, .int .u64 s.f1, .slice A2 s.f2.length c2, .slice A3 s.f3.length c3, .slice A4 s.f4.length c4, .slice A5 s.f5.length c5, .slice A6 s.f6.length c6, .slice A7 s.f7.length c7, .slice A8 s.f8.length c8, .int .i64 s.f9] 31 (0, 0))).heap.size = W.heap.size + 1 := by show (W.heap.push _).size = _; rw [Array.size_push]
  obtain ⟨W1, hW1⟩ : ∃ W1, (W.alloc (.cells #[.int .i64 s.f0, .int .u64 s.f1, .slice A2 s.f2.length c2, .slice A3 s.f3.length c3, .slice A4 s.f4.length c4, .slice A5 s.f5.length c5, .slice A6 s.f6.length c6, .slice A7 s.f7.length c7, .slice A8 s.f8.length c8, .int .i64 s.f9] 31 (0, 0))).alloc (.cells #[.int .i64 0, .int .i64 0, .int .i64 0, .int .i64 0, .int .i64 0] 3 (0, 0)) = W1 := ⟨_, rfl⟩
  have HB := Lib.hid (show Below W.heap.size W W1 by rw [← hW1]; exact below_alloc (below_alloc (Below.refl _ _) _) _)
  have HY := Lib.hid (show W1.heap[W.heap.size]? = some (.cells #[.int .i64 s.f0, .int .u64 s.f1, .slice A2 s.f2.length c2, .slice A3 s.f3.length c3, .slice A4 s.f4.length c4, .slice A5 s.f5.length c5, .slice A6 s.f6.length c6, .slice A7 s.f7.length c7, .slice A8 s.f8.length c8, .int .i64 s.f9] 31 (0, 0)) by rw [← hW1]; exact blk_alloc (new_blk W _) _)
  have HG := Lib.hid (show W1.heap[W.heap.size + 1]? = some (.cells #[.int .i64 0, .int .i64 0, .int .i64 0, .int .i64 0, .int .i64 0] 3 (0, 0)) by have h_ := new_blk (W.alloc (.cells #[.int .i64 s.f0, .int .u64 s.f1, .slice A2 s.f2.length c2, .slice A3 s.f3.length c3, .slice A4 s.f4.length c4, .slice A5 s.f5.length c5, .slice A6 s.f6.length c6, .slice A7 s.f7.length c7, .slice A8 s.f8.length c8, .int .i64 s.f9] 31 (0, 0))) (.cells #[.int .i64 0, .int .i64 0, .int .i64 0, .int .i64 0, .int .i64 0] 3 (0, 0)); rw [hz1] at h_; rw [← hW1]; exact h_)
  have HW1 := Lib.hid hW1
  have HS := Lib.hid hs
  have HST := Lib.hid hst
  have hn2 : (s.f5.length : Int) ≤ 1000 := by omega
  clear hW1 hs hst hz1
  obtain ⟨P, hP⟩ : ∃ P, cls all cl = P := ⟨_, rfl⟩
  rw [hP]
  have HP := Lib.hid hP
  clear hP
  go_enter Tryz.func33, Tryz.ntmps33
  go_wp2
  rw [HW1.out]
  clear HW1
  go_loopw [8] (fun v8 wr => ∃ k : Nat, v8 = .int .i64 k ∧ k ≤ s.f5.length ∧ Aside0 (wr.heap[W.heap.size + 1]? = some (.cells #[.int .i64 0, .int .i64 (stN P (s.f5.take k) 1 : Nat), .int .i64 (stN P (s.f5.take k) 2 : Nat), .int .i64 (stN P (s.f5.take k) 3 : Nat), .int .i64 (stN P (s.f5.take k) 4 : Nat)] 3 (0, 0))) ∧ Aside0 (wr.heap[W.heap.size]? = some (.cells #[.int .i64 s.f0, .int .u64 s.f1, .slice A2 s.f2.length c2, .slice A3 s.f3.length c3, .slice A4 s.f4.length c4, .slice A5 s.f5.length c5, .slice A6 s.f6.length c6, .slice A7 s.f7.length c7, .slice A8 s.f8.length c8, .int .i64 s.f9] 31 (0, 0))) ∧ Aside0 (Below W.heap.size W wr)) (fun v8 _ => s.f5.length - (intOf v8).toNat)
  case atStart => exact ⟨0, rfl, Nat.zero_le _, ⟨HG.out⟩, ⟨HY.out⟩, ⟨HB.out⟩⟩
  case round =>
    obtain ⟨k, rfl, hk, HGR, HYR, HBR⟩ := hrel
    have HS2 := Lib.hid (HS.out.below HBR.out)
    have q5 : (wr).cell? ⟨W.heap.size, 5, none⟩ = some (.slice A5 s.f5.length c5) := (blk_cell HYR.out 5).trans rfl
    by_cases hlt : k < s.f5.length
    · have hlt2 : (k : Int) < (s.f5.length : Int) := by omega
      obtain ⟨ad, e, h0, h1, h2, h3, h4, h5⟩ := at_T48 HS2.out.g5 (k : Int) (by omega) (by omega)
      simp only [Int.toNat_natCast] at h0 h1 h2 h3 h4 h5
      have q6 : wr.cell? ⟨W.heap.size, 5, none⟩ = some (.slice (some ad) s.f5.length c5) := e ▸ q5
      clear q5 e
      have HSN := Lib.hid (fun j => show stN P (s.f5.take (k + 1)) j = stN P (s.f5.take k) j + (if (P (rd_T48 s.f5 (k : Int)) && decide ((rd_T48 s.f5 (k : Int)).f5 = j)) = true then 1 else 0) from (by rw [take_rd48 hlt, stN_snoc]))
      have HY5 := HST.out k hlt
      have HLE := Lib.hid (fun j => Nat.le_trans (stN_le P (s.f5.take k) j) (by rw [List.length_take]; omega : (s.f5.take k).length ≤ 1000))
      have HPY := Lib.hid (show P (rd_T48 s.f5 (k : Int)) = (all || ((rd_T48 s.f5 (k : Int)).f3.toList == cl.toList)) by rw [← HP.out]; rfl)
      generalize rd_T48 s.f5 (k : Int) = y at *
      obtain ⟨y0, y1, y2, y3, y4, y5⟩ := y
      dsimp only at h0 h1 h2 h3 h4 h5 HY5 HPY HSN
      generalize hq : (y3.toList == cl.toList) = qq at *
      have c1 : wr.cell? ⟨W.heap.size + 1, 1, none⟩ = some (.int .i64 (stN P (s.f5.take k) 1 : Nat)) := (blk_cell HGR.out 1).trans rfl
      have c2 : wr.cell? ⟨W.heap.size + 1, 2, none⟩ = some (.int .i64 (stN P (s.f5.take k) 2 : Nat)) := (blk_cell HGR.out 2).trans rfl
      have c3 : wr.cell? ⟨W.heap.size + 1, 3, none⟩ = some (.int .i64 (stN P (s.f5.take k) 3 : Nat)) := (blk_cell HGR.out 3).trans rfl
      have c4 : wr.cell? ⟨W.heap.size + 1, 4, none⟩ = some (.int .i64 (stN P (s.f5.take k) 4 : Nat)) := (blk_cell HGR.out 4).trans rfl
      have g1 := blk_frozen HGR.out 1
      have g2 := blk_frozen HGR.out 2
      have g3 := blk_frozen HGR.out 3
      have g4 := blk_frozen HGR.out 4
      have b1 := HLE.out 1
      have b2 := HLE.out 2
      have b3 := HLE.out 3
      have b4 := HLE.out 4
      have e1 := HSN.out 1
      have e2 := HSN.out 2
      have e3 := HSN.out 3
      have e4 := HSN.out 4
      have HPY2 := HPY.out
      clear HSN HLE HPY
      generalize stN P (s.f5.take k) 1 = a1 at *
      generalize stN P (s.f5.take k) 2 = a2 at *
      generalize stN P (s.f5.take k) 3 = a3 at *
      generalize stN P (s.f5.take k) 4 = a4 at *
      rw [HPY2] at e1 e2 e3 e4
      have HE := Lib.hid (And.intro e1 (And.intro e2 (And.intro e3 e4)))
      clear e1 e2 e3 e4 HPY2
      obtain h | h | h | h : y5 = 1 ∨ y5 = 2 ∨ y5 = 3 ∨ y5 = 4 := by omega
      all_goals subst h
      all_goals cases all
      all_goals cases qq
      all_goals
        go_wp2
        go_roundw
        case rel => exact ⟨k + 1, by go_num, by omega, ⟨by obtain ⟨e1, e2, e3, e4⟩ := HE.out; simp at e1 e2 e3 e4; rw [e1, e2, e3, e4]; first | exact HGR.out | exact blk_put HGR.out 1 _ rfl | exact blk_put HGR.out 2 _ rfl | exact blk_put HGR.out 3 _ rfl | exact blk_put HGR.out 4 _ rfl⟩, ⟨by first | exact HYR.out | exact (Below.heap_setCell _ _ _ _ (by show W.heap.size ≠ W.heap.size + 1; omega)).trans HYR.out⟩, ⟨by first | exact HBR.out | exact HBR.out.setCell (by show W.heap.size ≤ W.heap.size + 1; omega) _⟩⟩
        case measure => simp [intOf]; omega
    · have hk2 : k = s.f5.length := by omega
      subst hk2
      have hq : ¬ (s.f5.length : Int) < (s.f5.length : Int) := by omega
      rw [List.take_length] at HGR
      have HLE := fun j => stN_le P s.f5 j
      have HT1 := fun w => Lib.hid (Tell_eq (stN P s.f5 1) (by have := HLE 1; omega) w)
      have HT2 := fun w => Lib.hid (Tell_eq (stN P s.f5 2) (by have := HLE 2; omega) w)
      have HT3 := fun w => Lib.hid (Tell_eq (stN P s.f5 3) (by have := HLE 3; omega) w)
      have HT4 := fun w => Lib.hid (Tell_eq (stN P s.f5 4) (by have := HLE 4; omega) w)
      clear HLE
      have HTX := Lib.hid (show tx4 (stN P s.f5) = tellS (stN P s.f5 1) ++ ⟨#[32]⟩ ++ tellS (stN P s.f5 2) ++ ⟨#[32]⟩ ++ tellS (stN P s.f5 3) ++ ⟨#[32]⟩ ++ tellS (stN P s.f5 4) from rfl)
      have c1 : wr.cell? ⟨W.heap.size + 1, 1, none⟩ = some (.int .i64 (stN P s.f5 1 : Nat)) := (blk_cell HGR.out 1).trans rfl
      have c2 : wr.cell? ⟨W.heap.size + 1, 2, none⟩ = some (.int .i64 (stN P s.f5 2 : Nat)) := (blk_cell HGR.out 2).trans rfl
      have c3 : wr.cell? ⟨W.heap.size + 1, 3, none⟩ = some (.int .i64 (stN P s.f5 3 : Nat)) := (blk_cell HGR.out 3).trans rfl
      have c4 : wr.cell? ⟨W.heap.size + 1, 4, none⟩ = some (.int .i64 (stN P s.f5 4 : Nat)) := (blk_cell HGR.out 4).trans rfl
      generalize stN P s.f5 1 = n1 at *
      generalize stN P s.f5 2 = n2_ at *
      generalize stN P s.f5 3 = n3 at *
      generalize stN P s.f5 4 = n4 at *
      have z1 := tellS_size n1
      have z2 := tellS_size n2_
      have z3 := tellS_size n3
      have z4 := tellS_size n4
      generalize tellS n1 = t1 at *
      generalize tellS n2_ = t2 at *
      generalize tellS n3 = t3 at *
      generalize tellS n4 = t4 at *
      have d0 : ¬ 9223372036854775807 < t1.size + 1 := by omega
      have d1 : ¬ 9223372036854775807 < t1.size + 1 + t2.size := by omega
      have d2 : ¬ 9223372036854775807 < t1.size + 1 + t2.size + 1 := by omega
      have d3 : ¬ 9223372036854775807 < t1.size + 1 + t2.size + 1 + t3.size := by omega
      have d4 : ¬ 9223372036854775807 < t1.size + 1 + t2.size + 1 + t3.size + 1 := by omega
      have d5 : ¬ 9223372036854775807 < t1.size + 1 + t2.size + 1 + t3.size + 1 + t4.size := by omega
      go_wp2_with fail
      refine WL.start (n := 23) (S := fun w' => w'.cell? ⟨W.heap.size + 1, 1, none⟩ = some (.int .i64 (n1 : Nat)) ∧ w'.cell? ⟨W.heap.size + 1, 2, none⟩ = some (.int .i64 (n2_ : Nat)) ∧ w'.cell? ⟨W.heap.size + 1, 3, none⟩ = some (.int .i64 (n3 : Nat)) ∧ w'.cell? ⟨W.heap.size + 1, 4, none⟩ = some (.int .i64 (n4 : Nat))) (ds := []) [false, false, false, false, false, false, false, false, false, false, false, false, false, false, false, false, false, false, false, false, false, false, false] (by kernel_rfl) rfl rfl ⟨c1, c2, c3, c4⟩ (fun hHeld => ?_)
      refine WL.tab tab33_7 (fun HT_ => ?_)
      refine WL.more [0, 1, 5, 6, 11, 12, 17, 18, 2, 7, 13, 19, 3, 4, 8, 9, 10, 14, 15, 16, 20, 21, 22] ?_
      repeat (first
        | (refine WL.off (lb' := ?_) (ys := ?_) rfl rfl (by rfl) ?_ HT_.out ?_ (fun _ _ _ h => h) ?_ ?_; rotate_left 2; (focus dsimp only [List.set_cons_zero, List.set_cons_succ]; rfl); (focus kernel_rfl); (focus dsimp only [List.set_cons_zero, List.set_cons_succ]; rfl))
        | (refine WL.pure (lb' := ?_) (v := ?_) (ys := ?_) rfl rfl (by rfl) ?_ HT_.out ?_ (fun _ _ _ h => h) ?_ ?_ ?_; rotate_left 3; (focus dsimp only [List.set_cons_zero, List.set_cons_succ]; rfl); (focus kernel_rfl); (focus intro w'; go_simp; with_reducible rfl); (focus dsimp only [List.set_cons_zero, List.set_cons_succ]; rfl))
        | (refine WL.take (lb' := ?_) (v := ?_) (ys := ?_) rfl rfl (by rfl) ?_ HT_.out ?_ (fun _ _ _ h => h) hHeld ?_ ?_ ?_; rotate_left 3; (focus dsimp only [List.set_cons_zero, List.set_cons_succ]; rfl); (focus kernel_rfl); (focus rintro w' ⟨s0, s1, s2, s3⟩; go_simp; with_reducible rfl); (focus dsimp only [List.set_cons_zero, List.set_cons_succ]; rfl))
        | (refine WL.one (lb' := ?_) rfl rfl ?_ HT_.out ?_ (by decide) (fun K hK => ?_); rotate_left; (focus dsimp only [List.set_cons_zero, List.set_cons_succ]; rfl); (focus kernel_rfl); first
            | (refine goes_ Tryz.func26 (by kernel_rfl) rfl #[.int .i64 (n1 : Nat)] (by rfl) rfl rfl (by simp only [List.map_toArray, List.map_cons, List.map_nil]; rfl) ?_; (with_reducible refine ((HT1 _).out).mono ?_); rintro e w3 ⟨rfl, rfl⟩; refine ⟨_, rfl, ?_⟩; refine hK.out _ _ hHeld (fun hHeld => ?_); clear hK K; refine WL.put (ys := ?_) ?_ ?_; rotate_left; (focus dsimp only [List.set_cons_zero, List.set_cons_succ]; rfl))
            | (refine goes_ Tryz.func26 (by kernel_rfl) rfl #[.int .i64 (n2_ : Nat)] (by rfl) rfl rfl (by simp only [List.map_toArray, List.map_cons, List.map_nil]; rfl) ?_; (with_reducible refine ((HT2 _).out).mono ?_); rintro e w3 ⟨rfl, rfl⟩; refine ⟨_, rfl, ?_⟩; refine hK.out _ _ hHeld (fun hHeld => ?_); clear hK K; refine WL.put (ys := ?_) ?_ ?_; rotate_left; (focus dsimp only [List.set_cons_zero, List.set_cons_succ]; rfl))
            | (refine goes_ Tryz.func26 (by kernel_rfl) rfl #[.int .i64 (n3 : Nat)] (by rfl) rfl rfl (by simp only [List.map_toArray, List.map_cons, List.map_nil]; rfl) ?_; (with_reducible refine ((HT3 _).out).mono ?_); rintro e w3 ⟨rfl, rfl⟩; refine ⟨_, rfl, ?_⟩; refine hK.out _ _ hHeld (fun hHeld => ?_); clear hK K; refine WL.put (ys := ?_) ?_ ?_; rotate_left; (focus dsimp only [List.set_cons_zero, List.set_cons_succ]; rfl))
            | (refine goes_ Tryz.func26 (by kernel_rfl) rfl #[.int .i64 (n4 : Nat)] (by rfl) rfl rfl (by simp only [List.map_toArray, List.map_cons, List.map_nil]; rfl) ?_; (with_reducible refine ((HT4 _).out).mono ?_); rintro e w3 ⟨rfl, rfl⟩; refine ⟨_, rfl, ?_⟩; refine hK.out _ _ hHeld (fun hHeld => ?_); clear hK K; refine WL.put (ys := ?_) ?_ ?_; rotate_left; (focus dsimp only [List.set_cons_zero, List.set_cons_succ]; rfl))))
      refine WL.done HT_.out (by kernel_rfl) ?_
      clear hHeld c1 c2 c3 c4
      go_wp2
      go_ret
      exact ⟨congrArg (fun x => Ending.returned (.string x)) HTX.out.symm, below_drew HBR.out⟩
end Go.Proofs.YtafigkikblpbnaaGreatDoor.PG
namespace Go.Proofs.YtafigkikblpbnaaGreatDoor.PG
open Go.RowKit Go.Proofs.YtafigkikblpbnaaGreatDoorW.PrintWords Go.Proofs.YtafigkikblpbnaaGreatDoorW.PrintLast Go.Proofs.YtafigkikblpbnaaGreatDoorW.PrintMore
set_option linter.unusedVariables false
set_option linter.unusedSimpArgs false
set_option maxRecDepth 100000

set_option maxHeartbeats 2000000 in
/-- hold.On: the same names. -/
theorem OnP_any (d : Nat) (l : List S78) (r : S48) (A : Option Addr) (c : Nat) (W : World) (hd : ∀ x ∈ l, dp d x.f1) (hC : Kd.C k78 W A l.length l) (hn : l.length ≤ 1000000) :
    Calls Tryz.prog 35 #[.slice A l.length c, .agg #[.string r.f0, .string r.f1, .string r.f2, .string r.f3, .int .i64 r.f4, .int .i64 r.f5]] W fun e w' => ∃ A' c', e = .returned (.slice A' (onL d l r).length c') ∧ Below W.heap.size W w' := by
  have HB := Lib.hid (show Below W.heap.size W (W.alloc (.cells #[.string r.f0, .string r.f1, .string r.f2, .string r.f3, .int .i64 r.f4, .int .i64 r.f5] 48 (0, 0))) from below_alloc (Below.refl _ _) _)
  have HY := Lib.hid (new_blk W (.cells #[.string r.f0, .string r.f1, .string r.f2, .string r.f3, .int .i64 r.f4, .int .i64 r.f5] 48 (0, 0)))
  have HC := Lib.hid (Kd.C_below hC HB.out)
  have HD := Lib.hid hd
  have hm : l.length ≤ 9223372036854775807 := hC.2.1
  clear hC hd
  go_enter Tryz.func35, Tryz.ntmps35
  go_wp2
  generalize W.alloc (.cells #[.string r.f0, .string r.f1, .string r.f2, .string r.f3, .int .i64 r.f4, .int .i64 r.f5] 48 (0, 0)) = W1 at *
  go_loopw [5, 10] (fun v5 v10 wr => ∃ k : Nat, v10 = .int .i64 k ∧ k ≤ l.length ∧ Aside0 (Kd.R Kd.string 9 wr W1.heap.size (fun _ => True) v5 (onL d (l.take k) r)) ∧ Aside0 (Below W1.heap.size W1 wr)) (fun _ v10 _ => l.length - (intOf v10).toNat)
  case atStart => exact ⟨0, rfl, Nat.zero_le _, ⟨Kd.R_nil _ _ _ _ _⟩, ⟨Below.refl _ _⟩⟩
  case round =>
    obtain ⟨k, rfl, hk, HO, HBW⟩ := hrel
    have HY2 := Lib.hid ((HBW.out.block W.heap.size (blk_lt HY.out)).trans HY.out)
    by_cases hlt : k < l.length
    · have hlt2 : (k : Int) < (l.length : Int) := by omega
      obtain ⟨ad, A5, c5, e, h0, h1, h2, h3, h4, h5, h6, hl4, hC4⟩ := at_T78 (Kd.C_below HC.out HBW.out) (k : Int) (by omega) (by omega)
      subst e
      simp only [Int.toNat_natCast] at h0 h1 h2 h3 h4 h5 h6
      have HT := Lib.hid (take_rd100 hlt)
      have hdd := HD.out _ (rd_mem100 hlt)
      generalize rd_T78 l (k : Int) = y at *
      obtain ⟨w3, hw3⟩ : ∃ w3, wr.alloc (.cells #[.string y.f0, .int .i64 y.f1.f0, .string y.f1.f1, .int .i64 y.f1.f2, .int .i64 y.f1.f3, .slice A5 y.f1.f4.length c5, .bool y.f2] 78 (0, 0)) = w3 := ⟨_, rfl⟩
      have HB3 := Lib.hid (show Below wr.heap.size wr w3 by rw [← hw3]; exact below_alloc (Below.refl _ _) _)
      have HY3 := Lib.hid (show w3.heap[wr.heap.size]? = some (.cells #[.string y.f0, .int .i64 y.f1.f0, .string y.f1.f1, .int .i64 y.f1.f2, .int .i64 y.f1.f3, .slice A5 y.f1.f4.length c5, .bool y.f2] 78 (0, 0)) by rw [← hw3]; exact new_blk wr _)
      have HYR := Lib.hid ((HB3.out.block W.heap.size (blk_lt HY2.out)).trans HY2.out)
      have HM := Lib.hid (holds_any d y r A5 c5 w3 hdd (Kd.C_below hC4 HB3.out) hl4)
      have HW3 := Lib.hid hw3
      clear hw3 hdd hC4 hl4
      have HE := Lib.hid (onL_snoc d (l.take k) r y)
      generalize (y.f2 && mt d y.f1 r) = m at *
      have p0 : (wr.alloc (.cells #[.string y.f0, .int .i64 y.f1.f0, .string y.f1.f1, .int .i64 y.f1.f2, .int .i64 y.f1.f3, .slice A5 y.f1.f4.length c5, .bool y.f2] 78 (0, 0))).cell? ⟨W.heap.size, 0, none⟩ = some (.string r.f0) := by rw [HW3.out]; exact (blk_cell HYR.out 0).trans rfl
      have p1 : (wr.alloc (.cells #[.string y.f0, .int .i64 y.f1.f0, .string y.f1.f1, .int .i64 y.f1.f2, .int .i64 y.f1.f3, .slice A5 y.f1.f4.length c5, .bool y.f2] 78 (0, 0))).cell? ⟨W.heap.size, 1, none⟩ = some (.string r.f1) := by rw [HW3.out]; exact (blk_cell HYR.out 1).trans rfl
      have p2 : (wr.alloc (.cells #[.string y.f0, .int .i64 y.f1.f0, .string y.f1.f1, .int .i64 y.f1.f2, .int .i64 y.f1.f3, .slice A5 y.f1.f4.length c5, .bool y.f2] 78 (0, 0))).cell? ⟨W.heap.size, 2, none⟩ = some (.string r.f2) := by rw [HW3.out]; exact (blk_cell HYR.out 2).trans rfl
      have p3 : (wr.alloc (.cells #[.string y.f0, .int .i64 y.f1.f0, .string y.f1.f1, .int .i64 y.f1.f2, .int .i64 y.f1.f3, .slice A5 y.f1.f4.length c5, .bool y.f2] 78 (0, 0))).cell? ⟨W.heap.size, 3, none⟩ = some (.string r.f3) := by rw [HW3.out]; exact (blk_cell HYR.out 3).trans rfl
      have p4 : (wr.alloc (.cells #[.string y.f0, .int .i64 y.f1.f0, .string y.f1.f1, .int .i64 y.f1.f2, .int .i64 y.f1.f3, .slice A5 y.f1.f4.length c5, .bool y.f2] 78 (0, 0))).cell? ⟨W.heap.size, 4, none⟩ = some (.int .i64 r.f4) := by rw [HW3.out]; exact (blk_cell HYR.out 4).trans rfl
      have p5 : (wr.alloc (.cells #[.string y.f0, .int .i64 y.f1.f0, .string y.f1.f1, .int .i64 y.f1.f2, .int .i64 y.f1.f3, .slice A5 y.f1.f4.length c5, .bool y.f2] 78 (0, 0))).cell? ⟨W.heap.size, 5, none⟩ = some (.int .i64 r.f5) := by rw [HW3.out]; exact (blk_cell HYR.out 5).trans rfl
      go_wp2_with fail
      rw [HW3.out]
      refine HM.out.mono ?_
      rintro e w4 ⟨rfl, hb⟩
      have HB4 := Lib.hid (below_tr HBW.out (below_tr HB3.out hb))
      have HO4 := Lib.hid (Kd.R_below HO.out (below_tr HB3.out hb))
      have y0 : w4.cell? ⟨wr.heap.size, 0, none⟩ = some (.string y.f0) := (blk_cell ((hb.block _ (blk_lt HY3.out)).trans HY3.out) 0).trans rfl
      clear hb p0 p1 p2 p3 p4 p5 h0 h1 h2 h3 h4 h5 h6
      cases m
      · go_wp2
        go_roundw
        case rel => exact ⟨k + 1, by go_num, by omega, ⟨by rw [HT.out, HE.out]; simpa using HO4.out⟩, ⟨HB4.out⟩⟩
        case measure => simp [intOf]; omega
      · go_wp2_with ((with_reducible refine gate_builtin (b := .append) (xs := #[.tmp 17, .tmp 20]) rfl ?_); at_builtin; refine Kd.R_append Kd.string (w0 := W1) W1.heap.size rfl (.tmp 17) (.tmp 20) 34 9 (.string ⟨#[]⟩) 16 rfl Tryz.underlying34 info9 rfl (by decide) (by omega) u5 (onL d (l.take k) r) y.f0 [.string y.f0] (fun _ => True) (fun _ => False) rfl rfl rfl (fun _ hk => hk.elim) (fun _ _ => trivial) HO4.out HB4.out HB4.out.size (by have := onL_len d (l.take k) r; rw [List.length_take] at this; omega) ?_; intro v9 w5 ho hb2 hg hat; clear hg hat)
        go_roundw
        case rel => exact ⟨k + 1, by go_num, by omega, ⟨by rw [HT.out, HE.out]; simpa using ho⟩, ⟨hb2⟩⟩
        case measure => simp [intOf]; omega
    · have hk2 : k = l.length := by omega
      have HE := Lib.hid (show onL d (l.take k) r = onL d l r from by rw [hk2, List.take_length])
      clear hk2
      obtain ⟨A6, c6, hv, hl6, hC6⟩ := Kd.R_reads HO.out
      subst hv
      rw [HE.out]
      go_wp2
      go_ret
      exact ⟨A6, c6, rfl, below_tr HB.out HBW.out⟩
end Go.Proofs.YtafigkikblpbnaaGreatDoor.PG
