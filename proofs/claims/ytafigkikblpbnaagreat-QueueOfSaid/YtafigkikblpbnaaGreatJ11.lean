/- The steps of a region that draws its order, told by a list of places. The document's queue: Ahead and Put. The order of the queue's items; no condition beyond each theorem its own. -/
import Derived.Test.YtafigkikblpbnaaGreatJ02
import Derived.Deep.RegionHeld3
import Derived.BigQuiet
import Derived.Test.YtafigkikblpbnaaGreatJ04
import Derived.Sort.Grow
import Derived.Test.YtafigkikblpbnaaGreatJ00
namespace Go.Proofs.YtafigkikblpbnaaGreat.PG
open Go.RowKit Go.Proofs.YtafigkikblpbnaaGreatW.PrintWords Go.Proofs.YtafigkikblpbnaaGreatW.PrintLast Go.Proofs.YtafigkikblpbnaaGreatW.PrintMore
set_option linter.unusedVariables false
set_option linter.unusedSimpArgs false
set_option maxRecDepth 100000
/-! A region that draws its order, walked by a list of places: what is done at each step is alike, so that it may stand in a 'repeat'. -/
section
variable {P : Program} {ops : Array Oper} {Q : Exit → Act → World → Prop} {md : Region.Mode} {S : World → Prop} {ds : List Nat} {T : Bool × List (List Nat × List Nat)}
/-- What is still to be walked stands ahead of the goal. -/
structure WL (is : List Nat) (X : Prop) : Prop where
  out : X
theorem at_drop {i : Nat} {oi : Oper} {rest : List Oper} (h : ops.toList.drop i = oi :: rest) : ops[i]? = some oi := by
  have h2 : (ops.toList.drop i)[0]? = some oi := by rw [h]; rfl
  rw [List.getElem?_drop] at h2
  simpa using h2
theorem put_list {xs ys : List Value} {df} {N : Nat} {v : Value} (hx : xs.set N v = ys) : (Act.mk xs.toArray df).put (some N) v = Act.mk ys.toArray df := by
  subst hx
  simp [Act.put]
theorem WL.start {id n : Nat} {a : Act} {w : World} (lb : List Bool) (hm : P.follows .mixedOrders = true) (hn : ops.size = n) (hl : Array.replicate n false = lb.toArray) (hS : S w.drew)
    (h : S w.drew → WL [] (wpAnyLast P .any ops Q S ds n lb.toArray a w.drew)) : (Code.region id ops true).wp P Q a w :=
  start_ _ hm hn hl hS (fun hs => (h hs).out)
theorem WL.off {i : Nat} {is : List Nat} {rest : List Oper} {N : Tmp} {oi : Oper} {fuel : Nat} {lb lb' : List Bool} {xs ys : List Value} {df} {w : World} (hi : ops.toList.drop i = oi :: rest) (hN : oi.dst = some N) (hw : Region.wanted oi (yielded ops xs.toArray) = false) (hl : lb.set i true = lb') (hT : rtab md ops = T) (hc : anyT T lb lb' i = true)
    (hQ : ∀ c a w, Q (.panic c) (a.put oi.dst undef) w → Q (.panic c) a w) (ha : xs.set N undef = ys) (h : WL is (wpAnyLast P md ops Q S ds fuel lb'.toArray (Act.mk ys.toArray df) w)) : WL (i :: is) (wpAnyLast P md ops Q S ds (fuel + 1) lb.toArray (Act.mk xs.toArray df) w) :=
  ⟨pure_ _ (at_drop hi) hN (any_of hT (by simpa using hc)) hQ (Or.inr ⟨hw, rfl⟩) (put_list ha) h.out⟩
theorem WL.pure {i : Nat} {is : List Nat} {rest : List Oper} {N : Tmp} {oi : Oper} {v : Value} {fuel : Nat} {lb lb' : List Bool} {xs ys : List Value} {df} {w : World} (hi : ops.toList.drop i = oi :: rest) (hN : oi.dst = some N) (hw : Region.wanted oi (yielded ops xs.toArray) = true) (hl : lb.set i true = lb') (hT : rtab md ops = T) (hc : anyT T lb lb' i = true)
    (hQ : ∀ c a w, Q (.panic c) (a.put oi.dst v) w → Q (.panic c) a w) (hy : ∀ w, (execOp (Act.mk xs.toArray df).eval oi).run P w = .ok (.value v) w) (ha : xs.set N v = ys) (h : WL is (wpAnyLast P md ops Q S ds fuel lb'.toArray (Act.mk ys.toArray df) w)) : WL (i :: is) (wpAnyLast P md ops Q S ds (fuel + 1) lb.toArray (Act.mk xs.toArray df) w) :=
  ⟨pure_ _ (at_drop hi) hN (any_of hT (by simpa using hc)) hQ (Or.inl ⟨hw, hy⟩) (put_list ha) h.out⟩
theorem WL.take {i : Nat} {is : List Nat} {rest : List Oper} {N : Tmp} {oi : Oper} {v : Value} {fuel : Nat} {lb lb' : List Bool} {xs ys : List Value} {df} {w : World} (hi : ops.toList.drop i = oi :: rest) (hN : oi.dst = some N) (hw : Region.wanted oi (yielded ops xs.toArray) = true) (hl : lb.set i true = lb') (hT : rtab md ops = T) (hc : takeT T ds lb lb' i = true)
    (hQ : ∀ c a w, Q (.panic c) (a.put oi.dst v) w → Q (.panic c) a w) (hS : S w) (hy : ∀ w, S w → (execOp (Act.mk xs.toArray df).eval oi).run P w = .ok (.value v) w) (ha : xs.set N v = ys) (h : WL is (wpAnyLast P md ops Q S ds fuel lb'.toArray (Act.mk ys.toArray df) w)) : WL (i :: is) (wpAnyLast P md ops Q S ds (fuel + 1) lb.toArray (Act.mk xs.toArray df) w) :=
  ⟨take_ _ (at_drop hi) hN (take_of hT (by simpa using hc)) hQ (Or.inl ⟨hw, hy⟩) hS (put_list ha) h.out⟩
theorem WL.one {i : Nat} {is : List Nat} {rest : List Oper} {N : Option Tmp} {oi : Oper} {fuel : Nat} {lb lb' : List Bool} {a : Act} {w : World} (hi : ops.toList.drop i = oi :: rest) (hN : oi.dst = N) (hl : lb.set i true = lb') (hT : rtab md ops = T) (hc : (readyT T.2 lb == [i] && lb.set i true == lb') = true) (hd : i ∉ ds)
    (h : ∀ K : Act → World → Prop, Shut (∀ a' w', S w' → (S w' → WL is (wpAnyLast P md ops Q S ds fuel lb'.toArray a' w')) → K a' w') → if Region.wanted oi (yielded ops a.tmps) = true then Oper.wp P oi a w K Q else K (a.put N undef) w) :
    WL (i :: is) (wpAnyLast P md ops Q S ds (fuel + 1) lb.toArray a w) :=
  ⟨one_ _ (at_drop hi) hN (one_of hT (by simpa using hc)) hd (fun K hK => h K (fun a' w' hs hn => hK a' w' hs (fun hs => (hn hs).out)))⟩
theorem WL.tab {is : List Nat} {n : Nat} {l : Array Bool} {a : Act} {w : World} (hT : rtab md ops = T) (h : Aside0 (rtab md ops = T) → WL is (wpAnyLast P md ops Q S ds n l a w)) : WL is (wpAnyLast P md ops Q S ds n l a w) := h ⟨hT⟩
theorem WL.more {X : Prop} (is : List Nat) (h : WL is X) : WL [] X := ⟨h.out⟩
theorem WL.put {is : List Nat} {fuel : Nat} {l : Array Bool} {N : Tmp} {v : Value} {xs ys : List Value} {df} {w : World} (ha : xs.set N v = ys) (h : WL is (wpAnyLast P md ops Q S ds fuel l (Act.mk ys.toArray df) w)) : WL is (wpAnyLast P md ops Q S ds fuel l ((Act.mk xs.toArray df).put (some N) v) w) := by
  rw [put_list ha]
  exact h
theorem WL.done {lb : List Bool} {a : Act} {w : World} {n : Nat} (hT : rtab md ops = T) (hr : (readyT T.2 lb == []) = true) (h : Q .normal a w) : WL [] (wpAnyLast P md ops Q S ds n lb.toArray a w) := ⟨done_ (done_of hT hr) h⟩
end
end Go.Proofs.YtafigkikblpbnaaGreat.PG
namespace Go.Proofs.YtafigkikblpbnaaGreat.PG
open Go.RowKit Go.Proofs.YtafigkikblpbnaaGreatW.PrintWords Go.Proofs.YtafigkikblpbnaaGreatW.PrintLast Go.Proofs.YtafigkikblpbnaaGreatW.PrintMore
set_option linter.unusedVariables false
set_option linter.unusedSimpArgs false
set_option maxRecDepth 100000
/-- One item is ahead of another. -/
def ltB (a b : S40) : Bool := if a.f1 = b.f1 then (if a.f2 = b.f2 then Op.bytesLess a.f0.toList b.f0.toList else decide (a.f2 < b.f2)) else decide (a.f1 < b.f1)
theorem Ahead_eq (a b : S40) (W : World) : Calls Tryz.prog 60 #[.agg #[.string a.f0, .int .i64 a.f1, .int .i64 a.f2], .agg #[.string b.f0, .int .i64 b.f1, .int .i64 b.f2]] W fun e w' => e = .returned (.bool (ltB a b)) ∧ Below W.heap.size W w' := by
  have HB := Lib.hid (show Below W.heap.size W ((W.alloc (.cells #[.string a.f0, .int .i64 a.f1, .int .i64 a.f2] 40 (0, 0))).alloc (.cells #[.string b.f0, .int .i64 b.f1, .int .i64 b.f2] 40 (0, 0))) from below_alloc (below_alloc (Below.refl _ _) _) _)
  obtain ⟨a0, a1, a2⟩ := a
  obtain ⟨b0, b1, b2⟩ := b
  by_cases h1 : a1 = b1
  · by_cases h2 : a2 = b2
    · have e : ltB ⟨a0, a1, a2⟩ ⟨b0, b1, b2⟩ = Op.bytesLess a0.toList b0.toList := by unfold ltB; rw [if_pos h1, if_pos h2]
      rw [e]
      subst h1 h2
      clear e
      go_enter Tryz.func60, Tryz.ntmps60
      go_wp2
      go_ret
      exact ⟨rfl, HB.out⟩
    · have e : ltB ⟨a0, a1, a2⟩ ⟨b0, b1, b2⟩ = decide (a2 < b2) := by unfold ltB; rw [if_pos h1, if_neg h2]
      rw [e]
      subst h1
      clear e
      go_enter Tryz.func60, Tryz.ntmps60
      go_wp2
      go_ret
      exact ⟨rfl, HB.out⟩
  · have e : ltB ⟨a0, a1, a2⟩ ⟨b0, b1, b2⟩ = decide (a1 < b1) := by unfold ltB; rw [if_neg h1]
    rw [e]
    clear e
    go_enter Tryz.func60, Tryz.ntmps60
    go_wp2
    go_ret
    exact ⟨rfl, HB.out⟩
theorem tab27_10 : rtab .any (opsOf Tryz.f27 10) = (true, [([], []), ([], []), ([1], [1]), ([0, 2], [0, 2]), ([3], [3]), ([4], [4]), ([4], [4]), ([5, 6, 4], [4, 5, 6]), ([7, 4], [4, 7]), ([4], [4]), ([8, 9, 4, 4], [4, 8, 9]), ([4, 10], [4, 10])]) := by kernel_rfl
theorem tab27_13 : rtab .any (opsOf Tryz.f27 13) = (true, [([], []), ([], []), ([1], [1]), ([0, 2], [0, 2]), ([], []), ([], []), ([4, 5], [4, 5]), ([3, 6, 3], [3, 6]), ([7, 7, 0, 1, 2, 3, 4, 5, 6, 7], [7]), ([8, 0, 1, 2, 3, 4, 5, 6, 7, 8], [])]) := by kernel_rfl

/-- Whose name it is. -/
def nm40 (t : ByteArray) (y : S40) : Bool := y.f0.toList == t.toList
/-- An item put where it comes. -/
def insB (x : S40) : List S40 → List S40
  | [] => [x]
  | y :: l => if ltB y x = true then y :: insB x l else x :: y :: l
theorem insB_lt {x y : S40} {l : List S40} (h : ltB y x = true) : insB x (y :: l) = y :: insB x l := by
  conv => lhs; unfold insB
  rw [if_pos h]
theorem insB_len (x : S40) : ∀ l, (insB x l).length = l.length + 1
  | [] => rfl
  | y :: l => by unfold insB; split <;> simp [insB_len x l]
/-- What Put answers. -/
def putL (l : List S40) (x : S40) : List S40 × Int := if l.any (nm40 x.f0) then (l, 6) else if 200 ≤ l.length then (l, 4) else (insB x l, 0)
theorem drop_T40 {l : List S40} {i : Nat} (h : i < l.length) : l.drop i = rd_T40 l (i : Int) :: l.drop (i + 1) := by
  rw [List.drop_eq_getElem_cons h]
  simp [rd_T40, List.getElem?_eq_getElem h, List.getD_eq_getElem?_getD]
theorem take_T40 {l : List S40} {k : Nat} (h : k < l.length) : l.take (k + 1) = l.take k ++ [rd_T40 l (k : Int)] := by
  have : rd_T40 l (k : Int) = l[k] := by unfold rd_T40; rw [Int.toNat_natCast, List.getD_eq_getElem?_getD, List.getElem?_eq_getElem h]; rfl
  rw [this, List.take_succ_eq_append_getElem h]
/-- A list and a number; the list can be read. -/
def RPut (r : List S40 × Int) (w : World) (e : Ending) (w' : World) : Prop := ∃ (A : Option Addr) (c : Nat), e = .returned (.tuple #[.slice A r.1.length c, .int .i64 r.2]) ∧ r.1.length ≤ c ∧ Kd.C k40 w' A r.1.length r.1 ∧ Below w.heap.size w w'
theorem cut40 (A : Option Addr) (c : Nat) (l : List S40) (k : Nat) (hk : k ≤ l.length) (hc : l.length ≤ c) : ∃ A5 c5, (∀ W : World, (Instr.slice 36 (.slice A l.length c) (some (.int .i64 k)) none none).run Tryz.prog W = .ok (.slice A5 (l.length - k) c5) W) ∧
    ∀ W : World, Kd.C k40 W A l.length l → Kd.C k40 W A5 (l.length - k) (l.drop k) := by
  obtain ⟨i0, hi0, hz0, hs0, _⟩ := info_parts info40
  have h := cut_from (P := Tryz.prog) 36 40 .i64 Tryz.underlying36 hi0 3 (by first | exact hs0 | simpa using hs0) A l.length c k (by omega) (by omega)
  refine ⟨_, c - k, h, fun W hr => ?_⟩
  have h2 := Kd.C_drop hr (m := k) hk hc
  rw [List.length_drop] at h2
  exact h2
set_option maxHeartbeats 4000000 in
theorem Put_any (l : List S40) (A : Option Addr) (c : Nat) (x : S40) (W : World) (hC : Kd.C k40 W A l.length l) (hl : l.length ≤ c) (hn : l.length ≤ 1000) :
    Calls Tryz.prog 27 #[.slice A l.length c, .agg #[.string x.f0, .int .i64 x.f1, .int .i64 x.f2]] W (RPut (putL l x) W) := by
  have HB := Lib.hid (show Below W.heap.size W (W.alloc (.cells #[.string x.f0, .int .i64 x.f1, .int .i64 x.f2] 40 (0, 0))) from below_alloc (Below.refl _ _) _)
  have HY := Lib.hid (new_blk W (.cells #[.string x.f0, .int .i64 x.f1, .int .i64 x.f2] 40 (0, 0)))
  have HC := Lib.hid (Kd.C_below hC HB.out)
  have HL := Lib.hid hl
  have hn2 : (l.length : Int) ≤ 1000 := by omega
  obtain ⟨P, hP⟩ : ∃ P, P = putL l x := ⟨_, rfl⟩
  rw [← hP]
  have HP := Lib.hid hP
  clear hC hl hP
  go_enter Tryz.func27, Tryz.ntmps27
  go_wp2
  generalize W.alloc (.cells #[.string x.f0, .int .i64 x.f1, .int .i64 x.f2] 40 (0, 0)) = W1 at *
  go_loopw [6] (fun v6 wr => ∃ k : Nat, v6 = .int .i64 k ∧ k ≤ l.length ∧ Aside0 (l.any (nm40 x.f0) = (l.drop k).any (nm40 x.f0)) ∧ Aside0 (Below W1.heap.size W1 wr)) (fun v6 _ => l.length - (intOf v6).toNat)
  case atStart => exact ⟨0, rfl, Nat.zero_le _, ⟨by rw [List.drop_zero]⟩, ⟨Below.refl _ _⟩⟩
  case round =>
    obtain ⟨k, rfl, hk, HA, HBW⟩ := hrel
    have HY2 := Lib.hid ((HBW.out.block W.heap.size (blk_lt HY.out)).trans HY.out)
    have q0 : wr.cell? ⟨W.heap.size, 0, none⟩ = some (.string x.f0) := (blk_cell HY2.out 0).trans rfl
    have q1 : wr.cell? ⟨W.heap.size, 1, none⟩ = some (.int .i64 x.f1) := (blk_cell HY2.out 1).trans rfl
    have q2 : wr.cell? ⟨W.heap.size, 2, none⟩ = some (.int .i64 x.f2) := (blk_cell HY2.out 2).trans rfl
    by_cases hlt : k < l.length
    · have hlt2 : (k : Int) < (l.length : Int) := by omega
      obtain ⟨ad, e, h0, h1, h2⟩ := at_T40 (Kd.C_below HC.out HBW.out) (k : Int) (by omega) (by omega)
      subst e
      simp only [Int.toNat_natCast] at h0 h1 h2
      have HA2 := Lib.hid (show l.any (nm40 x.f0) = ((rd_T40 l (k : Int)).f0.toList == x.f0.toList || (l.drop (k + 1)).any (nm40 x.f0)) from by rw [HA.out, drop_T40 hlt]; rfl)
      generalize rd_T40 l (k : Int) = y at *
      generalize hb : (y.f0.toList == x.f0.toList) = b at *
      go_wp2_with fail
      go_quiet (fail)
      have HBN := Lib.hid (pw_below_drewN HBW.out nq)
      cases b
      · go_wp2
        go_roundw
        case rel => exact ⟨k + 1, by go_num, by omega, ⟨by rw [HA2.out, Bool.false_or]⟩, ⟨HBN.out⟩⟩
        case measure => simp [intOf]; omega
      · obtain rfl : P = (l, 6) := by rw [HP.out]; unfold putL; rw [if_pos (by rw [HA2.out]; rfl)]
        go_wp2
        go_ret2
        exact ⟨some ad, c, rfl, HL.out, Kd.C_below HC.out HBN.out, below_tr HB.out HBN.out⟩
    · have hk2 : k = l.length := by omega
      have HF := Lib.hid (show l.any (nm40 x.f0) = false from by rw [HA.out, hk2, List.drop_of_length_le (Nat.le_refl _)]; rfl)
      clear hk2
      by_cases h200 : 200 ≤ l.length
      · have h2002 : (200 : Int) ≤ (l.length : Int) := by omega
        obtain rfl : P = (l, 4) := by rw [HP.out]; unfold putL; rw [if_neg (by rw [HF.out]; decide), if_pos h200]
        go_wp2
        go_ret2
        exact ⟨A, c, rfl, HL.out, Kd.C_below HC.out HBW.out, below_tr HB.out HBW.out⟩
      have h2002 : ¬ (200 : Int) ≤ (l.length : Int) := by omega
      obtain ⟨z, hz⟩ : ∃ z, z = insB x l := ⟨_, rfl⟩
      obtain rfl : P = (z, 0) := by rw [HP.out, hz]; unfold putL; rw [if_neg (by rw [HF.out]; decide), if_neg h200]
      have HZ := Lib.hid hz
      clear hz
      go_wp2
      clear q0 q1 q2
      go_loopw [7, 8] (fun v7 v8 wr => ∃ k : Nat, v8 = .int .i64 k ∧ k ≤ l.length ∧ Aside0 (Kd.R k40 40 wr W1.heap.size (fun _ => True) v7 (l.take k)) ∧ Aside0 (z = l.take k ++ insB x (l.drop k)) ∧ Aside0 (Below W1.heap.size W1 wr)) (fun _ v8 _ => l.length - (intOf v8).toNat)
      case atStart => exact ⟨0, rfl, Nat.zero_le _, ⟨Kd.R_nil _ _ _ _ _⟩, ⟨by rw [List.drop_zero]; exact HZ.out⟩, ⟨HBW.out⟩⟩
      case round =>
        clear HY2 HBW
        obtain ⟨k, rfl, hk, HO, HA, HBW⟩ := hrel
        have HY2 := Lib.hid ((HBW.out.block W.heap.size (blk_lt HY.out)).trans HY.out)
        have q0 : wr.cell? ⟨W.heap.size, 0, none⟩ = some (.string x.f0) := (blk_cell HY2.out 0).trans rfl
        have q1 : wr.cell? ⟨W.heap.size, 1, none⟩ = some (.int .i64 x.f1) := (blk_cell HY2.out 1).trans rfl
        have q2 : wr.cell? ⟨W.heap.size, 2, none⟩ = some (.int .i64 x.f2) := (blk_cell HY2.out 2).trans rfl
        by_cases hlt : k < l.length
        · have hlt2 : (k : Int) < (l.length : Int) := by omega
          obtain ⟨ad, e, h0, h1, h2⟩ := at_T40 (Kd.C_below HC.out HBW.out) (k : Int) (by omega) (by omega)
          subst e
          simp only [Int.toNat_natCast] at h0 h1 h2
          have HT := Lib.hid (take_T40 hlt)
          have HA2 := Lib.hid (show z = l.take k ++ insB x (rd_T40 l (k : Int) :: l.drop (k + 1)) from by rw [HA.out, drop_T40 hlt])
          have HD := Lib.hid (drop_T40 hlt)
          generalize rd_T40 l (k : Int) = y at *
          have HAH := fun w => Lib.hid (Ahead_eq y x w)
          generalize hb : ltB y x = b at *
          have HLT := Lib.hid hb
          clear hb
          go_wp2_with fail
          refine WL.start (n := 12) (S := fun w' => Aside0 (Below wr.heap.size wr w') ∧ w'.cell? ⟨W.heap.size, 0, none⟩ = some (.string x.f0) ∧ w'.cell? ⟨W.heap.size, 1, none⟩ = some (.int .i64 x.f1) ∧ w'.cell? ⟨W.heap.size, 2, none⟩ = some (.int .i64 x.f2) ∧ w'.cell? (ad.add (k * 3)) = some (.string y.f0) ∧ w'.cell? ⟨(ad.add (k * 3)).block, (ad.add (k * 3)).off + 1, none⟩ = some (.int .i64 y.f1) ∧ w'.cell? ⟨(ad.add (k * 3)).block, (ad.add (k * 3)).off + 2, none⟩ = some (.int .i64 y.f2)) (ds := []) [false, false, false, false, false, false, false, false, false, false, false, false] (by kernel_rfl) rfl rfl ⟨⟨below_drew (Below.refl _ _)⟩, q0, q1, q2, h0, h1, h2⟩ (fun hHeld => ?_)
          refine WL.tab tab27_10 (fun HT_ => ?_)
          refine WL.more [0, 1, 2, 3, 4, 5, 6, 7, 8, 9] ?_
          repeat (first
            | (refine WL.off (lb' := ?_) (ys := ?_) rfl rfl (by rfl) ?_ HT_.out ?_ (fun _ _ _ h => h) ?_ ?_; rotate_left 2; (focus dsimp only [List.set_cons_zero, List.set_cons_succ]; rfl); (focus kernel_rfl); (focus dsimp only [List.set_cons_zero, List.set_cons_succ]; rfl))
            | (refine WL.pure (lb' := ?_) (v := ?_) (ys := ?_) rfl rfl (by rfl) ?_ HT_.out ?_ (fun _ _ _ h => h) ?_ ?_ ?_; rotate_left 3; (focus dsimp only [List.set_cons_zero, List.set_cons_succ]; rfl); (focus kernel_rfl); (focus intro w'; go_simp; with_reducible rfl); (focus dsimp only [List.set_cons_zero, List.set_cons_succ]; rfl))
            | (refine WL.take (lb' := ?_) (v := ?_) (ys := ?_) rfl rfl (by rfl) ?_ HT_.out ?_ (fun _ _ _ h => h) hHeld ?_ ?_ ?_; rotate_left 3; (focus dsimp only [List.set_cons_zero, List.set_cons_succ]; rfl); (focus kernel_rfl); (focus rintro w' ⟨s0, s1, s2, s3, s4, s5, s6⟩; go_simp; with_reducible rfl); (focus dsimp only [List.set_cons_zero, List.set_cons_succ]; rfl)))
          refine WL.more [10] ?_
          refine WL.one (lb' := ?_) rfl rfl ?_ HT_.out ?_ (by decide) (fun K hK => ?_)
          rotate_left; (focus dsimp only [List.set_cons_zero, List.set_cons_succ]; rfl); (focus kernel_rfl)
          refine goes_ Tryz.func60 (by kernel_rfl) rfl #[.agg #[.string y.f0, .int .i64 y.f1, .int .i64 y.f2], .agg #[.string x.f0, .int .i64 x.f1, .int .i64 x.f2]] (by rfl) rfl rfl (by simp only [List.map_toArray, List.map_cons, List.map_nil]; rfl) ?_
          (with_reducible refine ((HAH _).out).mono ?_)
          rintro e w3 ⟨rfl, hb⟩
          refine ⟨_, rfl, ?_⟩
          refine hK.out _ _ ⟨⟨below_tr hHeld.1.out hb⟩, below_cell hb hHeld.2.1, below_cell hb hHeld.2.2.1, below_cell hb hHeld.2.2.2.1, below_cell hb hHeld.2.2.2.2.1, below_cell hb hHeld.2.2.2.2.2.1, below_cell hb hHeld.2.2.2.2.2.2⟩ (fun hHeld => ?_)
          clear hK K
          refine WL.put (ys := ?_) ?_ ?_
          rotate_left
          (focus dsimp only [List.set_cons_zero, List.set_cons_succ]; rfl)
          refine WL.more [11] ?_
          repeat (first
            | (refine WL.off (lb' := ?_) (ys := ?_) rfl rfl (by rfl) ?_ HT_.out ?_ (fun _ _ _ h => h) ?_ ?_; rotate_left 2; (focus dsimp only [List.set_cons_zero, List.set_cons_succ]; rfl); (focus kernel_rfl); (focus dsimp only [List.set_cons_zero, List.set_cons_succ]; rfl))
            | (refine WL.pure (lb' := ?_) (v := ?_) (ys := ?_) rfl rfl (by rfl) ?_ HT_.out ?_ (fun _ _ _ h => h) ?_ ?_ ?_; rotate_left 3; (focus dsimp only [List.set_cons_zero, List.set_cons_succ]; rfl); (focus kernel_rfl); (focus intro w'; go_simp; with_reducible rfl); (focus dsimp only [List.set_cons_zero, List.set_cons_succ]; rfl))
            | (refine WL.take (lb' := ?_) (v := ?_) (ys := ?_) rfl rfl (by rfl) ?_ HT_.out ?_ (fun _ _ _ h => h) hHeld ?_ ?_ ?_; rotate_left 3; (focus dsimp only [List.set_cons_zero, List.set_cons_succ]; rfl); (focus kernel_rfl); (focus rintro w' ⟨s0, s1, s2, s3, s4, s5, s6⟩; go_simp; with_reducible rfl); (focus dsimp only [List.set_cons_zero, List.set_cons_succ]; rfl)))
          refine WL.done HT_.out (by kernel_rfl) ?_
          have HBW3 := Lib.hid (below_tr HBW.out hHeld.1.out)
          have HO3 := Lib.hid (Kd.R_below HO.out hHeld.1.out)
          clear q0 q1 q2 h0 h1 h2 hb
          obtain ⟨_, q0, q1, q2, h0, h1, h2⟩ := hHeld
          cases b
          · have HINS := Lib.hid (show l.take k ++ [x] ++ l.drop k = z by
              rw [HA2.out, HD.out]
              unfold insB
              rw [if_neg (by rw [HLT.out]; decide), List.append_assoc]
              rfl)
            clear h0 h1 h2
            go_wp2_with fail
            obtain ⟨A5, c5, hcut, HCUT⟩ := cut40 (some ad) c l k (by omega) HL.out
            have HCUT2 := Lib.hid HCUT
            clear HCUT
            refine WL.start (n := 10) (S := fun w' => w'.cell? ⟨W.heap.size, 0, none⟩ = some (.string x.f0) ∧ w'.cell? ⟨W.heap.size, 1, none⟩ = some (.int .i64 x.f1) ∧ w'.cell? ⟨W.heap.size, 2, none⟩ = some (.int .i64 x.f2)) (ds := []) [false, false, false, false, false, false, false, false, false, false] (by kernel_rfl) rfl rfl ⟨q0, q1, q2⟩ (fun hHeld => ?_)
            refine WL.tab tab27_13 (fun HT_ => ?_)
            refine WL.more [0, 4, 5, 6, 1] ?_
            repeat (first
              | (refine WL.off (lb' := ?_) (ys := ?_) rfl rfl (by rfl) ?_ HT_.out ?_ (fun _ _ _ h => h) ?_ ?_; rotate_left 2; (focus dsimp only [List.set_cons_zero, List.set_cons_succ]; rfl); (focus kernel_rfl); (focus dsimp only [List.set_cons_zero, List.set_cons_succ]; rfl))
              | (refine WL.pure (lb' := ?_) (v := ?_) (ys := ?_) rfl rfl (by rfl) ?_ HT_.out ?_ (fun _ _ _ h => h) ?_ ?_ ?_; rotate_left 3; (focus dsimp only [List.set_cons_zero, List.set_cons_succ]; rfl); (focus kernel_rfl); (focus intro w'; go_simp; with_reducible rfl); (focus dsimp only [List.set_cons_zero, List.set_cons_succ]; rfl))
              | (refine WL.take (lb' := ?_) (v := ?_) (ys := ?_) rfl rfl (by rfl) ?_ HT_.out ?_ (fun _ _ _ h => h) hHeld ?_ ?_ ?_; rotate_left 3; (focus dsimp only [List.set_cons_zero, List.set_cons_succ]; rfl); (focus kernel_rfl); (focus rintro w' ⟨s0, s1, s2⟩; go_simp; with_reducible rfl); (focus dsimp only [List.set_cons_zero, List.set_cons_succ]; rfl)))
            refine WL.more [2] ?_
            refine WL.one (lb' := ?_) rfl rfl ?_ HT_.out ?_ (by decide) (fun K hK => ?_)
            rotate_left; (focus dsimp only [List.set_cons_zero, List.set_cons_succ]; rfl); (focus kernel_rfl)
            refine value_ (w1 := ?_) (v := ?_) (by rfl) rfl ?_ ?_
            rotate_left 2
            · go_simp
              constructor
              · rfl
              · rfl
            refine hK.out _ _ ⟨below_cell (below_alloc (Below.refl _ _) _) hHeld.1, below_cell (below_alloc (Below.refl _ _) _) hHeld.2.1, below_cell (below_alloc (Below.refl _ _) _) hHeld.2.2⟩ (fun hHeld => ?_)
            clear hK K
            refine WL.put (ys := ?_) ?_ ?_
            rotate_left
            (focus dsimp only [List.set_cons_zero, List.set_cons_succ]; rfl)
            refine WL.more [3] ?_
            refine WL.one (lb' := ?_) rfl rfl ?_ HT_.out ?_ (by decide) (fun K hK => ?_)
            rotate_left; (focus dsimp only [List.set_cons_zero, List.set_cons_succ]; rfl); (focus kernel_rfl)
            refine Kd.R_append_step k40 (w0 := W1) W1.heap.size (by rfl) (.tmp 49) (.tmp 51) 36 40 (.agg #[(.string ⟨#[]⟩), (.int .i64 0), (.int .i64 0)]) 32 rfl Tryz.underlying36 info40 rfl (by decide) (by omega) u7 (l.take k) x [.string x.f0, .int .i64 x.f1, .int .i64 x.f2] (fun _ => True) (fun _ => False) rfl rfl (k40_mkM _ _ _ x) (fun _ hk => hk.elim) (fun _ _ => trivial) (Kd.R_drew HO3.out) (below_drew HBW3.out) (below_drew HBW3.out).size (by rw [List.length_take]; omega) ?_
            intro v9 w4 ho hb hg hat
            clear hg hat
            have HY4 := (hb.block W.heap.size (blk_lt HY.out)).trans HY.out
            refine hK.out _ _ ⟨(blk_cell HY4 0).trans rfl, (blk_cell HY4 1).trans rfl, (blk_cell HY4 2).trans rfl⟩ (fun hHeld => ?_)
            clear hK K
            refine WL.put (ys := ?_) ?_ ?_
            rotate_left
            (focus dsimp only [List.set_cons_zero, List.set_cons_succ]; rfl)
            refine WL.more [7] ?_
            refine WL.one (lb' := ?_) rfl rfl ?_ HT_.out ?_ (by decide) (fun K hK => ?_)
            rotate_left; (focus dsimp only [List.set_cons_zero, List.set_cons_succ]; rfl); (focus kernel_rfl)
            refine Kd.R_append_rows_step k40 (w0 := W1) W1.heap.size (by rfl) (.tmp 52) (.tmp 55) 36 40 (.agg #[(.string ⟨#[]⟩), (.int .i64 0), (.int .i64 0)]) 32 rfl Tryz.underlying36 info40 rfl (by decide) (by omega) v9 (l.take k ++ [x]) (l.drop k) _ _ _ (fun _ => True) (fun _ => False) rfl rfl ho (HCUT2.out w4 (Kd.C_below HC.out hb)) (fun _ _ h => h) (fun _ h => h.elim) (fun _ _ => trivial) hb hb.size (by simp only [List.length_append, List.length_take, List.length_singleton]; omega) ?_
            clear HY4
            intro v11 w5 ho5 hb5 hg hat
            clear hg hat
            rw [HINS.out] at ho5
            have HY4 := (hb5.block W.heap.size (blk_lt HY.out)).trans HY.out
            obtain ⟨A6, c6, rfl, hl6, hC6⟩ := Kd.R_reads ho5
            refine hK.out _ _ ⟨(blk_cell HY4 0).trans rfl, (blk_cell HY4 1).trans rfl, (blk_cell HY4 2).trans rfl⟩ (fun hHeld => ?_)
            clear hK K
            refine WL.put (ys := ?_) ?_ ?_
            rotate_left
            (focus dsimp only [List.set_cons_zero, List.set_cons_succ]; rfl)
            refine WL.more [8, 9] ?_
            repeat (first
              | (refine WL.off (lb' := ?_) (ys := ?_) rfl rfl (by rfl) ?_ HT_.out ?_ (fun _ _ _ h => h) ?_ ?_; rotate_left 2; (focus dsimp only [List.set_cons_zero, List.set_cons_succ]; rfl); (focus kernel_rfl); (focus dsimp only [List.set_cons_zero, List.set_cons_succ]; rfl))
              | (refine WL.pure (lb' := ?_) (v := ?_) (ys := ?_) rfl rfl (by rfl) ?_ HT_.out ?_ (fun _ _ _ h => h) ?_ ?_ ?_; rotate_left 3; (focus dsimp only [List.set_cons_zero, List.set_cons_succ]; rfl); (focus kernel_rfl); (focus intro w'; go_simp; with_reducible rfl); (focus dsimp only [List.set_cons_zero, List.set_cons_succ]; rfl))
              | (refine WL.take (lb' := ?_) (v := ?_) (ys := ?_) rfl rfl (by rfl) ?_ HT_.out ?_ (fun _ _ _ h => h) hHeld ?_ ?_ ?_; rotate_left 3; (focus dsimp only [List.set_cons_zero, List.set_cons_succ]; rfl); (focus kernel_rfl); (focus rintro w' ⟨s0, s1, s2⟩; go_simp; with_reducible rfl); (focus dsimp only [List.set_cons_zero, List.set_cons_succ]; rfl)))
            refine WL.done HT_.out (by kernel_rfl) ?_
            clear hHeld HY4
            have HF := Lib.hid (And.intro hl6 (And.intro hC6 (below_tr HB.out hb5)))
            clear hl6 hC6 ho5 hb5 ho hb
            go_wp2
            go_ret2
            exact ⟨A6, c6, rfl, HF.out⟩
          · go_wp2_with ((with_reducible refine gate_builtin (b := .append) (xs := #[.tmp 40, .tmp 45]) rfl ?_); at_builtin; refine Kd.R_append k40 (w0 := W1) W1.heap.size rfl (.tmp 40) (.tmp 45) 36 40 (.agg #[(.string ⟨#[]⟩), (.int .i64 0), (.int .i64 0)]) 32 rfl Tryz.underlying36 info40 rfl (by decide) (by omega) u7 (l.take k) y [.string y.f0, .int .i64 y.f1, .int .i64 y.f2] (fun _ => True) (fun _ => False) rfl rfl (k40_mkM _ _ _ y) (fun _ hk => hk.elim) (fun _ _ => trivial) HO3.out HBW3.out HBW3.out.size (by rw [List.length_take]; omega) ?_; intro v9 w4 ho hb hg hat; clear hg hat)
            go_roundw
            case rel => exact ⟨k + 1, by go_num, by omega, ⟨by rw [HT.out]; exact ho⟩, ⟨by rw [HA2.out, HT.out, insB_lt HLT.out, List.append_assoc]; rfl⟩, ⟨hb⟩⟩
            case measure => simp [intOf]; omega
        · have hk2 : k = l.length := by omega
          have HINS := Lib.hid (show l.take k ++ [x] ++ l.drop k = z by
            rw [HA.out, hk2, List.drop_of_length_le (Nat.le_refl _), List.append_nil]
            rfl)
          clear hk2
          go_wp2_with fail
          go_quiet (fail)
          have HBW3 := Lib.hid (pw_below_drewN HBW.out nq)
          have HO3 := Lib.hid (Kd.R_drewN HO.out nq)
          go_wp2_with fail
          obtain ⟨A5, c5, hcut, HCUT⟩ := cut40 A c l k (by omega) HL.out
          have HCUT2 := Lib.hid HCUT
          clear HCUT
          refine WL.start (n := 10) (S := fun w' => w'.cell? ⟨W.heap.size, 0, none⟩ = some (.string x.f0) ∧ w'.cell? ⟨W.heap.size, 1, none⟩ = some (.int .i64 x.f1) ∧ w'.cell? ⟨W.heap.size, 2, none⟩ = some (.int .i64 x.f2)) (ds := []) [false, false, false, false, false, false, false, false, false, false] (by kernel_rfl) rfl rfl ⟨q0, q1, q2⟩ (fun hHeld => ?_)
          refine WL.tab tab27_13 (fun HT_ => ?_)
          refine WL.more [0, 4, 5, 6, 1] ?_
          repeat (first
            | (refine WL.off (lb' := ?_) (ys := ?_) rfl rfl (by rfl) ?_ HT_.out ?_ (fun _ _ _ h => h) ?_ ?_; rotate_left 2; (focus dsimp only [List.set_cons_zero, List.set_cons_succ]; rfl); (focus kernel_rfl); (focus dsimp only [List.set_cons_zero, List.set_cons_succ]; rfl))
            | (refine WL.pure (lb' := ?_) (v := ?_) (ys := ?_) rfl rfl (by rfl) ?_ HT_.out ?_ (fun _ _ _ h => h) ?_ ?_ ?_; rotate_left 3; (focus dsimp only [List.set_cons_zero, List.set_cons_succ]; rfl); (focus kernel_rfl); (focus intro w'; go_simp; with_reducible rfl); (focus dsimp only [List.set_cons_zero, List.set_cons_succ]; rfl))
            | (refine WL.take (lb' := ?_) (v := ?_) (ys := ?_) rfl rfl (by rfl) ?_ HT_.out ?_ (fun _ _ _ h => h) hHeld ?_ ?_ ?_; rotate_left 3; (focus dsimp only [List.set_cons_zero, List.set_cons_succ]; rfl); (focus kernel_rfl); (focus rintro w' ⟨s0, s1, s2⟩; go_simp; with_reducible rfl); (focus dsimp only [List.set_cons_zero, List.set_cons_succ]; rfl)))
          refine WL.more [2] ?_
          refine WL.one (lb' := ?_) rfl rfl ?_ HT_.out ?_ (by decide) (fun K hK => ?_)
          rotate_left; (focus dsimp only [List.set_cons_zero, List.set_cons_succ]; rfl); (focus kernel_rfl)
          refine value_ (w1 := ?_) (v := ?_) (by rfl) rfl ?_ ?_
          rotate_left 2
          · go_simp
            constructor
            · rfl
            · rfl
          refine hK.out _ _ ⟨below_cell (below_alloc (Below.refl _ _) _) hHeld.1, below_cell (below_alloc (Below.refl _ _) _) hHeld.2.1, below_cell (below_alloc (Below.refl _ _) _) hHeld.2.2⟩ (fun hHeld => ?_)
          clear hK K
          refine WL.put (ys := ?_) ?_ ?_
          rotate_left
          (focus dsimp only [List.set_cons_zero, List.set_cons_succ]; rfl)
          refine WL.more [3] ?_
          refine WL.one (lb' := ?_) rfl rfl ?_ HT_.out ?_ (by decide) (fun K hK => ?_)
          rotate_left; (focus dsimp only [List.set_cons_zero, List.set_cons_succ]; rfl); (focus kernel_rfl)
          refine Kd.R_append_step k40 (w0 := W1) W1.heap.size (by rfl) (.tmp 49) (.tmp 51) 36 40 (.agg #[(.string ⟨#[]⟩), (.int .i64 0), (.int .i64 0)]) 32 rfl Tryz.underlying36 info40 rfl (by decide) (by omega) u7 (l.take k) x [.string x.f0, .int .i64 x.f1, .int .i64 x.f2] (fun _ => True) (fun _ => False) rfl rfl (k40_mkM _ _ _ x) (fun _ hk => hk.elim) (fun _ _ => trivial) (Kd.R_drew HO3.out) (below_drew HBW3.out) (below_drew HBW3.out).size (by rw [List.length_take]; omega) ?_
          intro v9 w4 ho hb hg hat
          clear hg hat
          have HY4 := (hb.block W.heap.size (blk_lt HY.out)).trans HY.out
          refine hK.out _ _ ⟨(blk_cell HY4 0).trans rfl, (blk_cell HY4 1).trans rfl, (blk_cell HY4 2).trans rfl⟩ (fun hHeld => ?_)
          clear hK K
          refine WL.put (ys := ?_) ?_ ?_
          rotate_left
          (focus dsimp only [List.set_cons_zero, List.set_cons_succ]; rfl)
          refine WL.more [7] ?_
          refine WL.one (lb' := ?_) rfl rfl ?_ HT_.out ?_ (by decide) (fun K hK => ?_)
          rotate_left; (focus dsimp only [List.set_cons_zero, List.set_cons_succ]; rfl); (focus kernel_rfl)
          refine Kd.R_append_rows_step k40 (w0 := W1) W1.heap.size (by rfl) (.tmp 52) (.tmp 55) 36 40 (.agg #[(.string ⟨#[]⟩), (.int .i64 0), (.int .i64 0)]) 32 rfl Tryz.underlying36 info40 rfl (by decide) (by omega) v9 (l.take k ++ [x]) (l.drop k) _ _ _ (fun _ => True) (fun _ => False) rfl rfl ho (HCUT2.out w4 (Kd.C_below HC.out hb)) (fun _ _ h => h) (fun _ h => h.elim) (fun _ _ => trivial) hb hb.size (by simp only [List.length_append, List.length_take, List.length_singleton]; omega) ?_
          clear HY4
          intro v11 w5 ho5 hb5 hg hat
          clear hg hat
          rw [HINS.out] at ho5
          have HY4 := (hb5.block W.heap.size (blk_lt HY.out)).trans HY.out
          obtain ⟨A6, c6, rfl, hl6, hC6⟩ := Kd.R_reads ho5
          refine hK.out _ _ ⟨(blk_cell HY4 0).trans rfl, (blk_cell HY4 1).trans rfl, (blk_cell HY4 2).trans rfl⟩ (fun hHeld => ?_)
          clear hK K
          refine WL.put (ys := ?_) ?_ ?_
          rotate_left
          (focus dsimp only [List.set_cons_zero, List.set_cons_succ]; rfl)
          refine WL.more [8, 9] ?_
          repeat (first
            | (refine WL.off (lb' := ?_) (ys := ?_) rfl rfl (by rfl) ?_ HT_.out ?_ (fun _ _ _ h => h) ?_ ?_; rotate_left 2; (focus dsimp only [List.set_cons_zero, List.set_cons_succ]; rfl); (focus kernel_rfl); (focus dsimp only [List.set_cons_zero, List.set_cons_succ]; rfl))
            | (refine WL.pure (lb' := ?_) (v := ?_) (ys := ?_) rfl rfl (by rfl) ?_ HT_.out ?_ (fun _ _ _ h => h) ?_ ?_ ?_; rotate_left 3; (focus dsimp only [List.set_cons_zero, List.set_cons_succ]; rfl); (focus kernel_rfl); (focus intro w'; go_simp; with_reducible rfl); (focus dsimp only [List.set_cons_zero, List.set_cons_succ]; rfl))
            | (refine WL.take (lb' := ?_) (v := ?_) (ys := ?_) rfl rfl (by rfl) ?_ HT_.out ?_ (fun _ _ _ h => h) hHeld ?_ ?_ ?_; rotate_left 3; (focus dsimp only [List.set_cons_zero, List.set_cons_succ]; rfl); (focus kernel_rfl); (focus rintro w' ⟨s0, s1, s2⟩; go_simp; with_reducible rfl); (focus dsimp only [List.set_cons_zero, List.set_cons_succ]; rfl)))
          refine WL.done HT_.out (by kernel_rfl) ?_
          clear hHeld HY4
          have HF := Lib.hid (And.intro hl6 (And.intro hC6 (below_tr HB.out hb5)))
          clear hl6 hC6 ho5 hb5 ho hb
          go_wp2
          go_ret2
          exact ⟨A6, c6, rfl, HF.out⟩
end Go.Proofs.YtafigkikblpbnaaGreat.PG
namespace Go.Proofs.YtafigkikblpbnaaGreat.PG
open Go.RowKit Go.Proofs.YtafigkikblpbnaaGreatW.PrintWords Go.Proofs.YtafigkikblpbnaaGreatW.PrintLast Go.Proofs.YtafigkikblpbnaaGreatW.PrintMore
set_option linter.unusedVariables false
set_option linter.unusedSimpArgs false
set_option maxRecDepth 100000
theorem tab23_1 : rtab .any (opsOf Tryz.f23 1) = (true, [([], []), ([0], [0]), ([], []), ([2], [2]), ([1, 3], [1, 3]), ([], []), ([5], [5]), ([], []), ([7], [7]), ([6, 8, 4], [6, 8]), ([], []), ([10], [10]), ([], []), ([12], [12]), ([11, 13, 9], [11, 13]), ([4, 9, 14], [4, 9, 14]), ([15, 14], [15]), ([16, 16, 0, 1, 2, 3, 4, 5, 6, 7, 8, 9, 10, 11, 12, 13, 14, 15, 16], [16])]) := by kernel_rfl

def cI (a b : Int) : Int := if a < b then -1 else if a > b then 1 else 0
def cS (a b : ByteArray) : Int := if Op.bytesLess a.toList b.toList = true then -1 else if Op.bytesLess b.toList a.toList = true then 1 else 0
/-- Two items against each other. -/
def ordI (a b : S40) : Int := if cI a.f1 b.f1 ≠ 0 then cI a.f1 b.f1 else if cI a.f2 b.f2 ≠ 0 then cI a.f2 b.f2 else cS a.f0 b.f0
theorem nanI (a : Int) (w : World) : Calls Tryz.prog 94 #[.int .i64 a] w fun e w' => e = .returned (.bool false) ∧ w' = w := by
  go_enter Tryz.func94, Tryz.ntmps94
  go_wp2
  go_ret
  exact ⟨by simp, rfl⟩
theorem nanS (a : ByteArray) (w : World) : Calls Tryz.prog 95 #[.string a] w fun e w' => e = .returned (.bool false) ∧ w' = w := by
  go_enter Tryz.func95, Tryz.ntmps95
  go_wp2
  go_ret
  exact ⟨by simp, rfl⟩
theorem cmpI_eq (a b : Int) (w : World) : Calls Tryz.prog 54 #[.int .i64 a, .int .i64 b] w fun e w' => e = .returned (.int .i64 (cI a b)) ∧ w' = w := by
  have h1 := fun w => Lib.hid (nanI a w)
  have h2 := fun w => Lib.hid (nanI b w)
  unfold cI
  by_cases c1 : a < b
  · rw [if_pos c1]
    go_enter Tryz.func54, Tryz.ntmps54
    go_wp2_with (go_at_call 94; first | ((with_reducible refine (h1 _).out.mono ?_); rintro e w2 ⟨rfl, rfl⟩) | ((with_reducible refine (h2 _).out.mono ?_); rintro e w2 ⟨rfl, rfl⟩))
    go_ret
    exact ⟨rfl, rfl⟩
  · rw [if_neg c1]
    by_cases c2 : a > b
    · rw [if_pos c2]
      have c3 : b < a := c2
      go_enter Tryz.func54, Tryz.ntmps54
      go_wp2_with (go_at_call 94; first | ((with_reducible refine (h1 _).out.mono ?_); rintro e w2 ⟨rfl, rfl⟩) | ((with_reducible refine (h2 _).out.mono ?_); rintro e w2 ⟨rfl, rfl⟩))
      go_ret
      exact ⟨rfl, rfl⟩
    · rw [if_neg c2]
      have c3 : ¬ b < a := c2
      go_enter Tryz.func54, Tryz.ntmps54
      go_wp2_with (go_at_call 94; first | ((with_reducible refine (h1 _).out.mono ?_); rintro e w2 ⟨rfl, rfl⟩) | ((with_reducible refine (h2 _).out.mono ?_); rintro e w2 ⟨rfl, rfl⟩))
      go_ret
      exact ⟨rfl, rfl⟩
theorem cmpS_eq (a b : ByteArray) (w : World) : Calls Tryz.prog 55 #[.string a, .string b] w fun e w' => e = .returned (.int .i64 (cS a b)) ∧ w' = w := by
  have h1 := fun w => Lib.hid (nanS a w)
  have h2 := fun w => Lib.hid (nanS b w)
  unfold cS
  cases c1 : Op.bytesLess a.toList b.toList
  · have c4 := bytes_gtr a.toList b.toList
    cases c2 : Op.bytesLess b.toList a.toList
    all_goals
      rw [c1, c2] at c4
      cases hab : (a.toList == b.toList)
    all_goals first
      | (exfalso; rw [hab] at c4; revert c4; decide)
      | (clear c4
         go_enter Tryz.func55, Tryz.ntmps55
         go_wp2_with (go_at_call 95; first | ((with_reducible refine (h1 _).out.mono ?_); rintro e w2 ⟨rfl, rfl⟩) | ((with_reducible refine (h2 _).out.mono ?_); rintro e w2 ⟨rfl, rfl⟩))
         go_ret
         exact ⟨by first | rfl | simp, rfl⟩)
  · go_enter Tryz.func55, Tryz.ntmps55
    go_wp2_with (go_at_call 95; first | ((with_reducible refine (h1 _).out.mono ?_); rintro e w2 ⟨rfl, rfl⟩) | ((with_reducible refine (h2 _).out.mono ?_); rintro e w2 ⟨rfl, rfl⟩))
    go_ret
    exact ⟨by first | rfl | simp, rfl⟩

theorem or3_eq (b : Nat) (x y z : Int) (w : World) (hb : w.heap[b]? = some (.cells #[.int .i64 x, .int .i64 y, .int .i64 z] 3 (0, 0))) : Calls Tryz.prog 53 #[.slice (some ⟨b, 0, none⟩) 3 3] w fun e w' => e = .returned (.int .i64 (if x ≠ 0 then x else if y ≠ 0 then y else z)) ∧ w' = w := by
  have q0 : w.cell? ⟨b, 0, none⟩ = some (.int .i64 x) := (blk_cell hb 0).trans rfl
  have q1 : w.cell? ⟨b, 1, none⟩ = some (.int .i64 y) := (blk_cell hb 1).trans rfl
  have q2 : w.cell? ⟨b, 2, none⟩ = some (.int .i64 z) := (blk_cell hb 2).trans rfl
  obtain ⟨R, hR⟩ : ∃ R, R = if x ≠ 0 then x else if y ≠ 0 then y else z := ⟨_, rfl⟩
  rw [← hR]
  have HR := Lib.hid hR
  clear hR hb
  generalize hx : (x != 0) = bx at *
  generalize hy : (y != 0) = bY at *
  generalize hz : (z != 0) = bz at *
  have HX := Lib.hid hx
  have HY := Lib.hid hy
  have HZ := Lib.hid hz
  go_enter Tryz.func53, Tryz.ntmps53
  go_wp2
  go_loopw [8] (fun v8 wr => ∃ k : Nat, v8 = .int .i64 k ∧ k ≤ 3 ∧ Aside0 (wr = w) ∧ Aside0 (1 ≤ k → x = 0) ∧ Aside0 (2 ≤ k → y = 0) ∧ Aside0 (3 ≤ k → z = 0)) (fun v8 _ => 3 - (intOf v8).toNat)
  case atStart => exact ⟨0, rfl, by omega, ⟨rfl⟩, ⟨fun h => by omega⟩, ⟨fun h => by omega⟩, ⟨fun h => by omega⟩⟩
  case round =>
    obtain ⟨k, rfl, hk, HW, K1, K2, K3⟩ := hrel
    obtain rfl := HW.out.symm
    have hk3 : k = 0 ∨ k = 1 ∨ k = 2 ∨ k = 3 := by omega
    rcases hk3 with rfl | rfl | rfl | rfl
    · cases bx
      · go_wp2
        go_roundw
        case rel => exact ⟨1, by go_num, by omega, ⟨by first | rfl | trivial⟩, ⟨fun _ => by simpa using HX.out⟩, ⟨fun h => by omega⟩, ⟨fun h => by omega⟩⟩
        case measure => simp [intOf]
      · go_wp2
        go_ret
        exact ⟨ret_i (by rw [HR.out, if_pos (by simpa using HX.out)]), rfl⟩
    · have h0 := K1.out (by omega)
      have H0 := Lib.hid h0
      clear h0
      cases bY
      · go_wp2
        go_roundw
        case rel => exact ⟨2, by go_num, by omega, ⟨by first | rfl | trivial⟩, ⟨fun _ => H0.out⟩, ⟨fun _ => by simpa using HY.out⟩, ⟨fun h => by omega⟩⟩
        case measure => simp [intOf]
      · go_wp2
        go_ret
        exact ⟨ret_i (by rw [HR.out, if_neg (by rw [H0.out]; simp), if_pos (by simpa using HY.out)]), rfl⟩
    · have h0 := K1.out (by omega)
      have h1 := K2.out (by omega)
      have H0 := Lib.hid h0
      have H1 := Lib.hid h1
      clear h0 h1
      cases bz
      · go_wp2
        go_roundw
        case rel => exact ⟨3, by go_num, by omega, ⟨by first | rfl | trivial⟩, ⟨fun _ => H0.out⟩, ⟨fun _ => H1.out⟩, ⟨fun _ => by simpa using HZ.out⟩⟩
        case measure => simp [intOf]
      · go_wp2
        go_ret
        exact ⟨ret_i (by rw [HR.out, if_neg (by rw [H0.out]; simp), if_neg (by rw [H1.out]; simp)]), rfl⟩
    · obtain rfl : R = 0 := by rw [HR.out, if_neg (by rw [K1.out (by omega)]; simp), if_neg (by rw [K2.out (by omega)]; simp), K3.out (by omega)]
      go_wp2
      go_ret
      exact ⟨rfl, rfl⟩
theorem g3 (W : World) (a b o : Obj) : (((W.alloc a).alloc b).drew).alloc o = Sort.grow (W.drewN 1) #[a, b, o] := by
  have e1 : ((W.alloc a).alloc b).drew = Sort.grow (W.drewN 1) (#[a] ++ #[b]) := by
    rw [Sort.alloc_eq_grow, Sort.alloc_eq_grow, Sort.grow_grow]
    rfl
  rw [e1, Sort.alloc_eq_grow, Sort.grow_grow]
  rfl
set_option maxHeartbeats 2000000 in
/-- The order of items: what it answers; it draws and lays blocks alone. -/
theorem order_eq (a b : S40) (W : World) : Calls Tryz.prog 23 #[.agg #[.string a.f0, .int .i64 a.f1, .int .i64 a.f2], .agg #[.string b.f0, .int .i64 b.f1, .int .i64 b.f2]] W fun e w' => e = .returned (.int .i64 (ordI a b)) ∧ ∃ q os, w' = Sort.grow (W.drewN q) os := by
  obtain ⟨W2, hW2⟩ : ∃ W2, (W.alloc (.cells #[.string a.f0, .int .i64 a.f1, .int .i64 a.f2] 39 (0, 0))).alloc (.cells #[.string b.f0, .int .i64 b.f1, .int .i64 b.f2] 39 (0, 0)) = W2 := ⟨_, rfl⟩
  have hz : (W.alloc (.cells #[.string a.f0, .int .i64 a.f1, .int .i64 a.f2] 39 (0, 0))).heap.size = W.heap.size + 1 := by show (W.heap.push _).size = _; rw [Array.size_push]
  have hy1 := new_blk W (.cells #[.string a.f0, .int .i64 a.f1, .int .i64 a.f2] 39 (0, 0))
  have hy2 := new_blk (W.alloc (.cells #[.string a.f0, .int .i64 a.f1, .int .i64 a.f2] 39 (0, 0))) (.cells #[.string b.f0, .int .i64 b.f1, .int .i64 b.f2] 39 (0, 0))
  rw [hz] at hy2
  have hy1b := ((below_alloc (Below.refl (W.alloc (.cells #[.string a.f0, .int .i64 a.f1, .int .i64 a.f2] 39 (0, 0))).heap.size _) (.cells #[.string b.f0, .int .i64 b.f1, .int .i64 b.f2] 39 (0, 0))).block W.heap.size (by rw [hz]; omega)).trans hy1
  rw [hW2] at hy2 hy1b
  have q0 : W2.cell? ⟨W.heap.size, 0, none⟩ = some (.string a.f0) := (blk_cell hy1b 0).trans rfl
  have q1 : W2.cell? ⟨W.heap.size, 1, none⟩ = some (.int .i64 a.f1) := (blk_cell hy1b 1).trans rfl
  have q2 : W2.cell? ⟨W.heap.size, 2, none⟩ = some (.int .i64 a.f2) := (blk_cell hy1b 2).trans rfl
  have q3 : W2.cell? ⟨W.heap.size + 1, 0, none⟩ = some (.string b.f0) := (blk_cell hy2 0).trans rfl
  have q4 : W2.cell? ⟨W.heap.size + 1, 1, none⟩ = some (.int .i64 b.f1) := (blk_cell hy2 1).trans rfl
  have q5 : W2.cell? ⟨W.heap.size + 1, 2, none⟩ = some (.int .i64 b.f2) := (blk_cell hy2 2).trans rfl
  have HG := Lib.hid (show ∀ o, (W2.drew).alloc o = Sort.grow (W.drewN 1) #[.cells #[.string a.f0, .int .i64 a.f1, .int .i64 a.f2] 39 (0, 0), .cells #[.string b.f0, .int .i64 b.f1, .int .i64 b.f2] 39 (0, 0), o] by intro o; rw [← hW2]; exact g3 W _ _ o)
  have HW2 := Lib.hid hW2
  have HO := Lib.hid (show ordI a b = if cI a.f1 b.f1 ≠ 0 then cI a.f1 b.f1 else if cI a.f2 b.f2 ≠ 0 then cI a.f2 b.f2 else cS a.f0 b.f0 from rfl)
  clear hW2 hz hy1 hy2 hy1b
  have HC1 := fun w => Lib.hid (cmpI_eq a.f1 b.f1 w)
  have HC2 := fun w => Lib.hid (cmpI_eq a.f2 b.f2 w)
  have HC3 := fun w => Lib.hid (cmpS_eq a.f0 b.f0 w)
  generalize ordI a b = R at *
  generalize cI a.f1 b.f1 = x at *
  generalize cI a.f2 b.f2 = y at *
  generalize cS a.f0 b.f0 = z at *
  have HOR := Lib.hid (by have h := or3_eq W2.heap.size x y z (W2.drew.alloc (.cells #[.int .i64 x, .int .i64 y, .int .i64 z] 3 (0, 0))) (new_blk W2.drew _); rw [← HO.out] at h; exact h)
  clear HO
  go_enter Tryz.func23, Tryz.ntmps23
  go_wp2_with fail
  rw [HW2.out]
  refine WL.start (n := 18) (S := fun w' => w'.cell? ⟨W.heap.size, 0, none⟩ = some (.string a.f0) ∧ w'.cell? ⟨W.heap.size, 1, none⟩ = some (.int .i64 a.f1) ∧ w'.cell? ⟨W.heap.size, 2, none⟩ = some (.int .i64 a.f2) ∧ w'.cell? ⟨W.heap.size + 1, 0, none⟩ = some (.string b.f0) ∧ w'.cell? ⟨W.heap.size + 1, 1, none⟩ = some (.int .i64 b.f1) ∧ w'.cell? ⟨W.heap.size + 1, 2, none⟩ = some (.int .i64 b.f2)) (ds := []) [false, false, false, false, false, false, false, false, false, false, false, false, false, false, false, false, false, false] (by kernel_rfl) rfl rfl ⟨q0, q1, q2, q3, q4, q5⟩ (fun hHeld => ?_)
  refine WL.tab tab23_1 (fun HT_ => ?_)
  refine WL.more [0, 2, 5, 7, 10, 12, 1, 3, 6, 8, 11, 13, 4, 9, 14, 15, 16, 17] ?_
  repeat (first
    | (refine WL.off (lb' := ?_) (ys := ?_) rfl rfl (by rfl) ?_ HT_.out ?_ (fun _ _ _ h => h) ?_ ?_; rotate_left 2; (focus dsimp only [List.set_cons_zero, List.set_cons_succ]; rfl); (focus kernel_rfl); (focus dsimp only [List.set_cons_zero, List.set_cons_succ]; rfl))
    | (refine WL.pure (lb' := ?_) (v := ?_) (ys := ?_) rfl rfl (by rfl) ?_ HT_.out ?_ (fun _ _ _ h => h) ?_ ?_ ?_; rotate_left 3; (focus dsimp only [List.set_cons_zero, List.set_cons_succ]; rfl); (focus kernel_rfl); (focus intro w'; go_simp; with_reducible rfl); (focus dsimp only [List.set_cons_zero, List.set_cons_succ]; rfl))
    | (refine WL.take (lb' := ?_) (v := ?_) (ys := ?_) rfl rfl (by rfl) ?_ HT_.out ?_ (fun _ _ _ h => h) hHeld ?_ ?_ ?_; rotate_left 3; (focus dsimp only [List.set_cons_zero, List.set_cons_succ]; rfl); (focus kernel_rfl); (focus rintro w' ⟨s0, s1, s2, s3, s4, s5⟩; go_simp; with_reducible rfl); (focus dsimp only [List.set_cons_zero, List.set_cons_succ]; rfl))
    | (refine WL.one (lb' := ?_) rfl rfl ?_ HT_.out ?_ (by decide) (fun K hK => ?_); rotate_left; (focus dsimp only [List.set_cons_zero, List.set_cons_succ]; rfl); (focus kernel_rfl); first
        | (refine goes_ Tryz.func54 (by kernel_rfl) rfl #[.int .i64 a.f1, .int .i64 b.f1] (by rfl) rfl rfl (by simp only [List.map_toArray, List.map_cons, List.map_nil]; rfl) ?_; (with_reducible refine ((HC1 _).out).mono ?_); rintro e w3 ⟨rfl, rfl⟩; refine ⟨_, rfl, ?_⟩; refine hK.out _ _ hHeld (fun hHeld => ?_); clear hK K; refine WL.put (ys := ?_) ?_ ?_; rotate_left; (focus dsimp only [List.set_cons_zero, List.set_cons_succ]; rfl))
        | (refine goes_ Tryz.func54 (by kernel_rfl) rfl #[.int .i64 a.f2, .int .i64 b.f2] (by rfl) rfl rfl (by simp only [List.map_toArray, List.map_cons, List.map_nil]; rfl) ?_; (with_reducible refine ((HC2 _).out).mono ?_); rintro e w3 ⟨rfl, rfl⟩; refine ⟨_, rfl, ?_⟩; refine hK.out _ _ hHeld (fun hHeld => ?_); clear hK K; refine WL.put (ys := ?_) ?_ ?_; rotate_left; (focus dsimp only [List.set_cons_zero, List.set_cons_succ]; rfl))
        | (refine goes_ Tryz.func55 (by kernel_rfl) rfl #[.string a.f0, .string b.f0] (by rfl) rfl rfl (by simp only [List.map_toArray, List.map_cons, List.map_nil]; rfl) ?_; (with_reducible refine ((HC3 _).out).mono ?_); rintro e w3 ⟨rfl, rfl⟩; refine ⟨_, rfl, ?_⟩; refine hK.out _ _ hHeld (fun hHeld => ?_); clear hK K; refine WL.put (ys := ?_) ?_ ?_; rotate_left; (focus dsimp only [List.set_cons_zero, List.set_cons_succ]; rfl))
        | (refine value_ (w1 := ?_) (v := ?_) (by rfl) rfl ?_ ?_; rotate_left 2; (focus go_simp; constructor; (focus rfl); rfl); refine hK.out _ _ ⟨below_cell (below_alloc (Below.refl _ _) _) hHeld.1, below_cell (below_alloc (Below.refl _ _) _) hHeld.2.1, below_cell (below_alloc (Below.refl _ _) _) hHeld.2.2.1, below_cell (below_alloc (Below.refl _ _) _) hHeld.2.2.2.1, below_cell (below_alloc (Below.refl _ _) _) hHeld.2.2.2.2.1, below_cell (below_alloc (Below.refl _ _) _) hHeld.2.2.2.2.2⟩ (fun hHeld => ?_); clear hK K; refine WL.put (ys := ?_) ?_ ?_; rotate_left; (focus dsimp only [List.set_cons_zero, List.set_cons_succ]; rfl))
        | (refine goes_ Tryz.func53 (by kernel_rfl) rfl #[.slice (some ⟨W2.heap.size, 0, none⟩) 3 3] (by rfl) rfl rfl (by simp only [List.map_toArray, List.map_cons, List.map_nil]; rfl) ?_; refine (HOR.out).mono ?_; rintro e w4 ⟨rfl, rfl⟩; refine ⟨_, rfl, ?_⟩; refine hK.out _ _ hHeld (fun hHeld => ?_); clear hK K; refine WL.put (ys := ?_) ?_ ?_; rotate_left; (focus dsimp only [List.set_cons_zero, List.set_cons_succ]; rfl))))
  refine WL.done HT_.out (by kernel_rfl) ?_
  go_wp2
  go_ret
  exact ⟨rfl, 1, _, HG.out _⟩
end Go.Proofs.YtafigkikblpbnaaGreat.PG
