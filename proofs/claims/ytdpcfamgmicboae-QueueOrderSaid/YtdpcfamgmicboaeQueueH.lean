/- Contracts of the package queue's functions: the law QueueOrder; no condition beyond each theorem its own. -/
import Derived.Test.YtdpcfamgmicboaeQueueA
import Derived.Test.YtdpcfamgmicboaeQueueG
import Derived.Test.YtdpcfamgmicboaeQueueP
import Derived.Test.YtdpcfamgmicboaePQx1
namespace Go.Proofs.Ytdpcfamgmicboae
open Go.RowKit Go.Proofs.YtdpcfamgmicboaeW.PrintWords Go.Proofs.YtdpcfamgmicboaeW.PrintLast Go.Proofs.YtdpcfamgmicboaeW.PrintMore
set_option linter.unusedVariables false
set_option linter.unusedSimpArgs false

theorem IsQ.drew {w : World} {base g cnt : Nat} {M : Nat → Prop} {xs : List It} {S : ByteArray → Bool} (h : IsQ w base g M xs S cnt) : IsQ w.drew base g M xs S cnt := by
  obtain ⟨A, c, b, hg, h1, h2, h3, h4, h5, h6, hR, hm⟩ := h
  exact ⟨A, c, b, hg, h1, h2, h3, h4, h5, h6, Kd.R_drew hR, hm⟩
abbrev boxJ (y : It) : Obj := .cells #[.string y.f0, .int .i64 y.f1, .int .i64 y.f2] 28 (0, 0)
theorem IsQ.grown {w W : World} {base g cnt lb : Nat} {M : Nat → Prop} {xs : List It} {S : ByteArray → Bool} (h : IsQ w base g M xs S cnt) (hb : w.grownBy W (some lb)) (hn : ∀ k, M k → k ≠ lb) : IsQ W base g M xs S cnt := by
  obtain ⟨A, c, b, hg, h1, h2, h3, h4, h5, h6, hR, hm⟩ := h
  exact ⟨A, c, b, (hb.block g (blk_lt hg) (fun e => hn g h3 (Option.some.inj e))).trans hg, h1, h2, h3, h4, h5, Nat.lt_of_lt_of_le h6 hb.size, Kd.R_grown hR hb (fun k hk e => hn k hk.1 (Option.some.inj e)), hm.kept hb (fun e => hn b h4 (Option.some.inj e))⟩
theorem Below.then1 {w W W2 : World} (h : Below w.heap.size w W) (k : Below W.heap.size W W2) : Below w.heap.size w W2 := h.trans (Below.low_ k h.size)
theorem ord_fin {w w1 w3 : World} {base g cnt lb : Nat} {M : Nat → Prop} {xs : List It} {S : ByteArray → Bool} {y : It} (hQ : IsQ w1 base g M xs S cnt) (hb : Below w1.heap.size w1 w3) (hl : w3.heap[lb]? = some (boxJ y))
    (hM : ∀ k, M k → k < w1.heap.size ∧ k ≠ lb) (hB : Below base w w1) (hbl : base ≤ lb) (u v t : Value) :
    IsQ (((w3.setCell ⟨lb, 0, none⟩ u).setCell ⟨lb, 1, none⟩ v).setCell ⟨lb, 2, none⟩ t) base g M xs S cnt ∧ (∀ k, M k → k < (((w3.setCell ⟨lb, 0, none⟩ u).setCell ⟨lb, 1, none⟩ v).setCell ⟨lb, 2, none⟩ t).heap.size ∧ k ≠ lb) ∧
      Below base w (((w3.setCell ⟨lb, 0, none⟩ u).setCell ⟨lb, 1, none⟩ v).setCell ⟨lb, 2, none⟩ t) ∧ (((w3.setCell ⟨lb, 0, none⟩ u).setCell ⟨lb, 1, none⟩ v).setCell ⟨lb, 2, none⟩ t).heap[lb]? = some (.cells #[u, v, t] 28 (0, 0)) := by
  have hg := set3_grown w3 lb u v t
  have hgg : base ≤ w1.heap.size := by
    obtain ⟨A, c, b, h0, h1, _⟩ := hQ
    exact Nat.le_of_lt (Nat.lt_of_le_of_lt h1 (blk_lt h0))
  refine ⟨(hQ.below hb).grown hg (fun k hk => (hM k hk).2), fun k hk => ⟨Nat.lt_of_lt_of_le (hM k hk).1 (Nat.le_trans hb.size hg.size), (hM k hk).2⟩, ?_, blk_set (blk_set (blk_set hl 0 u) 1 v) 2 t⟩
  exact below_grown (hB.trans (Below.low_ hb hgg)) hg (fun k e => by injection e with e; omega) (Nat.le_trans hgg hb.size)
theorem ahead_any (a b : It) (h : ltI a b) (w : World) : Calls Try.prog 12 #[.agg #[.string a.f0, .int .i64 a.f1, .int .i64 a.f2], .agg #[.string b.f0, .int .i64 b.f1, .int .i64 b.f2]] w fun e w' => e = .returned (.bool true) ∧ Below w.heap.size w w' :=
  PQ.hanaperref39_Ahead.calls a.f0 a.f1 a.f2 b.f0 b.f1 b.f2 true w (by
    unfold PQ.hanaperref39_Ahead.f
    unfold ltI at h
    rcases h with h | ⟨h, h | ⟨h1, h2⟩⟩
    · rw [if_neg (by omega)]; simp; omega
    · rename_i h0
      rw [if_pos h0, if_neg (by omega)]; simp; omega
    · rw [if_pos h, if_pos h1, h2])
theorem gx_mem (xs : List It) (j : Nat) (h : j < xs.length) : gx xs j ∈ xs := by
  unfold gx
  rw [List.getD_eq_getElem?_getD, List.getElem?_eq_getElem h]
  exact List.getElem_mem h
set_option maxHeartbeats 8000000 in
set_option maxRecDepth 100000 in
theorem order_law (A : Option Addr) (c : Nat) (l : List It) (w : World) (hr : Kd.C PQ.k28 w A l.length l) (hsz : ∀ x ∈ l, x.f0.size ≤ maxLen) :
    Calls Try.prog 4 #[.slice A l.length c] w fun e w' => e = .returned (.bool true) ∧ Below w.heap.size w w' := by
  by_cases h100 : 100 < l.length
  · have h1 : (100 : Int) < (l.length : Int) := by omega
    go_enter Try.func4, Try.ntmps4
    go_wp2_with fail
    refine (live_any w).mono ?_
    rintro e w1 ⟨rfl, hb1⟩
    go_wp2
    go_ret
    exact ⟨rfl, hb1⟩
  have h1 : ¬ (100 : Int) < (l.length : Int) := by omega
  have HSZ := Lib.hid hsz
  clear hsz
  go_enter Try.func4, Try.ntmps4
  go_wp2_with fail
  refine (new_any w).mono ?_
  rintro e w1 ⟨g, rfl, hq1, hb1⟩
  have HQ1 := Lib.hid hq1
  have HB1 := Lib.hid hb1
  clear hq1 hb1
  go_wp2
  go_loopw [4, 5] (fun v4 v5 wr => ∃ (i nn cnt : Nat) (M : Nat → Prop) (xs : List It) (S : ByteArray → Bool), v5 = .int .i64 i ∧ i ≤ l.length ∧ v4 = .int .i64 nn ∧ nn ≤ i ∧ cnt ≤ i ∧ Aside0 (xs.length = nn) ∧ Aside0 (IsQ wr w.heap.size g M xs S cnt) ∧ Aside0 (Inv xs S) ∧ Aside0 (∀ k, M k → k < wr.heap.size) ∧ Aside0 (∀ x ∈ xs, x.f0.size ≤ maxLen) ∧ Aside0 (Below w.heap.size w wr)) (fun _ v5 _ => l.length - (intOf v5).toNat)
  case atStart => exact ⟨0, 0, 0, _, [], _, rfl, Nat.zero_le _, rfl, Nat.le_refl _, Nat.le_refl _, ⟨rfl⟩, ⟨HQ1.out⟩, ⟨Inv.nil⟩, ⟨fun k hk => hk.2⟩, ⟨fun x hx => by cases hx⟩, ⟨HB1.out⟩⟩
  case round =>
    obtain ⟨i, nn, cnt, M, xs, S, rfl, hi, rfl, hni, hci, HN, HQ, HI, HMB, HXS, HB⟩ := hrel
    by_cases hlt : i < l.length
    · obtain ⟨ad, e, h0, h2, h3⟩ := PQ.at_T28 (Kd.C_below hr HB.out) (i : Int) (by omega) (by omega)
      subst e
      simp only [Int.toNat_natCast] at h0 h2 h3
      have hps := HSZ.out _ (show PQ.rd_T28 l (i : Int) ∈ l by unfold PQ.rd_T28; rw [List.getD_eq_getElem?_getD, Int.toNat_natCast, List.getElem?_eq_getElem hlt]; exact List.getElem_mem hlt)
      generalize PQ.rd_T28 l (i : Int) = p at *
      have k0 : wr.drew.cell? (ad.add (i * 3)) = some (.string p.f0) := h0
      have k1 : wr.drew.cell? ⟨(ad.add (i * 3)).block, (ad.add (i * 3)).off + 1, none⟩ = some (.int .i64 p.f1) := h2
      have k2 : wr.drew.cell? ⟨(ad.add (i * 3)).block, (ad.add (i * 3)).off + 2, none⟩ = some (.int .i64 p.f2) := h3
      have HQd := Lib.hid HQ.out.drew
      have HBd := Lib.hid (below_dr HB.out)
      have hx200 : xs.length < 200 := by have := HN.out; omega
      have hcn : cnt < 1000000 := by omega
      have hlti : (i : Int) < (l.length : Int) := by omega
      have HPS := Lib.hid hps
      by_cases hS : S p.f0 = true
      · have HST := Lib.hid hS
        clear hS h0 h2 h3
        go_wp2
        refine start_ (n := 20) (S := fun w' => w'.cell? (ad.add (i * 3)) = some (.string p.f0) ∧ w'.cell? ⟨(ad.add (i * 3)).block, (ad.add (i * 3)).off + 1, none⟩ = some (.int .i64 p.f1) ∧ w'.cell? ⟨(ad.add (i * 3)).block, (ad.add (i * 3)).off + 2, none⟩ = some (.int .i64 p.f2)) (ds := [17, 18]) #[false, false, false, false, false, false, false, false, false, false, false, false, false, false, false, false, false, false, false, false] (by kernel_rfl) rfl rfl ⟨k0, k1, k2⟩ (fun hHeld => ?_)
        refine pure_ (i := 0) (N := some 27) (v := ?_) (a' := ?_) #[true, false, false, false, false, false, false, false, false, false, false, false, false, false, false, false, false, false, false, false] rfl rfl (by kernel_rfl) (fun _ _ _ h => h) (Or.inl ⟨by rfl, ?_⟩) ?_ ?_
        rotate_left
        · intro w'
          go_simp
          with_reducible rfl
        rotate_left
        · simp only [Act.put, List.setIfInBounds_toArray, List.set_cons_zero, List.set_cons_succ, i64_w, i32_w]
          rfl
        refine pure_ (i := 1) (N := some 28) (v := ?_) (a' := ?_) #[true, true, false, false, false, false, false, false, false, false, false, false, false, false, false, false, false, false, false, false] rfl rfl (by kernel_rfl) (fun _ _ _ h => h) (Or.inl ⟨by rfl, ?_⟩) ?_ ?_
        rotate_left
        · intro w'
          go_simp
          with_reducible rfl
        rotate_left
        · simp only [Act.put, List.setIfInBounds_toArray, List.set_cons_zero, List.set_cons_succ, i64_w, i32_w]
          rfl
        refine pure_ (i := 2) (N := some 29) (v := ?_) (a' := ?_) #[true, true, true, false, false, false, false, false, false, false, false, false, false, false, false, false, false, false, false, false] rfl rfl (by kernel_rfl) (fun _ _ _ h => h) (Or.inl ⟨by rfl, ?_⟩) ?_ ?_
        rotate_left
        · intro w'
          go_simp
          with_reducible rfl
        rotate_left
        · simp only [Act.put, List.setIfInBounds_toArray, List.set_cons_zero, List.set_cons_succ, i64_w, i32_w]
          rfl
        refine pure_ (i := 3) (N := some 30) (v := ?_) (a' := ?_) #[true, true, true, true, false, false, false, false, false, false, false, false, false, false, false, false, false, false, false, false] rfl rfl (by kernel_rfl) (fun _ _ _ h => h) (Or.inl ⟨by rfl, ?_⟩) ?_ ?_
        rotate_left
        · intro w'
          go_simp
          with_reducible rfl
        rotate_left
        · simp only [Act.put, List.setIfInBounds_toArray, List.set_cons_zero, List.set_cons_succ, i64_w, i32_w]
          rfl
        refine pure_ (i := 4) (N := some 31) (v := ?_) (a' := ?_) #[true, true, true, true, true, false, false, false, false, false, false, false, false, false, false, false, false, false, false, false] rfl rfl (by kernel_rfl) (fun _ _ _ h => h) (Or.inl ⟨by rfl, ?_⟩) ?_ ?_
        rotate_left
        · intro w'
          go_simp
          with_reducible rfl
        rotate_left
        · simp only [Act.put, List.setIfInBounds_toArray, List.set_cons_zero, List.set_cons_succ, i64_w, i32_w]
          rfl
        refine pure_ (i := 6) (N := some 33) (v := ?_) (a' := ?_) #[true, true, true, true, true, false, true, false, false, false, false, false, false, false, false, false, false, false, false, false] rfl rfl (by kernel_rfl) (fun _ _ _ h => h) (Or.inl ⟨by rfl, ?_⟩) ?_ ?_
        rotate_left
        · intro w'
          go_simp
          with_reducible rfl
        rotate_left
        · simp only [Act.put, List.setIfInBounds_toArray, List.set_cons_zero, List.set_cons_succ, i64_w, i32_w]
          rfl
        refine pure_ (i := 7) (N := some 34) (v := ?_) (a' := ?_) #[true, true, true, true, true, false, true, true, false, false, false, false, false, false, false, false, false, false, false, false] rfl rfl (by kernel_rfl) (fun _ _ _ h => h) (Or.inl ⟨by rfl, ?_⟩) ?_ ?_
        rotate_left
        · intro w'
          go_simp
          with_reducible rfl
        rotate_left
        · simp only [Act.put, List.setIfInBounds_toArray, List.set_cons_zero, List.set_cons_succ, i64_w, i32_w]
          rfl
        refine pure_ (i := 8) (N := some 35) (v := ?_) (a' := ?_) #[true, true, true, true, true, false, true, true, true, false, false, false, false, false, false, false, false, false, false, false] rfl rfl (by kernel_rfl) (fun _ _ _ h => h) (Or.inl ⟨by rfl, ?_⟩) ?_ ?_
        rotate_left
        · intro w'
          go_simp
          with_reducible rfl
        rotate_left
        · simp only [Act.put, List.setIfInBounds_toArray, List.set_cons_zero, List.set_cons_succ, i64_w, i32_w]
          rfl
        refine pure_ (i := 9) (N := some 36) (v := ?_) (a' := ?_) #[true, true, true, true, true, false, true, true, true, true, false, false, false, false, false, false, false, false, false, false] rfl rfl (by kernel_rfl) (fun _ _ _ h => h) (Or.inl ⟨by rfl, ?_⟩) ?_ ?_
        rotate_left
        · intro w'
          go_simp
          with_reducible rfl
        rotate_left
        · simp only [Act.put, List.setIfInBounds_toArray, List.set_cons_zero, List.set_cons_succ, i64_w, i32_w]
          rfl
        refine pure_ (i := 11) (N := some 38) (v := ?_) (a' := ?_) #[true, true, true, true, true, false, true, true, true, true, false, true, false, false, false, false, false, false, false, false] rfl rfl (by kernel_rfl) (fun _ _ _ h => h) (Or.inl ⟨by rfl, ?_⟩) ?_ ?_
        rotate_left
        · intro w'
          go_simp
          with_reducible rfl
        rotate_left
        · simp only [Act.put, List.setIfInBounds_toArray, List.set_cons_zero, List.set_cons_succ, i64_w, i32_w]
          rfl
        refine pure_ (i := 12) (N := some 39) (v := ?_) (a' := ?_) #[true, true, true, true, true, false, true, true, true, true, false, true, true, false, false, false, false, false, false, false] rfl rfl (by kernel_rfl) (fun _ _ _ h => h) (Or.inl ⟨by rfl, ?_⟩) ?_ ?_
        rotate_left
        · intro w'
          go_simp
          with_reducible rfl
        rotate_left
        · simp only [Act.put, List.setIfInBounds_toArray, List.set_cons_zero, List.set_cons_succ, i64_w, i32_w]
          rfl
        refine pure_ (i := 13) (N := some 40) (v := ?_) (a' := ?_) #[true, true, true, true, true, false, true, true, true, true, false, true, true, true, false, false, false, false, false, false] rfl rfl (by kernel_rfl) (fun _ _ _ h => h) (Or.inl ⟨by rfl, ?_⟩) ?_ ?_
        rotate_left
        · intro w'
          go_simp
          with_reducible rfl
        rotate_left
        · simp only [Act.put, List.setIfInBounds_toArray, List.set_cons_zero, List.set_cons_succ, i64_w, i32_w]
          rfl
        refine pure_ (i := 14) (N := some 41) (v := ?_) (a' := ?_) #[true, true, true, true, true, false, true, true, true, true, false, true, true, true, true, false, false, false, false, false] rfl rfl (by kernel_rfl) (fun _ _ _ h => h) (Or.inl ⟨by rfl, ?_⟩) ?_ ?_
        rotate_left
        · intro w'
          go_simp
          with_reducible rfl
        rotate_left
        · simp only [Act.put, List.setIfInBounds_toArray, List.set_cons_zero, List.set_cons_succ, i64_w, i32_w]
          rfl
        refine take_ (i := 5) (N := some 32) (v := ?_) (a' := ?_) #[true, true, true, true, true, true, true, true, true, true, false, true, true, true, true, false, false, false, false, false] rfl rfl (by kernel_rfl) (fun _ _ _ h => h) (Or.inl ⟨by rfl, ?_⟩) hHeld ?_ ?_
        rotate_left
        · rintro w' ⟨s0, s1, s2⟩
          go_simp
          with_reducible rfl
        rotate_left
        · simp only [Act.put, List.setIfInBounds_toArray, List.set_cons_zero, List.set_cons_succ, i64_w, i32_w]
          rfl
        refine take_ (i := 10) (N := some 37) (v := ?_) (a' := ?_) #[true, true, true, true, true, true, true, true, true, true, true, true, true, true, true, false, false, false, false, false] rfl rfl (by kernel_rfl) (fun _ _ _ h => h) (Or.inl ⟨by rfl, ?_⟩) hHeld ?_ ?_
        rotate_left
        · rintro w' ⟨s0, s1, s2⟩
          go_simp
          with_reducible rfl
        rotate_left
        · simp only [Act.put, List.setIfInBounds_toArray, List.set_cons_zero, List.set_cons_succ, i64_w, i32_w]
          rfl
        refine take_ (i := 15) (N := some 42) (v := ?_) (a' := ?_) #[true, true, true, true, true, true, true, true, true, true, true, true, true, true, true, true, false, false, false, false] rfl rfl (by kernel_rfl) (fun _ _ _ h => h) (Or.inl ⟨by rfl, ?_⟩) hHeld ?_ ?_
        rotate_left
        · rintro w' ⟨s0, s1, s2⟩
          go_simp
          with_reducible rfl
        rotate_left
        · simp only [Act.put, List.setIfInBounds_toArray, List.set_cons_zero, List.set_cons_succ, i64_w, i32_w]
          rfl
        refine pure_ (i := 16) (N := some 43) (v := ?_) (a' := ?_) #[true, true, true, true, true, true, true, true, true, true, true, true, true, true, true, true, true, false, false, false] rfl rfl (by kernel_rfl) (fun _ _ _ h => h) (Or.inl ⟨by rfl, ?_⟩) ?_ ?_
        rotate_left
        · intro w'
          go_simp
          with_reducible rfl
        rotate_left
        · simp only [Act.put, List.setIfInBounds_toArray, List.set_cons_zero, List.set_cons_succ, i64_w, i32_w]
          rfl
        refine last_ (i := 17) (N := some 44) #[true, true, true, true, true, true, true, true, true, true, true, true, true, true, true, true, true, true, false, false] rfl rfl (by kernel_rfl) (by decide) (fun K hK => ?_)
        refine goes_ Try.func9 (by kernel_rfl) rfl #[.pointer (some ⟨g, 0, none⟩), .agg #[.string p.f0, .int .i64 p.f1, .int .i64 p.f2]] (by rfl) rfl rfl (by simp only [List.map_toArray, List.map_cons, List.map_nil]; rfl) ?_
        with_reducible refine (put_there g w.heap.size cnt M xs S _ HQd.out p hps HST.out).mono ?_
        rintro e w3 ⟨rfl, hb3⟩
        refine ⟨_, rfl, ?_⟩
        refine hK.out _ _ ?_
        clear hK K
        refine norm_ (a' := ?_) ?_ ?_
        rotate_left
        · show Act.put _ (some 44) _ = _
          simp only [Act.put, List.setIfInBounds_toArray, List.set_cons_zero, List.set_cons_succ, i64_w, i32_w]
          rfl
        refine last_ (i := 18) (N := some 45) #[true, true, true, true, true, true, true, true, true, true, true, true, true, true, true, true, true, true, true, false] rfl rfl (by kernel_rfl) (by decide) (fun K hK => ?_)
        refine goes_ Try.func8 (by kernel_rfl) rfl #[.int .i64 6] (by rfl) rfl rfl (by simp only [List.map_toArray, List.map_cons, List.map_nil]; rfl) ?_
        with_reducible refine (num_any 6 w3).mono ?_
        rintro e w4 ⟨rfl, hw4⟩
        refine ⟨_, rfl, ?_⟩
        subst hw4
        refine hK.out _ _ ?_
        clear hK K
        refine norm_ (a' := ?_) ?_ ?_
        rotate_left
        · show Act.put _ (some 45) _ = _
          simp only [Act.put, List.setIfInBounds_toArray, List.set_cons_zero, List.set_cons_succ, i64_w, i32_w]
          rfl
        refine pure_ (i := 19) (N := some 46) (v := ?_) (a' := ?_) #[true, true, true, true, true, true, true, true, true, true, true, true, true, true, true, true, true, true, true, true] rfl rfl (by kernel_rfl) (fun _ _ _ h => h) (Or.inl ⟨by rfl, ?_⟩) ?_ ?_
        rotate_left
        · intro w'
          go_simp
          with_reducible rfl
        rotate_left
        · simp only [Act.put, List.setIfInBounds_toArray, List.set_cons_zero, List.set_cons_succ, i64_w, i32_w]
          rfl
        refine done_ (by kernel_rfl) ?_
        have HB3 := Lib.hid hb3
        clear hb3 hHeld k0 k1 k2
        go_wp2
        go_roundw
        case rel => exact ⟨i + 1, nn, cnt, M, xs, S, by go_num, by omega, rfl, by omega, by omega, ⟨HN.out⟩, ⟨HQd.out.below HB3.out⟩, ⟨HI.out⟩, ⟨fun k hk => Nat.lt_of_lt_of_le (HMB.out k hk) HB3.out.size⟩, ⟨HXS.out⟩, ⟨HBd.out.trans (Below.low_ HB3.out HBd.out.size)⟩⟩
        case measure => simp [intOf]; omega
      · have HST := Lib.hid (show S p.f0 = false by simpa using hS)
        clear hS h0 h2 h3
        go_wp2
        refine start_ (n := 20) (S := fun w' => w'.cell? (ad.add (i * 3)) = some (.string p.f0) ∧ w'.cell? ⟨(ad.add (i * 3)).block, (ad.add (i * 3)).off + 1, none⟩ = some (.int .i64 p.f1) ∧ w'.cell? ⟨(ad.add (i * 3)).block, (ad.add (i * 3)).off + 2, none⟩ = some (.int .i64 p.f2)) (ds := [17, 18]) #[false, false, false, false, false, false, false, false, false, false, false, false, false, false, false, false, false, false, false, false] (by kernel_rfl) rfl rfl ⟨k0, k1, k2⟩ (fun hHeld => ?_)
        refine pure_ (i := 0) (N := some 27) (v := ?_) (a' := ?_) #[true, false, false, false, false, false, false, false, false, false, false, false, false, false, false, false, false, false, false, false] rfl rfl (by kernel_rfl) (fun _ _ _ h => h) (Or.inl ⟨by rfl, ?_⟩) ?_ ?_
        rotate_left
        · intro w'
          go_simp
          with_reducible rfl
        rotate_left
        · simp only [Act.put, List.setIfInBounds_toArray, List.set_cons_zero, List.set_cons_succ, i64_w, i32_w]
          rfl
        refine pure_ (i := 1) (N := some 28) (v := ?_) (a' := ?_) #[true, true, false, false, false, false, false, false, false, false, false, false, false, false, false, false, false, false, false, false] rfl rfl (by kernel_rfl) (fun _ _ _ h => h) (Or.inl ⟨by rfl, ?_⟩) ?_ ?_
        rotate_left
        · intro w'
          go_simp
          with_reducible rfl
        rotate_left
        · simp only [Act.put, List.setIfInBounds_toArray, List.set_cons_zero, List.set_cons_succ, i64_w, i32_w]
          rfl
        refine pure_ (i := 2) (N := some 29) (v := ?_) (a' := ?_) #[true, true, true, false, false, false, false, false, false, false, false, false, false, false, false, false, false, false, false, false] rfl rfl (by kernel_rfl) (fun _ _ _ h => h) (Or.inl ⟨by rfl, ?_⟩) ?_ ?_
        rotate_left
        · intro w'
          go_simp
          with_reducible rfl
        rotate_left
        · simp only [Act.put, List.setIfInBounds_toArray, List.set_cons_zero, List.set_cons_succ, i64_w, i32_w]
          rfl
        refine pure_ (i := 3) (N := some 30) (v := ?_) (a' := ?_) #[true, true, true, true, false, false, false, false, false, false, false, false, false, false, false, false, false, false, false, false] rfl rfl (by kernel_rfl) (fun _ _ _ h => h) (Or.inl ⟨by rfl, ?_⟩) ?_ ?_
        rotate_left
        · intro w'
          go_simp
          with_reducible rfl
        rotate_left
        · simp only [Act.put, List.setIfInBounds_toArray, List.set_cons_zero, List.set_cons_succ, i64_w, i32_w]
          rfl
        refine pure_ (i := 4) (N := some 31) (v := ?_) (a' := ?_) #[true, true, true, true, true, false, false, false, false, false, false, false, false, false, false, false, false, false, false, false] rfl rfl (by kernel_rfl) (fun _ _ _ h => h) (Or.inl ⟨by rfl, ?_⟩) ?_ ?_
        rotate_left
        · intro w'
          go_simp
          with_reducible rfl
        rotate_left
        · simp only [Act.put, List.setIfInBounds_toArray, List.set_cons_zero, List.set_cons_succ, i64_w, i32_w]
          rfl
        refine pure_ (i := 6) (N := some 33) (v := ?_) (a' := ?_) #[true, true, true, true, true, false, true, false, false, false, false, false, false, false, false, false, false, false, false, false] rfl rfl (by kernel_rfl) (fun _ _ _ h => h) (Or.inl ⟨by rfl, ?_⟩) ?_ ?_
        rotate_left
        · intro w'
          go_simp
          with_reducible rfl
        rotate_left
        · simp only [Act.put, List.setIfInBounds_toArray, List.set_cons_zero, List.set_cons_succ, i64_w, i32_w]
          rfl
        refine pure_ (i := 7) (N := some 34) (v := ?_) (a' := ?_) #[true, true, true, true, true, false, true, true, false, false, false, false, false, false, false, false, false, false, false, false] rfl rfl (by kernel_rfl) (fun _ _ _ h => h) (Or.inl ⟨by rfl, ?_⟩) ?_ ?_
        rotate_left
        · intro w'
          go_simp
          with_reducible rfl
        rotate_left
        · simp only [Act.put, List.setIfInBounds_toArray, List.set_cons_zero, List.set_cons_succ, i64_w, i32_w]
          rfl
        refine pure_ (i := 8) (N := some 35) (v := ?_) (a' := ?_) #[true, true, true, true, true, false, true, true, true, false, false, false, false, false, false, false, false, false, false, false] rfl rfl (by kernel_rfl) (fun _ _ _ h => h) (Or.inl ⟨by rfl, ?_⟩) ?_ ?_
        rotate_left
        · intro w'
          go_simp
          with_reducible rfl
        rotate_left
        · simp only [Act.put, List.setIfInBounds_toArray, List.set_cons_zero, List.set_cons_succ, i64_w, i32_w]
          rfl
        refine pure_ (i := 9) (N := some 36) (v := ?_) (a' := ?_) #[true, true, true, true, true, false, true, true, true, true, false, false, false, false, false, false, false, false, false, false] rfl rfl (by kernel_rfl) (fun _ _ _ h => h) (Or.inl ⟨by rfl, ?_⟩) ?_ ?_
        rotate_left
        · intro w'
          go_simp
          with_reducible rfl
        rotate_left
        · simp only [Act.put, List.setIfInBounds_toArray, List.set_cons_zero, List.set_cons_succ, i64_w, i32_w]
          rfl
        refine pure_ (i := 11) (N := some 38) (v := ?_) (a' := ?_) #[true, true, true, true, true, false, true, true, true, true, false, true, false, false, false, false, false, false, false, false] rfl rfl (by kernel_rfl) (fun _ _ _ h => h) (Or.inl ⟨by rfl, ?_⟩) ?_ ?_
        rotate_left
        · intro w'
          go_simp
          with_reducible rfl
        rotate_left
        · simp only [Act.put, List.setIfInBounds_toArray, List.set_cons_zero, List.set_cons_succ, i64_w, i32_w]
          rfl
        refine pure_ (i := 12) (N := some 39) (v := ?_) (a' := ?_) #[true, true, true, true, true, false, true, true, true, true, false, true, true, false, false, false, false, false, false, false] rfl rfl (by kernel_rfl) (fun _ _ _ h => h) (Or.inl ⟨by rfl, ?_⟩) ?_ ?_
        rotate_left
        · intro w'
          go_simp
          with_reducible rfl
        rotate_left
        · simp only [Act.put, List.setIfInBounds_toArray, List.set_cons_zero, List.set_cons_succ, i64_w, i32_w]
          rfl
        refine pure_ (i := 13) (N := some 40) (v := ?_) (a' := ?_) #[true, true, true, true, true, false, true, true, true, true, false, true, true, true, false, false, false, false, false, false] rfl rfl (by kernel_rfl) (fun _ _ _ h => h) (Or.inl ⟨by rfl, ?_⟩) ?_ ?_
        rotate_left
        · intro w'
          go_simp
          with_reducible rfl
        rotate_left
        · simp only [Act.put, List.setIfInBounds_toArray, List.set_cons_zero, List.set_cons_succ, i64_w, i32_w]
          rfl
        refine pure_ (i := 14) (N := some 41) (v := ?_) (a' := ?_) #[true, true, true, true, true, false, true, true, true, true, false, true, true, true, true, false, false, false, false, false] rfl rfl (by kernel_rfl) (fun _ _ _ h => h) (Or.inl ⟨by rfl, ?_⟩) ?_ ?_
        rotate_left
        · intro w'
          go_simp
          with_reducible rfl
        rotate_left
        · simp only [Act.put, List.setIfInBounds_toArray, List.set_cons_zero, List.set_cons_succ, i64_w, i32_w]
          rfl
        refine take_ (i := 5) (N := some 32) (v := ?_) (a' := ?_) #[true, true, true, true, true, true, true, true, true, true, false, true, true, true, true, false, false, false, false, false] rfl rfl (by kernel_rfl) (fun _ _ _ h => h) (Or.inl ⟨by rfl, ?_⟩) hHeld ?_ ?_
        rotate_left
        · rintro w' ⟨s0, s1, s2⟩
          go_simp
          with_reducible rfl
        rotate_left
        · simp only [Act.put, List.setIfInBounds_toArray, List.set_cons_zero, List.set_cons_succ, i64_w, i32_w]
          rfl
        refine take_ (i := 10) (N := some 37) (v := ?_) (a' := ?_) #[true, true, true, true, true, true, true, true, true, true, true, true, true, true, true, false, false, false, false, false] rfl rfl (by kernel_rfl) (fun _ _ _ h => h) (Or.inl ⟨by rfl, ?_⟩) hHeld ?_ ?_
        rotate_left
        · rintro w' ⟨s0, s1, s2⟩
          go_simp
          with_reducible rfl
        rotate_left
        · simp only [Act.put, List.setIfInBounds_toArray, List.set_cons_zero, List.set_cons_succ, i64_w, i32_w]
          rfl
        refine take_ (i := 15) (N := some 42) (v := ?_) (a' := ?_) #[true, true, true, true, true, true, true, true, true, true, true, true, true, true, true, true, false, false, false, false] rfl rfl (by kernel_rfl) (fun _ _ _ h => h) (Or.inl ⟨by rfl, ?_⟩) hHeld ?_ ?_
        rotate_left
        · rintro w' ⟨s0, s1, s2⟩
          go_simp
          with_reducible rfl
        rotate_left
        · simp only [Act.put, List.setIfInBounds_toArray, List.set_cons_zero, List.set_cons_succ, i64_w, i32_w]
          rfl
        refine pure_ (i := 16) (N := some 43) (v := ?_) (a' := ?_) #[true, true, true, true, true, true, true, true, true, true, true, true, true, true, true, true, true, false, false, false] rfl rfl (by kernel_rfl) (fun _ _ _ h => h) (Or.inl ⟨by rfl, ?_⟩) ?_ ?_
        rotate_left
        · intro w'
          go_simp
          with_reducible rfl
        rotate_left
        · simp only [Act.put, List.setIfInBounds_toArray, List.set_cons_zero, List.set_cons_succ, i64_w, i32_w]
          rfl
        refine last_ (i := 17) (N := some 44) #[true, true, true, true, true, true, true, true, true, true, true, true, true, true, true, true, true, true, false, false] rfl rfl (by kernel_rfl) (by decide) (fun K hK => ?_)
        refine goes_ Try.func9 (by kernel_rfl) rfl #[.pointer (some ⟨g, 0, none⟩), .agg #[.string p.f0, .int .i64 p.f1, .int .i64 p.f2]] (by rfl) rfl rfl (by simp only [List.map_toArray, List.map_cons, List.map_nil]; rfl) ?_
        with_reducible refine (put_new g w.heap.size cnt M xs S _ HQd.out p hps HST.out hx200 hcn HBd.out.size).mono ?_
        rintro e w3 ⟨rfl, hq3, hk3, hb3⟩
        refine ⟨_, rfl, ?_⟩
        refine hK.out _ _ ?_
        clear hK K
        refine norm_ (a' := ?_) ?_ ?_
        rotate_left
        · show Act.put _ (some 44) _ = _
          simp only [Act.put, List.setIfInBounds_toArray, List.set_cons_zero, List.set_cons_succ, i64_w, i32_w]
          rfl
        refine last_ (i := 18) (N := some 45) #[true, true, true, true, true, true, true, true, true, true, true, true, true, true, true, true, true, true, true, false] rfl rfl (by kernel_rfl) (by decide) (fun K hK => ?_)
        refine goes_ Try.func8 (by kernel_rfl) rfl #[.int .i64 0] (by rfl) rfl rfl (by simp only [List.map_toArray, List.map_cons, List.map_nil]; rfl) ?_
        with_reducible refine (num_any 0 w3).mono ?_
        rintro e w4 ⟨rfl, hw4⟩
        refine ⟨_, rfl, ?_⟩
        subst hw4
        refine hK.out _ _ ?_
        clear hK K
        refine norm_ (a' := ?_) ?_ ?_
        rotate_left
        · show Act.put _ (some 45) _ = _
          simp only [Act.put, List.setIfInBounds_toArray, List.set_cons_zero, List.set_cons_succ, i64_w, i32_w]
          rfl
        refine pure_ (i := 19) (N := some 46) (v := ?_) (a' := ?_) #[true, true, true, true, true, true, true, true, true, true, true, true, true, true, true, true, true, true, true, true] rfl rfl (by kernel_rfl) (fun _ _ _ h => h) (Or.inl ⟨by rfl, ?_⟩) ?_ ?_
        rotate_left
        · intro w'
          go_simp
          with_reducible rfl
        rotate_left
        · simp only [Act.put, List.setIfInBounds_toArray, List.set_cons_zero, List.set_cons_succ, i64_w, i32_w]
          rfl
        refine done_ (by kernel_rfl) ?_
        have HB3 := Lib.hid hb3
        have HQ3 := Lib.hid hq3
        clear hb3 hq3 hk3 hHeld k0 k1 k2
        go_wp2
        go_roundw
        case rel => exact ⟨i + 1, nn + 1, cnt + 1, _, _, _, by go_num, by omega, by go_num, by omega, by omega, ⟨by rw [upF_len, List.length_append]; have := HN.out; simp; omega⟩, ⟨HQ3.out⟩, ⟨HI.out.put p HST.out⟩, ⟨fun k hk => hk.elim (fun h => Nat.lt_of_lt_of_le (HMB.out k h) HB3.out.size) (fun h => h.2)⟩, ⟨fun x hx => by
          rcases List.mem_cons.1 ((put_perm xs p).mem_iff.1 hx) with rfl | h
          · exact HPS.out
          · exact HXS.out x h⟩, ⟨HBd.out.trans HB3.out⟩⟩
        case measure => simp [intOf]; omega
    · have hil : i = l.length := by omega
      clear hil
      rename World => wo
      have HQ2 := Lib.hid (HQ.out.below (below_alloc (Below.refl wo.heap.size wo) (Obj.cells #[Value.string ⟨#[]⟩, Value.int IntKind.i64 0, Value.int IntKind.i64 0] 28)))
      have HB2 := Lib.hid (below_lo HB.out (below_alloc (Below.refl wo.heap.size wo) (Obj.cells #[Value.string ⟨#[]⟩, Value.int IntKind.i64 0, Value.int IntKind.i64 0] 28)))
      have HS2 := Lib.hid (show (wo.alloc (Obj.cells #[Value.string ⟨#[]⟩, Value.int IntKind.i64 0, Value.int IntKind.i64 0] 28)).heap.size = wo.heap.size + 1 from World.size_alloc _ _)
      have HL2 := Lib.hid (new_blk wo (Obj.cells #[Value.string ⟨#[]⟩, Value.int IntKind.i64 0, Value.int IntKind.i64 0] 28))
      have HSW := Lib.hid HB.out.size
      go_wp2
      have hnn : nn ≤ 100 := by omega
      have HM2 := Lib.hid (show ∀ k, M k → k < (wo.alloc (Obj.cells #[Value.string ⟨#[]⟩, Value.int IntKind.i64 0, Value.int IntKind.i64 0] 28)).heap.size ∧ k ≠ wo.heap.size from fun k hk => by
        have h1 := HMB.out k hk
        have h2 := HS2.out
        exact ⟨by omega, by omega⟩)
      generalize wo.alloc (Obj.cells #[Value.string { data := #[] }, Value.int IntKind.i64 0, Value.int IntKind.i64 0] 28) = wz at *
      generalize hlb : wo.heap.size = lb at *
      have HI2 := Lib.hid HI.out
      have HN2 := Lib.hid HN.out
      have HX2 := Lib.hid HXS.out
      clear HQ HB HMB hlb HI HN HXS HSZ
      go_loopw [7, 8, 9, 10] (fun v7 v8 v9 v10 wr => ∃ (i cnt : Nat) (M : Nat → Prop) (xs : List It) (S : ByteArray → Bool) (y : It), v7 = .int .i64 i ∧ Aside0 (i + xs.length = nn) ∧ Aside0 (IsQ wr w.heap.size g M xs S cnt) ∧ Aside0 (Inv xs S) ∧ Aside0 (∀ k, M k → k < wr.heap.size ∧ k ≠ lb) ∧ Aside0 (∀ x ∈ xs, x.f0.size ≤ maxLen) ∧ Aside0 (Below w.heap.size w wr) ∧ Aside0 (wr.heap[lb]? = some (boxJ y)) ∧ Aside0 (0 < i → ∀ z ∈ xs, ltI y z)) (fun v7 _ _ _ _ => nn - (intOf v7).toNat)
      case atStart => exact ⟨0, cnt, M, xs, S, PQ.z28, rfl, ⟨by have := HN2.out; omega⟩, ⟨HQ2.out⟩, ⟨HI2.out⟩, ⟨HM2.out⟩, ⟨HX2.out⟩, ⟨HB2.out⟩, ⟨HL2.out⟩, ⟨fun h => absurd h (by omega)⟩⟩
      case round =>
        clear HQ2 HI2 HM2 HX2 HB2 HL2 HN2 HS2
        obtain ⟨i, cnt, M, xs, S, y, rfl, HN, HQ, HI, HM, HX, HB, HL, HLT⟩ := hrel
        by_cases hlt : i < nn
        · have hxl : 0 < xs.length := by have := HN.out; omega
          have hlti : (i : Int) < (nn : Int) := by omega
          have HP := Lib.hid (pop_some g w.heap.size cnt M xs S wr HQ.out hxl (by have := HN.out; omega) (gx xs 0) rfl (HX.out _ (gx_mem xs 0 hxl)) HB.out.size)
          have HPI := Lib.hid (HI.out.pop hxl)
          have HPM := Lib.hid (pop_perm xs hxl)
          have HPL := Lib.hid (pop_len xs hxl)
          have HLX := Lib.hid (show 0 < i → ltI y (gx xs 0) from fun h => HLT.out h _ (gx_mem xs 0 hxl))
          have HXL := Lib.hid hxl
          clear hxl
          generalize hx : gx xs 0 = x at *
          have HGX := Lib.hid hx
          clear hx
          go_wp2_with fail
          refine HP.out.mono ?_
          rintro e w1 ⟨rfl, hq1, hk1, hb1⟩
          have HQ1 := Lib.hid hq1
          have HK1 := Lib.hid hk1
          have HB1 := Lib.hid (HB.out.trans (Below.low_ hb1 (Nat.le_refl _)))
          have HL1 := Lib.hid (blk_kept HL.out hk1 (fun h => (HM.out lb h).2 rfl))
          have HM1 := Lib.hid (show ∀ k, (M k ∨ wr.heap.size ≤ k ∧ k < w1.heap.size) → k < w1.heap.size ∧ k ≠ lb from fun k hk => by
            have h1 := blk_lt HL.out
            rcases hk with h | h
            · exact ⟨Nat.lt_of_lt_of_le (HM.out k h).1 hk1.1, (HM.out k h).2⟩
            · exact ⟨h.2, by omega⟩)
          clear hq1 hk1 hb1
          have x0 : (w1.alloc (boxI x)).cell? ⟨w1.heap.size, 0, none⟩ = some (.string x.f0) := (blk_cell (new_blk w1 (boxI x)) 0).trans rfl
          have x1 : (w1.alloc (boxI x)).cell? ⟨w1.heap.size, 1, none⟩ = some (.int .i64 x.f1) := (blk_cell (new_blk w1 (boxI x)) 1).trans rfl
          have x2 : (w1.alloc (boxI x)).cell? ⟨w1.heap.size, 2, none⟩ = some (.int .i64 x.f2) := (blk_cell (new_blk w1 (boxI x)) 2).trans rfl
          have HBY := Lib.hid (show Below w1.heap.size w1 ((w1.alloc (boxI x)).alloc (boxJ x)) from below_alloc (below_alloc (Below.refl _ _) _) _)
          have HLY := Lib.hid ((HBY.out.block lb (blk_lt HL1.out)).trans HL1.out)
          have HYY := Lib.hid (show ((w1.alloc (boxI x)).alloc (boxJ x)).heap[w1.heap.size + 1]? = some (boxJ x) by
            have e := new_blk (w1.alloc (boxI x)) (boxJ x)
            rw [World.size_alloc] at e
            exact e)
          have l0 : ((w1.alloc (boxI x)).alloc (boxJ x)).cell? ⟨lb, 0, none⟩ = some (.string y.f0) := (blk_cell HLY.out 0).trans rfl
          have l1 : ((w1.alloc (boxI x)).alloc (boxJ x)).cell? ⟨lb, 1, none⟩ = some (.int .i64 y.f1) := (blk_cell HLY.out 1).trans rfl
          have l2 : ((w1.alloc (boxI x)).alloc (boxJ x)).cell? ⟨lb, 2, none⟩ = some (.int .i64 y.f2) := (blk_cell HLY.out 2).trans rfl
          have y0 : ((w1.alloc (boxI x)).alloc (boxJ x)).cell? ⟨w1.heap.size + 1, 0, none⟩ = some (.string x.f0) := (blk_cell HYY.out 0).trans rfl
          have y1 : ((w1.alloc (boxI x)).alloc (boxJ x)).cell? ⟨w1.heap.size + 1, 1, none⟩ = some (.int .i64 x.f1) := (blk_cell HYY.out 1).trans rfl
          have y2 : ((w1.alloc (boxI x)).alloc (boxJ x)).cell? ⟨w1.heap.size + 1, 2, none⟩ = some (.int .i64 x.f2) := (blk_cell HYY.out 2).trans rfl
          have HAH := Lib.hid (fun (h : 0 < i) => ahead_any y x (HLX.out h) ((w1.alloc (boxI x)).alloc (boxJ x)))
          by_cases h0i : 0 < i
          · have h0b : (0 : Int) < (i : Int) := by omega
            have HAH := Lib.hid (HAH.out h0i)
            have HII := Lib.hid h0i
            clear h0i
            go_wp2_with fail
            refine HAH.out.mono ?_
            rintro e w3 ⟨rfl, hb3⟩
            have HB3 := Lib.hid hb3
            clear hb3
            have y0 := (HB3.out.cell (World.block_lt_of_cell? _ _ y0)).trans y0
            have y1 := (HB3.out.cell (World.block_lt_of_cell? _ _ y1)).trans y1
            have y2 := (HB3.out.cell (World.block_lt_of_cell? _ _ y2)).trans y2
            have HL3 := Lib.hid ((HB3.out.block lb (blk_lt HLY.out)).trans HLY.out)
            have l0 := (HB3.out.cell (World.block_lt_of_cell? _ _ l0)).trans l0
            have l1 := (HB3.out.cell (World.block_lt_of_cell? _ _ l1)).trans l1
            have l2 := (HB3.out.cell (World.block_lt_of_cell? _ _ l2)).trans l2
            have z0 := blk_frozen HL3.out 0
            have z1 := blk_frozen HL3.out 1
            have z2 := blk_frozen HL3.out 2
            go_wp2_with fail
            go_roundw
            case rel => 
              obtain ⟨r1, r2, r3, r4⟩ := ord_fin HQ1.out (Below.then1 HBY.out HB3.out) HL3.out HM1.out HB1.out HSW.out (.string x.f0) (.int .i64 x.f1) (.int .i64 x.f2)
              exact ⟨i + 1, cnt, _, popL xs, _, x, by go_num, ⟨by have h1 := HPL.out; have h2 := HXL.out; have h3 := HN.out; omega⟩, ⟨r1⟩, ⟨HPI.out.1⟩, ⟨r2⟩, ⟨fun z hz => HX.out z (HPM.out.mem_iff.1 (List.mem_cons.2 (.inr hz)))⟩, ⟨r3⟩, ⟨r4⟩, ⟨fun _ => HPI.out.2⟩⟩
            case measure => simp [intOf]; omega
          · have h0b : ¬ (0 : Int) < (i : Int) := by omega
            have HB3 := Lib.hid (Below.refl ((w1.alloc (boxI x)).alloc (boxJ x)).heap.size ((w1.alloc (boxI x)).alloc (boxJ x)))
            have HL3 := HLY
            have z0 := blk_frozen HL3.out 0
            have z1 := blk_frozen HL3.out 1
            have z2 := blk_frozen HL3.out 2
            clear h0i
            go_wp2_with fail
            go_roundw
            case rel => 
              obtain ⟨r1, r2, r3, r4⟩ := ord_fin HQ1.out (Below.then1 HBY.out HB3.out) HL3.out HM1.out HB1.out HSW.out (.string x.f0) (.int .i64 x.f1) (.int .i64 x.f2)
              exact ⟨i + 1, cnt, _, popL xs, _, x, by go_num, ⟨by have h1 := HPL.out; have h2 := HXL.out; have h3 := HN.out; omega⟩, ⟨r1⟩, ⟨HPI.out.1⟩, ⟨r2⟩, ⟨fun z hz => HX.out z (HPM.out.mem_iff.1 (List.mem_cons.2 (.inr hz)))⟩, ⟨r3⟩, ⟨r4⟩, ⟨fun _ => HPI.out.2⟩⟩
            case measure => simp [intOf]; omega
        · have hx0 : xs = [] := List.eq_nil_of_length_eq_zero (by have := HN.out; omega)
          subst hx0
          have HQE := Lib.hid HQ.out
          have HBE := Lib.hid HB.out
          clear HN HQ HI HM HX HB HL HLT
          have hni : ¬ (i : Int) < (nn : Int) := by omega
          go_wp2_with fail
          refine (pop_nil wr).mono ?_
          rintro e w1 ⟨rfl, hb1⟩
          have HB2 := Lib.hid (show Below wr.heap.size wr (w1.alloc (boxI PQ.z28)) from below_alloc hb1 _)
          clear hb1
          go_wp2_with fail
          refine (pop_empty g w.heap.size cnt M S _ (HQE.out.below HB2.out)).mono ?_
          rintro e w3 ⟨rfl, hb3⟩
          have HB4 := Lib.hid (show Below wr.heap.size wr (w3.alloc (boxI PQ.z28)) from below_alloc (Below.then1 HB2.out hb3) _)
          clear hb3
          go_wp2_with fail
          refine (len_nil' _).mono ?_
          rintro e w5 ⟨rfl, hw5⟩
          subst hw5
          go_wp2_with fail
          refine (put_nil _ _ _ _).mono ?_
          rintro e w6 ⟨rfl, hb6⟩
          have HB6 := Lib.hid (Below.then1 HB4.out hb6)
          clear hb6
          go_wp2_with fail
          refine (num_any 9 w6).mono ?_
          rintro e w7 ⟨rfl, hw7⟩
          subst hw7
          go_wp2_with fail
          refine (live_any w6).mono ?_
          rintro e w8 ⟨rfl, hb8⟩
          have HB8 := Lib.hid (Below.then1 HB6.out hb8)
          go_wp2
          go_ret
          exact ⟨rfl, Below.then1 HBE.out HB8.out⟩
end Go.Proofs.Ytdpcfamgmicboae
