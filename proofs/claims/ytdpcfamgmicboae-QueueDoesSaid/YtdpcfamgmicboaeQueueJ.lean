/- Contracts of the package queue's functions: the law QueueDoes; no condition beyond each theorem its own. -/
import Derived.Test.YtdpcfamgmicboaeQueueA
import Derived.Test.YtdpcfamgmicboaeQueueG
import Derived.Test.YtdpcfamgmicboaeQueueI
import Derived.Test.YtdpcfamgmicboaePQx1
namespace Go.Proofs.Ytdpcfamgmicboae
open Go.RowKit Go.Proofs.YtdpcfamgmicboaeW.PrintWords Go.Proofs.YtdpcfamgmicboaeW.PrintLast Go.Proofs.YtdpcfamgmicboaeW.PrintMore
set_option linter.unusedVariables false
set_option linter.unusedSimpArgs false

theorem IsQ.drew {w : World} {base g cnt : Nat} {M : Nat → Prop} {xs : List It} {S : ByteArray → Bool} (h : IsQ w base g M xs S cnt) : IsQ w.drew base g M xs S cnt := by
  obtain ⟨A, c, b, hg, h1, h2, h3, h4, h5, h6, hR, hm⟩ := h
  exact ⟨A, c, b, hg, h1, h2, h3, h4, h5, h6, Kd.R_drew hR, hm⟩
theorem Below.then1 {w W W2 : World} (h : Below w.heap.size w W) (k : Below W.heap.size W W2) : Below w.heap.size w W2 := h.trans (Below.low_ k h.size)
abbrev boxJ (y : It) : Obj := .cells #[.string y.f0, .int .i64 y.f1, .int .i64 y.f2] 28 (0, 0)
/-- What Put answers, and the list behind it. -/
noncomputable def putW (ws : List It) (S : ByteArray → Bool) (x : It) : List It × Int := if S x.f0 = true then (ws, 6) else if 200 ≤ ws.length then (ws, 4) else (insI x ws, 0)
theorem put_two (g base cnt : Nat) (M : Nat → Prop) (xs ws : List It) (S : ByteArray → Bool) (w : World) (h : IsQ w base g M xs S cnt) (ht : Two xs ws S) (hM : ∀ k, M k → k < w.heap.size) (x : It) (hx : x.f0.size ≤ maxLen) (hcnt : cnt < 1000000) (hbase : base ≤ w.heap.size) :
    Calls Try.prog 9 #[.pointer (some ⟨g, 0, none⟩), .agg #[.string x.f0, .int .i64 x.f1, .int .i64 x.f2]] w fun e w' => ∃ M' xs' S' cnt', e = .returned (.int .i64 (putW ws S x).2) ∧ IsQ w' base g M' xs' S' cnt' ∧ Two xs' (putW ws S x).1 S' ∧ cnt' ≤ cnt + 1 ∧
      (∀ k, M' k → M k ∨ w.heap.size ≤ k) ∧ (∀ k, M' k → k < w'.heap.size) ∧ Kept w w' M ∧ Below base w w' ∧ (∀ z ∈ xs', z = x ∨ z ∈ xs) ∧ xs'.length ≤ xs.length + 1 := by
  have hlen := ht.perm.length_eq
  unfold putW
  by_cases hS : S x.f0 = true
  · rw [if_pos hS]
    refine (put_there g base cnt M xs S w h x hx hS).mono ?_
    rintro e w' ⟨rfl, hb⟩
    exact ⟨M, xs, S, cnt, rfl, h.below hb, ht, by omega, fun k hk => .inl hk, fun k hk => Nat.lt_of_lt_of_le (hM k hk) hb.size, Kept.of_below hb M, Below.low_ hb hbase, fun z hz => .inr hz, by omega⟩
  · rw [if_neg hS]
    have hS2 : S x.f0 = false := by simpa using hS
    by_cases h2 : 200 ≤ ws.length
    · rw [if_pos h2]
      refine (put_many g base cnt M xs S w h x hx hS2 (by omega)).mono ?_
      rintro e w' ⟨rfl, hb⟩
      exact ⟨M, xs, S, cnt, rfl, h.below hb, ht, by omega, fun k hk => .inl hk, fun k hk => Nat.lt_of_lt_of_le (hM k hk) hb.size, Kept.of_below hb M, Below.low_ hb hbase, fun z hz => .inr hz, by omega⟩
    · rw [if_neg h2]
      refine (put_new g base cnt M xs S w h x hx hS2 (by omega) hcnt hbase).mono ?_
      rintro e w' ⟨rfl, hq, hk, hb⟩
      refine ⟨_, _, _, cnt + 1, rfl, hq, ht.put x hS2, by omega, fun k hk => hk.elim .inl (fun h => .inr h.1), fun k hk2 => hk2.elim (fun h => Nat.lt_of_lt_of_le (hM k h) hk.1) (fun h => h.2), hk, hb, fun z hz => ?_, ?_⟩
      · rcases List.mem_cons.1 ((put_perm xs x).mem_iff.1 hz) with h | h
        · exact .inl h
        · exact .inr h
      · rw [upF_len, List.length_append]; simp
theorem pop_two (g base cnt : Nat) (M : Nat → Prop) (xs ws : List It) (S : ByteArray → Bool) (w : World) (h : IsQ w base g M xs S cnt) (ht : Two xs ws S) (hM : ∀ k, M k → k < w.heap.size) (hs : ∀ z ∈ xs, z.f0.size ≤ maxLen) (hl : xs.length ≤ 1000) (hbase : base ≤ w.heap.size) :
    Calls Try.prog 10 #[.pointer (some ⟨g, 0, none⟩)] w fun e w' => ∃ M' xs' S', e = .returned (.tuple #[.agg #[.string (gx ws 0).f0, .int .i64 (gx ws 0).f1, .int .i64 (gx ws 0).f2], .bool (decide (0 < ws.length))]) ∧ IsQ w' base g M' xs' S' cnt ∧ Two xs' (ws.drop 1) S' ∧
      (∀ k, M' k → M k ∨ w.heap.size ≤ k) ∧ (∀ k, M' k → k < w'.heap.size) ∧ Kept w w' M ∧ Below base w w' ∧ (∀ z ∈ xs', z ∈ xs) ∧ xs'.length ≤ xs.length := by
  have hlen := ht.perm.length_eq
  by_cases h0 : 0 < xs.length
  · have hp := ht.pop h0
    have hd : decide (0 < ws.length) = true := decide_eq_true (by omega)
    rw [hp.1, hd]
    have hmem : gx xs 0 ∈ xs := gx_mem0 xs 0 h0
    refine (pop_some g base cnt M xs S w h h0 hl (gx xs 0) rfl (hs _ hmem) hbase).mono ?_
    rintro e w' ⟨rfl, hq, hk, hb⟩
    exact ⟨_, _, _, rfl, hq, hp.2, fun k hk => hk.elim .inl (fun h => .inr h.1), fun k hk2 => hk2.elim (fun h => Nat.lt_of_lt_of_le (hM k h) hk.1) (fun h => h.2), hk, hb, fun z hz => (pop_perm xs h0).mem_iff.1 (List.mem_cons.2 (.inr hz)), by
      have := pop_len xs h0
      exact Nat.le_trans (Nat.le_of_eq this) (by omega)⟩
  · have e1 : xs = [] := List.eq_nil_of_length_eq_zero (by omega)
    have e2 : ws = [] := List.eq_nil_of_length_eq_zero (by omega)
    subst e1
    subst e2
    refine (pop_empty g base cnt M S w h).mono ?_
    rintro e w' ⟨rfl, hb⟩
    exact ⟨M, [], S, rfl, h.below hb, ht, fun k hk => .inl hk, fun k hk => Nat.lt_of_lt_of_le (hM k hk) hb.size, Kept.of_below hb M, Below.low_ hb hbase, fun z hz => hz, by omega⟩
theorem tail_cut (A2 : Option Addr) (c2 : Nat) (ws : List It) (h0 : 0 < ws.length) (hc : ws.length ≤ c2) : ∃ A5 c5, (∀ W : World, (Instr.slice 26 (.slice A2 ws.length c2) (some (.int .i64 1)) none none).run Try.prog W = .ok (.slice A5 (ws.drop 1).length c5) W) ∧ (ws.drop 1).length ≤ c5 ∧
    ∀ (W : World) (ok : Nat → Prop), Kd.F PQ.k28 W ok A2 ws.length ws → Kd.F PQ.k28 W ok A5 (ws.drop 1).length (ws.drop 1) := by
  obtain ⟨i0, hi0, hz0, hs0, _⟩ := info_parts PQ.info28
  have h := cut_from (P := Try.prog) 26 28 .i64 Try.underlying26 hi0 3 (by first | exact hs0 | simpa using hs0) A2 ws.length c2 1 (by omega) (by omega)
  refine ⟨_, c2 - 1, ?_, by rw [List.length_drop]; omega, fun W ok hf => Kd.F_cut hf (m := 1) (by omega) hc⟩
  intro W
  rw [h W, List.length_drop]
  rfl
set_option maxHeartbeats 8000000 in
set_option maxRecDepth 100000 in
theorem does_law (A : Option Addr) (c : Nat) (l : List PQ.S30) (w : World) (hr : Kd.C PQ.k30 w A l.length l) (hsz : ∀ x ∈ l, x.f1.f0.size ≤ maxLen) :
    Calls Try.prog 3 #[.slice A l.length c] w fun e w' => e = .returned (.bool true) ∧ Below w.heap.size w w' := by
  by_cases h100 : 250 < l.length
  · have h1 : (250 : Int) < (l.length : Int) := by omega
    go_enter Try.func3, Try.ntmps3
    go_wp2_with fail
    refine (live_any w).mono ?_
    rintro e w1 ⟨rfl, hb1⟩
    go_wp2
    go_ret
    exact ⟨rfl, hb1⟩
  have h1 : ¬ (250 : Int) < (l.length : Int) := by omega
  have HSZ := Lib.hid hsz
  clear hsz
  go_enter Try.func3, Try.ntmps3
  go_wp2_with fail
  refine (new_any w).mono ?_
  rintro e w1 ⟨g, rfl, hq1, hb1⟩
  have HQ1 := Lib.hid hq1
  have HB1 := Lib.hid hb1
  clear hq1 hb1
  go_wp2
  go_loopw [4, 5, 6, 7, 8, 9, 10] (fun v4 v5 v6 v7 v8 v9 v10 wr => ∃ (i cnt : Nat) (M P : Nat → Prop) (xs ws : List It) (S : ByteArray → Bool) (A2 : Option Addr) (c2 : Nat), v4 = .slice A2 ws.length c2 ∧ v5 = .int .i64 i ∧ i ≤ l.length ∧ cnt ≤ i ∧ Aside0 (xs.length ≤ i) ∧ Aside0 (IsQ wr w.heap.size g M xs S cnt) ∧ Aside0 (Two xs ws S) ∧ Aside0 (∀ k, M k → k < wr.heap.size) ∧ Aside0 (∀ x ∈ xs, x.f0.size ≤ maxLen) ∧ Aside0 (Below w.heap.size w wr) ∧ Aside0 (ws.length ≤ c2 ∧ Kd.F PQ.k28 wr P A2 ws.length ws) ∧ Aside0 (∀ k, P k → k < wr.heap.size ∧ ¬ M k)) (fun _ v5 _ _ _ _ _ _ => l.length - (intOf v5).toNat)
  case atStart => exact ⟨0, 0, _, fun _ => False, [], [], _, none, 0, rfl, rfl, Nat.zero_le _, Nat.le_refl _, ⟨Nat.le_refl _⟩, ⟨HQ1.out⟩, ⟨Two.nil⟩, ⟨fun k hk => hk.2⟩, ⟨fun x hx => by cases hx⟩, ⟨HB1.out⟩, ⟨Nat.le_refl _, Kd.F_nil _ _ _⟩, ⟨fun k hk => hk.elim⟩⟩
  case round =>
    obtain ⟨i, cnt, M, P, xs, ws, S, A2, c2, rfl, rfl, hi, hci, HXL, HQ, HT, HMB, HXS, HB, HV, HP⟩ := hrel
    by_cases hlt : i < l.length
    · have hlti : (i : Int) < (l.length : Int) := by omega
      obtain ⟨ad, e, h0, h1c, h2c, h3c⟩ := PQ.at_T30 (Kd.C_below hr HB.out) (i : Int) (by omega) (by omega)
      subst e
      simp only [Int.toNat_natCast] at h0 h1c h2c h3c
      have hps := HSZ.out _ (show PQ.rd_T30 l (i : Int) ∈ l by unfold PQ.rd_T30; rw [List.getD_eq_getElem?_getD, Int.toNat_natCast, List.getElem?_eq_getElem hlt]; exact List.getElem_mem hlt)
      generalize PQ.rd_T30 l (i : Int) = pp at *
      obtain ⟨pb, p⟩ := pp
      have HPS := Lib.hid hps
      have hcn : cnt < 1000000 := by omega
      have hxl : xs.length ≤ 1000 := by have := HXL.out; omega
      have hwl : ws.length ≤ 1000 := by have := HT.out.perm.length_eq; omega
      have HWL := Lib.hid hwl
      have HCN := Lib.hid hcn
      have HXL2 := Lib.hid hxl
      clear hps hcn hxl hwl
      cases pb
      · have h0 : wr.cell? (ad.add (i * 4)) = some (.bool false) := h0
        obtain ⟨ws3, rc, hpw⟩ : ∃ ws3 rc, putW ws S p = (ws3, rc) := ⟨_, _, rfl⟩
        have HRP := Lib.hid (PQ.ref39_PutV.calls (2 * ws.length + 2) P A2 c2 ws p.f0 p.f1 p.f2 ws3 rc wr (Kd.V_mk HV.out.1 HV.out.2) ((put_f ws p S HT.out.there HWL.out).trans (congrArg some hpw)))
        have h1d : wr.cell? ⟨(ad.add (i * 4)).block, (ad.add (i * 4)).off + 1, none⟩ = some (.string p.f0) := h1c
        have h2d : wr.cell? ⟨(ad.add (i * 4)).block, (ad.add (i * 4)).off + 2, none⟩ = some (.int .i64 p.f1) := h2c
        have h3d : wr.cell? ⟨(ad.add (i * 4)).block, (ad.add (i * 4)).off + 3, none⟩ = some (.int .i64 p.f2) := h3c
        have HPW := Lib.hid hpw
        clear h1c h2c h3c hpw
        go_wp2_with fail
        refine HRP.out.mono ?_
        rintro e w2 ⟨v0, rfl, hv2, hb2⟩
        obtain ⟨A3, c3, rfl, hc3, hf3⟩ := hv2
        have HB2 := Lib.hid hb2
        have HC3 := Lib.hid hc3
        have HF3 := Lib.hid (Kd.F_bound hf3)
        have HQ2 := Lib.hid (HQ.out.below hb2)
        have HM2 := Lib.hid (show ∀ k, M k → k < w2.drew.heap.size from fun k hk => Nat.lt_of_lt_of_le (HMB.out k hk) hb2.size)
        have HBW := Lib.hid (show Below w.heap.size w w2.drew from below_dr (Below.then1 HB.out hb2))
        have HPT := Lib.hid (fun (W : World) (hW : W = w2.drew) => by
          subst hW
          have h := put_two g w.heap.size cnt M xs ws S w2.drew HQ2.out.drew HT.out HM2.out p HPS.out HCN.out HBW.out.size
          rw [HPW.out] at h
          exact h)
        have k0 : w2.drew.cell? ⟨(ad.add (i * 4)).block, (ad.add (i * 4)).off + 1, none⟩ = some (.string p.f0) := (hb2.cell (World.block_lt_of_cell? _ _ h1d)).trans h1d
        have k1 : w2.drew.cell? ⟨(ad.add (i * 4)).block, (ad.add (i * 4)).off + 2, none⟩ = some (.int .i64 p.f1) := (hb2.cell (World.block_lt_of_cell? _ _ h2d)).trans h2d
        have k2 : w2.drew.cell? ⟨(ad.add (i * 4)).block, (ad.add (i * 4)).off + 3, none⟩ = some (.int .i64 p.f2) := (hb2.cell (World.block_lt_of_cell? _ _ h3d)).trans h3d
        clear hb2 hc3 hf3 h0 h1d h2d h3d
        go_wp2
        refine start_ (n := 24) (S := fun w' => w'.cell? ⟨(ad.add (i * 4)).block, (ad.add (i * 4)).off + 1, none⟩ = some (.string p.f0) ∧ w'.cell? ⟨(ad.add (i * 4)).block, (ad.add (i * 4)).off + 2, none⟩ = some (.int .i64 p.f1) ∧ w'.cell? ⟨(ad.add (i * 4)).block, (ad.add (i * 4)).off + 3, none⟩ = some (.int .i64 p.f2)) (ds := [20, 21]) #[false, false, false, false, false, false, false, false, false, false, false, false, false, false, false, false, false, false, false, false, false, false, false, false] (by kernel_rfl) rfl rfl ⟨k0, k1, k2⟩ (fun hHeld => ?_)
        refine pure_ (i := 0) (N := some 38) (v := ?_) (a' := ?_) #[true, false, false, false, false, false, false, false, false, false, false, false, false, false, false, false, false, false, false, false, false, false, false, false] rfl rfl (by kernel_rfl) (fun _ _ _ h => h) (Or.inl ⟨by rfl, ?_⟩) ?_ ?_
        rotate_left
        · intro w'
          go_simp
          with_reducible rfl
        rotate_left
        · simp only [Act.put, List.setIfInBounds_toArray, List.set_cons_zero, List.set_cons_succ, i64_w, i32_w]
          rfl
        refine pure_ (i := 1) (N := some 39) (v := ?_) (a' := ?_) #[true, true, false, false, false, false, false, false, false, false, false, false, false, false, false, false, false, false, false, false, false, false, false, false] rfl rfl (by kernel_rfl) (fun _ _ _ h => h) (Or.inl ⟨by rfl, ?_⟩) ?_ ?_
        rotate_left
        · intro w'
          go_simp
          with_reducible rfl
        rotate_left
        · simp only [Act.put, List.setIfInBounds_toArray, List.set_cons_zero, List.set_cons_succ, i64_w, i32_w]
          rfl
        refine pure_ (i := 2) (N := some 40) (v := ?_) (a' := ?_) #[true, true, true, false, false, false, false, false, false, false, false, false, false, false, false, false, false, false, false, false, false, false, false, false] rfl rfl (by kernel_rfl) (fun _ _ _ h => h) (Or.inl ⟨by rfl, ?_⟩) ?_ ?_
        rotate_left
        · intro w'
          go_simp
          with_reducible rfl
        rotate_left
        · simp only [Act.put, List.setIfInBounds_toArray, List.set_cons_zero, List.set_cons_succ, i64_w, i32_w]
          rfl
        refine pure_ (i := 3) (N := some 41) (v := ?_) (a' := ?_) #[true, true, true, true, false, false, false, false, false, false, false, false, false, false, false, false, false, false, false, false, false, false, false, false] rfl rfl (by kernel_rfl) (fun _ _ _ h => h) (Or.inl ⟨by rfl, ?_⟩) ?_ ?_
        rotate_left
        · intro w'
          go_simp
          with_reducible rfl
        rotate_left
        · simp only [Act.put, List.setIfInBounds_toArray, List.set_cons_zero, List.set_cons_succ, i64_w, i32_w]
          rfl
        refine pure_ (i := 4) (N := some 42) (v := ?_) (a' := ?_) #[true, true, true, true, true, false, false, false, false, false, false, false, false, false, false, false, false, false, false, false, false, false, false, false] rfl rfl (by kernel_rfl) (fun _ _ _ h => h) (Or.inl ⟨by rfl, ?_⟩) ?_ ?_
        rotate_left
        · intro w'
          go_simp
          with_reducible rfl
        rotate_left
        · simp only [Act.put, List.setIfInBounds_toArray, List.set_cons_zero, List.set_cons_succ, i64_w, i32_w]
          rfl
        refine pure_ (i := 5) (N := some 43) (v := ?_) (a' := ?_) #[true, true, true, true, true, true, false, false, false, false, false, false, false, false, false, false, false, false, false, false, false, false, false, false] rfl rfl (by kernel_rfl) (fun _ _ _ h => h) (Or.inl ⟨by rfl, ?_⟩) ?_ ?_
        rotate_left
        · intro w'
          go_simp
          with_reducible rfl
        rotate_left
        · simp only [Act.put, List.setIfInBounds_toArray, List.set_cons_zero, List.set_cons_succ, i64_w, i32_w]
          rfl
        refine pure_ (i := 7) (N := some 45) (v := ?_) (a' := ?_) #[true, true, true, true, true, true, false, true, false, false, false, false, false, false, false, false, false, false, false, false, false, false, false, false] rfl rfl (by kernel_rfl) (fun _ _ _ h => h) (Or.inl ⟨by rfl, ?_⟩) ?_ ?_
        rotate_left
        · intro w'
          go_simp
          with_reducible rfl
        rotate_left
        · simp only [Act.put, List.setIfInBounds_toArray, List.set_cons_zero, List.set_cons_succ, i64_w, i32_w]
          rfl
        refine pure_ (i := 8) (N := some 46) (v := ?_) (a' := ?_) #[true, true, true, true, true, true, false, true, true, false, false, false, false, false, false, false, false, false, false, false, false, false, false, false] rfl rfl (by kernel_rfl) (fun _ _ _ h => h) (Or.inl ⟨by rfl, ?_⟩) ?_ ?_
        rotate_left
        · intro w'
          go_simp
          with_reducible rfl
        rotate_left
        · simp only [Act.put, List.setIfInBounds_toArray, List.set_cons_zero, List.set_cons_succ, i64_w, i32_w]
          rfl
        refine pure_ (i := 9) (N := some 47) (v := ?_) (a' := ?_) #[true, true, true, true, true, true, false, true, true, true, false, false, false, false, false, false, false, false, false, false, false, false, false, false] rfl rfl (by kernel_rfl) (fun _ _ _ h => h) (Or.inl ⟨by rfl, ?_⟩) ?_ ?_
        rotate_left
        · intro w'
          go_simp
          with_reducible rfl
        rotate_left
        · simp only [Act.put, List.setIfInBounds_toArray, List.set_cons_zero, List.set_cons_succ, i64_w, i32_w]
          rfl
        refine pure_ (i := 10) (N := some 48) (v := ?_) (a' := ?_) #[true, true, true, true, true, true, false, true, true, true, true, false, false, false, false, false, false, false, false, false, false, false, false, false] rfl rfl (by kernel_rfl) (fun _ _ _ h => h) (Or.inl ⟨by rfl, ?_⟩) ?_ ?_
        rotate_left
        · intro w'
          go_simp
          with_reducible rfl
        rotate_left
        · simp only [Act.put, List.setIfInBounds_toArray, List.set_cons_zero, List.set_cons_succ, i64_w, i32_w]
          rfl
        refine pure_ (i := 11) (N := some 49) (v := ?_) (a' := ?_) #[true, true, true, true, true, true, false, true, true, true, true, true, false, false, false, false, false, false, false, false, false, false, false, false] rfl rfl (by kernel_rfl) (fun _ _ _ h => h) (Or.inl ⟨by rfl, ?_⟩) ?_ ?_
        rotate_left
        · intro w'
          go_simp
          with_reducible rfl
        rotate_left
        · simp only [Act.put, List.setIfInBounds_toArray, List.set_cons_zero, List.set_cons_succ, i64_w, i32_w]
          rfl
        refine pure_ (i := 13) (N := some 51) (v := ?_) (a' := ?_) #[true, true, true, true, true, true, false, true, true, true, true, true, false, true, false, false, false, false, false, false, false, false, false, false] rfl rfl (by kernel_rfl) (fun _ _ _ h => h) (Or.inl ⟨by rfl, ?_⟩) ?_ ?_
        rotate_left
        · intro w'
          go_simp
          with_reducible rfl
        rotate_left
        · simp only [Act.put, List.setIfInBounds_toArray, List.set_cons_zero, List.set_cons_succ, i64_w, i32_w]
          rfl
        refine pure_ (i := 14) (N := some 52) (v := ?_) (a' := ?_) #[true, true, true, true, true, true, false, true, true, true, true, true, false, true, true, false, false, false, false, false, false, false, false, false] rfl rfl (by kernel_rfl) (fun _ _ _ h => h) (Or.inl ⟨by rfl, ?_⟩) ?_ ?_
        rotate_left
        · intro w'
          go_simp
          with_reducible rfl
        rotate_left
        · simp only [Act.put, List.setIfInBounds_toArray, List.set_cons_zero, List.set_cons_succ, i64_w, i32_w]
          rfl
        refine pure_ (i := 15) (N := some 53) (v := ?_) (a' := ?_) #[true, true, true, true, true, true, false, true, true, true, true, true, false, true, true, true, false, false, false, false, false, false, false, false] rfl rfl (by kernel_rfl) (fun _ _ _ h => h) (Or.inl ⟨by rfl, ?_⟩) ?_ ?_
        rotate_left
        · intro w'
          go_simp
          with_reducible rfl
        rotate_left
        · simp only [Act.put, List.setIfInBounds_toArray, List.set_cons_zero, List.set_cons_succ, i64_w, i32_w]
          rfl
        refine pure_ (i := 16) (N := some 54) (v := ?_) (a' := ?_) #[true, true, true, true, true, true, false, true, true, true, true, true, false, true, true, true, true, false, false, false, false, false, false, false] rfl rfl (by kernel_rfl) (fun _ _ _ h => h) (Or.inl ⟨by rfl, ?_⟩) ?_ ?_
        rotate_left
        · intro w'
          go_simp
          with_reducible rfl
        rotate_left
        · simp only [Act.put, List.setIfInBounds_toArray, List.set_cons_zero, List.set_cons_succ, i64_w, i32_w]
          rfl
        refine pure_ (i := 17) (N := some 55) (v := ?_) (a' := ?_) #[true, true, true, true, true, true, false, true, true, true, true, true, false, true, true, true, true, true, false, false, false, false, false, false] rfl rfl (by kernel_rfl) (fun _ _ _ h => h) (Or.inl ⟨by rfl, ?_⟩) ?_ ?_
        rotate_left
        · intro w'
          go_simp
          with_reducible rfl
        rotate_left
        · simp only [Act.put, List.setIfInBounds_toArray, List.set_cons_zero, List.set_cons_succ, i64_w, i32_w]
          rfl
        refine pure_ (i := 22) (N := some 60) (v := ?_) (a' := ?_) #[true, true, true, true, true, true, false, true, true, true, true, true, false, true, true, true, true, true, false, false, false, false, true, false] rfl rfl (by kernel_rfl) (fun _ _ _ h => h) (Or.inl ⟨by rfl, ?_⟩) ?_ ?_
        rotate_left
        · intro w'
          go_simp
          with_reducible rfl
        rotate_left
        · simp only [Act.put, List.setIfInBounds_toArray, List.set_cons_zero, List.set_cons_succ, i64_w, i32_w]
          rfl
        refine take_ (i := 6) (N := some 44) (v := ?_) (a' := ?_) #[true, true, true, true, true, true, true, true, true, true, true, true, false, true, true, true, true, true, false, false, false, false, true, false] rfl rfl (by kernel_rfl) (fun _ _ _ h => h) (Or.inl ⟨by rfl, ?_⟩) hHeld ?_ ?_
        rotate_left
        · rintro w' ⟨s0, s1, s2⟩
          go_simp
          with_reducible rfl
        rotate_left
        · simp only [Act.put, List.setIfInBounds_toArray, List.set_cons_zero, List.set_cons_succ, i64_w, i32_w]
          rfl
        refine take_ (i := 12) (N := some 50) (v := ?_) (a' := ?_) #[true, true, true, true, true, true, true, true, true, true, true, true, true, true, true, true, true, true, false, false, false, false, true, false] rfl rfl (by kernel_rfl) (fun _ _ _ h => h) (Or.inl ⟨by rfl, ?_⟩) hHeld ?_ ?_
        rotate_left
        · rintro w' ⟨s0, s1, s2⟩
          go_simp
          with_reducible rfl
        rotate_left
        · simp only [Act.put, List.setIfInBounds_toArray, List.set_cons_zero, List.set_cons_succ, i64_w, i32_w]
          rfl
        refine take_ (i := 18) (N := some 56) (v := ?_) (a' := ?_) #[true, true, true, true, true, true, true, true, true, true, true, true, true, true, true, true, true, true, true, false, false, false, true, false] rfl rfl (by kernel_rfl) (fun _ _ _ h => h) (Or.inl ⟨by rfl, ?_⟩) hHeld ?_ ?_
        rotate_left
        · rintro w' ⟨s0, s1, s2⟩
          go_simp
          with_reducible rfl
        rotate_left
        · simp only [Act.put, List.setIfInBounds_toArray, List.set_cons_zero, List.set_cons_succ, i64_w, i32_w]
          rfl
        refine pure_ (i := 19) (N := some 57) (v := ?_) (a' := ?_) #[true, true, true, true, true, true, true, true, true, true, true, true, true, true, true, true, true, true, true, true, false, false, true, false] rfl rfl (by kernel_rfl) (fun _ _ _ h => h) (Or.inl ⟨by rfl, ?_⟩) ?_ ?_
        rotate_left
        · intro w'
          go_simp
          with_reducible rfl
        rotate_left
        · simp only [Act.put, List.setIfInBounds_toArray, List.set_cons_zero, List.set_cons_succ, i64_w, i32_w]
          rfl
        refine last_ (i := 20) (N := some 58) #[true, true, true, true, true, true, true, true, true, true, true, true, true, true, true, true, true, true, true, true, true, false, true, false] rfl rfl (by kernel_rfl) (by decide) (fun K hK => ?_)
        refine goes_ Try.func9 (by kernel_rfl) rfl #[.pointer (some ⟨g, 0, none⟩), .agg #[.string p.f0, .int .i64 p.f1, .int .i64 p.f2]] (by rfl) rfl rfl (by simp only [List.map_toArray, List.map_cons, List.map_nil]; rfl) ?_
        with_reducible refine (HPT.out _ rfl).mono ?_
        rintro e w3 ⟨M3, xs3, S3, cnt3, rfl, hq3, ht3, hc3, hm3, hm3', hk3, hb3, hx3, hl3⟩
        refine ⟨_, rfl, ?_⟩
        refine hK.out _ _ ?_
        clear hK K
        refine norm_ (a' := ?_) ?_ ?_
        rotate_left
        · show Act.put _ (some 58) _ = _
          simp only [Act.put, List.setIfInBounds_toArray, List.set_cons_zero, List.set_cons_succ, i64_w, i32_w]
          rfl
        refine last_ (i := 21) (N := some 59) #[true, true, true, true, true, true, true, true, true, true, true, true, true, true, true, true, true, true, true, true, true, true, true, false] rfl rfl (by kernel_rfl) (by decide) (fun K hK => ?_)
        refine goes_ Try.func8 (by kernel_rfl) rfl #[.int .i64 rc] (by rfl) rfl rfl (by simp only [List.map_toArray, List.map_cons, List.map_nil]; rfl) ?_
        with_reducible refine (num_any rc w3).mono ?_
        rintro e w4 ⟨rfl, hw4⟩
        refine ⟨_, rfl, ?_⟩
        subst hw4
        refine hK.out _ _ ?_
        clear hK K
        refine norm_ (a' := ?_) ?_ ?_
        rotate_left
        · show Act.put _ (some 59) _ = _
          simp only [Act.put, List.setIfInBounds_toArray, List.set_cons_zero, List.set_cons_succ, i64_w, i32_w]
          rfl
        refine pure_ (i := 23) (N := some 61) (v := ?_) (a' := ?_) #[true, true, true, true, true, true, true, true, true, true, true, true, true, true, true, true, true, true, true, true, true, true, true, true] rfl rfl (by kernel_rfl) (fun _ _ _ h => h) (Or.inl ⟨by rfl, ?_⟩) ?_ ?_
        rotate_left
        · intro w'
          go_simp
          with_reducible rfl
        rotate_left
        · simp only [Act.put, List.setIfInBounds_toArray, List.set_cons_zero, List.set_cons_succ, i64_w, i32_w]
          rfl
        refine done_ (by kernel_rfl) ?_
        have HQ3 := Lib.hid hq3
        have HT3 := Lib.hid ht3
        have HC3' := Lib.hid hc3
        have HM3 := Lib.hid hm3
        have HM3' := Lib.hid hm3'
        have HK3 := Lib.hid (show Kept w2 w3 M from hk3)
        have HB3 := Lib.hid (HBW.out.trans hb3)
        have HX3 := Lib.hid hx3
        have HL3 := Lib.hid hl3
        have HLEN := Lib.hid (show Calls Try.prog 11 #[.pointer (some ⟨g, 0, none⟩)] w3 fun e w' => e = .returned (.int .i64 ws3.length) ∧ w3 = w' by
          have h := len_q g w.heap.size cnt3 M3 xs3 S3 w3 hq3
          rw [← ht3.perm.length_eq] at h
          exact h)
        clear hq3 ht3 hc3 hm3 hm3' hk3 hb3 hx3 hl3 k0 k1 k2 hHeld
        go_wp2_with fail
        refine HLEN.out.mono ?_
        rintro e w5 ⟨rfl, hw5⟩
        subst hw5
        go_wp2
        go_roundw
        case rel => 
          have hs2 : wr.heap.size ≤ w2.heap.size := HB2.out.size
          have hs3 : w2.heap.size ≤ w3.heap.size := HK3.out.1
          have hnM : ∀ k, ((P k ∨ wr.heap.size ≤ k) ∧ k < w2.heap.size) → ¬ M k := fun k hk hm => by
            rcases hk.1 with h | h
            · exact (HP.out k h).2 hm
            · have := HMB.out k hm; omega
          exact ⟨i + 1, cnt3, M3, fun k => (P k ∨ wr.heap.size ≤ k) ∧ k < w2.heap.size, xs3, ws3, S3, A3, c3, rfl, by go_num, by omega, by have := HC3'.out; omega, ⟨by have h1 := HL3.out; have h2 := HXL.out; omega⟩, ⟨HQ3.out⟩, ⟨HT3.out⟩, ⟨HM3'.out⟩,
            ⟨fun z hz => (HX3.out z hz).elim (fun e => by rw [e]; exact HPS.out) (fun h => HXS.out z h)⟩, ⟨HB3.out⟩, ⟨HC3.out, Kd.F_kept HF3.out HK3.out hnM⟩, ⟨fun k hk => ⟨Nat.lt_of_lt_of_le hk.2 hs3, fun hm => (HM3.out k hm).elim (hnM k hk) (fun h => by
              have h' : w2.heap.size ≤ k := h
              have := hk.2; omega)⟩⟩⟩
        case measure => simp [intOf]; omega
      · have h0 : wr.cell? (ad.add (i * 4)) = some (.bool true) := h0
        clear h1c h2c h3c
        by_cases hw0 : 0 < ws.length
        · have hw0i : (0 : Int) < (ws.length : Int) := by omega
          have HPOP := Lib.hid (by
            have h := pop_two g w.heap.size cnt M xs ws S wr HQ.out HT.out HMB.out HXS.out HXL2.out HB.out.size
            rw [decide_eq_true hw0] at h
            exact h)
          have hgx : PQ.rd_T28 ws 0 = gx ws 0 := rfl
          generalize hx : gx ws 0 = x at *
          have HGX := Lib.hid hx
          clear hx
          go_wp2_with fail
          refine HPOP.out.mono ?_
          rintro e w2 ⟨M2, xs2, S2, rfl, hq2, ht2, hm2, hm2', hk2, hb2, hx2, hl2⟩
          have HBY := Lib.hid (show Below w2.heap.size w2 ((w2.alloc (boxI x)).alloc (Obj.cells #[Value.string ⟨#[]⟩, Value.int IntKind.i64 0, Value.int IntKind.i64 0] 28)) from below_alloc (below_alloc (Below.refl _ _) _) _)
          have HFY := Lib.hid (Kd.F_below (Kd.F_kept HV.out.2 hk2 (fun k hk => (HP.out k hk).2)) HBY.out)
          obtain ⟨ad2, e2, c0, c1, c2d⟩ := PQ.at_T28 (Kd.F_now HFY.out) 0 (by omega) hw0i
          subst e2
          have e0 : ad2.add 0 = ad2 := by simp [Addr.add]
          simp only [Int.toNat_zero, Nat.zero_mul, e0] at c0 c1 c2d
          rw [hgx] at c0 c1 c2d
          clear hgx
          have HIB := Lib.hid (show ((w2.alloc (boxI x)).alloc (Obj.cells #[Value.string ⟨#[]⟩, Value.int IntKind.i64 0, Value.int IntKind.i64 0] 28)).heap[w2.heap.size]? = some (boxI x) from
            ((below_alloc (Below.refl (w2.alloc (boxI x)).heap.size (w2.alloc (boxI x))) (Obj.cells #[Value.string ⟨#[]⟩, Value.int IntKind.i64 0, Value.int IntKind.i64 0] 28)).block _ (blk_lt (new_blk w2 (boxI x)))).trans (new_blk w2 (boxI x)))
          have HJB := Lib.hid (show ((w2.alloc (boxI x)).alloc (Obj.cells #[Value.string ⟨#[]⟩, Value.int IntKind.i64 0, Value.int IntKind.i64 0] 28)).heap[w2.heap.size + 1]? = some (Obj.cells #[Value.string ⟨#[]⟩, Value.int IntKind.i64 0, Value.int IntKind.i64 0] 28) by
            have e := new_blk (w2.alloc (boxI x)) (Obj.cells #[Value.string ⟨#[]⟩, Value.int IntKind.i64 0, Value.int IntKind.i64 0] 28)
            rw [World.size_alloc] at e
            exact e)
          have z0 := blk_frozen HJB.out 0
          have z1 := blk_frozen HJB.out 1
          have z2 := blk_frozen HJB.out 2
          have j0 : ((w2.alloc (boxI x)).alloc (Obj.cells #[Value.string ⟨#[]⟩, Value.int IntKind.i64 0, Value.int IntKind.i64 0] 28)).cell? ⟨w2.heap.size + 1, 0, none⟩ = some (.string ⟨#[]⟩) := (blk_cell HJB.out 0).trans rfl
          have j1 : ((w2.alloc (boxI x)).alloc (Obj.cells #[Value.string ⟨#[]⟩, Value.int IntKind.i64 0, Value.int IntKind.i64 0] 28)).cell? ⟨w2.heap.size + 1, 1, none⟩ = some (.int .i64 0) := (blk_cell HJB.out 1).trans rfl
          have j2 : ((w2.alloc (boxI x)).alloc (Obj.cells #[Value.string ⟨#[]⟩, Value.int IntKind.i64 0, Value.int IntKind.i64 0] 28)).cell? ⟨w2.heap.size + 1, 2, none⟩ = some (.int .i64 0) := (blk_cell HJB.out 2).trans rfl
          obtain ⟨A5, c5, hcut, hc5, hF5⟩ := tail_cut (some ad2) c2 ws hw0 HV.out.1
          have HC5 := Lib.hid hc5
          have HF5 := Lib.hid hF5
          clear hc5 hF5
          generalize ws.drop 1 = ws5 at *
          have HQ2 := Lib.hid hq2
          have HT2 := Lib.hid ht2
          have HM2 := Lib.hid hm2
          have HM2' := Lib.hid hm2'
          have HK2 := Lib.hid hk2
          have HB2 := Lib.hid hb2
          have HX2 := Lib.hid hx2
          have HL2 := Lib.hid hl2
          have HB24 := Lib.hid (show Below w2.heap.size w2 ((w2.alloc (Obj.cells #[Value.string x.f0, Value.int IntKind.i64 x.f1, Value.int IntKind.i64 x.f2] 36)).alloc (Obj.cells #[Value.string x.f0, Value.int IntKind.i64 x.f1, Value.int IntKind.i64 x.f2] 28)) from below_alloc (below_alloc (Below.refl _ _) _) _)
          have HQ4 := Lib.hid (hq2.below HB24.out)
          have HB4 := Lib.hid (show Below w.heap.size w ((w2.alloc (Obj.cells #[Value.string x.f0, Value.int IntKind.i64 x.f1, Value.int IntKind.i64 x.f2] 36)).alloc (Obj.cells #[Value.string x.f0, Value.int IntKind.i64 x.f1, Value.int IntKind.i64 x.f2] 28)) from (HB.out.trans hb2).trans (Below.low_ HB24.out (Nat.le_trans HB.out.size hk2.1)))
          have HF4 := Lib.hid (Kd.F_below (Kd.F_kept HV.out.2 hk2 (fun k hk => (HP.out k hk).2)) HB24.out)
          have HLEN := Lib.hid (show Calls Try.prog 11 #[.pointer (some ⟨g, 0, none⟩)] ((w2.alloc (Obj.cells #[Value.string x.f0, Value.int IntKind.i64 x.f1, Value.int IntKind.i64 x.f2] 36)).alloc (Obj.cells #[Value.string x.f0, Value.int IntKind.i64 x.f1, Value.int IntKind.i64 x.f2] 28)) fun e w' => e = .returned (.int .i64 ws5.length) ∧ ((w2.alloc (Obj.cells #[Value.string x.f0, Value.int IntKind.i64 x.f1, Value.int IntKind.i64 x.f2] 36)).alloc (Obj.cells #[Value.string x.f0, Value.int IntKind.i64 x.f1, Value.int IntKind.i64 x.f2] 28)) = w' by
            have h := len_q g w.heap.size cnt M2 xs2 S2 _ HQ4.out
            rw [← ht2.perm.length_eq] at h
            exact h)
          clear hq2 ht2 hm2 hm2' hk2 hb2 hx2 hl2
          go_wp2_with fail
          refine HLEN.out.mono ?_
          rintro e w5 ⟨rfl, hw5⟩
          subst hw5
          go_wp2
          go_roundw
          case rel => exact ⟨i + 1, cnt, M2, P, xs2, ws5, S2, A5, c5, rfl, by go_num, by omega, by omega, ⟨by have h1 := HL2.out; have h2 := HXL.out; omega⟩, ⟨HQ4.out⟩, ⟨HT2.out⟩, ⟨fun k hk => Nat.lt_of_lt_of_le (HM2'.out k hk) HB24.out.size⟩, ⟨fun z hz => HXS.out z (HX2.out z hz)⟩, ⟨HB4.out⟩, ⟨HC5.out, HF5.out _ _ HF4.out⟩, ⟨fun k hk => ⟨Nat.lt_of_lt_of_le (HP.out k hk).1 (Nat.le_trans HK2.out.1 HB24.out.size), fun hm => (HM2.out k hm).elim (HP.out k hk).2 (fun h => by have := (HP.out k hk).1; omega)⟩⟩⟩
          case measure => simp [intOf]; omega
        · obtain rfl : ws = [] := List.eq_nil_of_length_eq_zero (by omega)
          have HPOP := Lib.hid (show Calls Try.prog 10 #[.pointer (some ⟨g, 0, none⟩)] wr fun e w' => ∃ M' xs' S', e = .returned (.tuple #[.agg #[Value.string { data := #[] }, Value.int IntKind.i64 0, Value.int IntKind.i64 0], .bool false]) ∧ IsQ w' w.heap.size g M' xs' S' cnt ∧ Two xs' [] S' ∧
              (∀ k, M' k → M k ∨ wr.heap.size ≤ k) ∧ (∀ k, M' k → k < w'.heap.size) ∧ Kept wr w' M ∧ Below w.heap.size wr w' ∧ (∀ z ∈ xs', z ∈ xs) ∧ xs'.length ≤ xs.length from
            pop_two g w.heap.size cnt M xs [] S wr HQ.out HT.out HMB.out HXS.out HXL2.out HB.out.size)
          go_wp2_with fail
          refine HPOP.out.mono ?_
          rintro e w2 ⟨M2, xs2, S2, rfl, hq2, ht2, hm2, hm2', hk2, hb2, hx2, hl2⟩
          have HW2 := Lib.hid (new_blk w2 (Obj.cells #[Value.string { data := #[] }, Value.int IntKind.i64 0, Value.int IntKind.i64 0] 36))
          have HIB := Lib.hid ((below_alloc (Below.refl (w2.alloc (Obj.cells #[Value.string { data := #[] }, Value.int IntKind.i64 0, Value.int IntKind.i64 0] 36)).heap.size (w2.alloc (Obj.cells #[Value.string { data := #[] }, Value.int IntKind.i64 0, Value.int IntKind.i64 0] 36))) (Obj.cells #[Value.string { data := #[] }, Value.int IntKind.i64 0, Value.int IntKind.i64 0] 28)).block _ (blk_lt HW2.out) |>.trans HW2.out)
          have HJB := Lib.hid (show ((w2.alloc (Obj.cells #[Value.string { data := #[] }, Value.int IntKind.i64 0, Value.int IntKind.i64 0] 36)).alloc (Obj.cells #[Value.string { data := #[] }, Value.int IntKind.i64 0, Value.int IntKind.i64 0] 28)).heap[w2.heap.size + 1]? = some (Obj.cells #[Value.string { data := #[] }, Value.int IntKind.i64 0, Value.int IntKind.i64 0] 28) by
            have e := new_blk (w2.alloc (Obj.cells #[Value.string { data := #[] }, Value.int IntKind.i64 0, Value.int IntKind.i64 0] 36)) (Obj.cells #[Value.string { data := #[] }, Value.int IntKind.i64 0, Value.int IntKind.i64 0] 28)
            rw [World.size_alloc] at e
            exact e)
          have HQ2 := Lib.hid hq2
          have HT2 := Lib.hid ht2
          have HM2 := Lib.hid hm2
          have HM2' := Lib.hid hm2'
          have HK2 := Lib.hid hk2
          have HB2 := Lib.hid hb2
          have HX2 := Lib.hid hx2
          have HL2 := Lib.hid hl2
          have HB24 := Lib.hid (show Below w2.heap.size w2 ((w2.alloc (Obj.cells #[Value.string { data := #[] }, Value.int IntKind.i64 0, Value.int IntKind.i64 0] 36)).alloc (Obj.cells #[Value.string { data := #[] }, Value.int IntKind.i64 0, Value.int IntKind.i64 0] 28)) from below_alloc (below_alloc (Below.refl _ _) _) _)
          have HQ4 := Lib.hid (hq2.below HB24.out)
          have HB4 := Lib.hid (show Below w.heap.size w ((w2.alloc (Obj.cells #[Value.string { data := #[] }, Value.int IntKind.i64 0, Value.int IntKind.i64 0] 36)).alloc (Obj.cells #[Value.string { data := #[] }, Value.int IntKind.i64 0, Value.int IntKind.i64 0] 28)) from (HB.out.trans hb2).trans (Below.low_ HB24.out (Nat.le_trans HB.out.size hk2.1)))
          have HF4 := Lib.hid (Kd.F_below (Kd.F_kept HV.out.2 hk2 (fun k hk => (HP.out k hk).2)) HB24.out)
          have HLEN := Lib.hid (show Calls Try.prog 11 #[.pointer (some ⟨g, 0, none⟩)] ((w2.alloc (Obj.cells #[Value.string { data := #[] }, Value.int IntKind.i64 0, Value.int IntKind.i64 0] 36)).alloc (Obj.cells #[Value.string { data := #[] }, Value.int IntKind.i64 0, Value.int IntKind.i64 0] 28)) fun e w' => e = .returned (.int .i64 ([] : List It).length) ∧ ((w2.alloc (Obj.cells #[Value.string { data := #[] }, Value.int IntKind.i64 0, Value.int IntKind.i64 0] 36)).alloc (Obj.cells #[Value.string { data := #[] }, Value.int IntKind.i64 0, Value.int IntKind.i64 0] 28)) = w' by
            have h := len_q g w.heap.size cnt M2 xs2 S2 _ HQ4.out
            rw [← ht2.perm.length_eq] at h
            exact h)
          clear hq2 ht2 hm2 hm2' hk2 hb2 hx2 hl2
          go_wp2_with fail
          refine HLEN.out.mono ?_
          rintro e w5 ⟨rfl, hw5⟩
          subst hw5
          go_wp2
          go_roundw
          case rel => exact ⟨i + 1, cnt, M2, P, xs2, [], S2, A2, c2, rfl, by go_num, by omega, by omega, ⟨by have h1 := HL2.out; have h2 := HXL.out; omega⟩, ⟨HQ4.out⟩, ⟨HT2.out⟩, ⟨fun k hk => Nat.lt_of_lt_of_le (HM2'.out k hk) HB24.out.size⟩, ⟨fun z hz => HXS.out z (HX2.out z hz)⟩, ⟨HB4.out⟩, ⟨HV.out.1, HF4.out⟩, ⟨fun k hk => ⟨Nat.lt_of_lt_of_le (HP.out k hk).1 (Nat.le_trans HK2.out.1 HB24.out.size), fun hm => (HM2.out k hm).elim (HP.out k hk).2 (fun h => by have := (HP.out k hk).1; omega)⟩⟩⟩
          case measure => simp [intOf]; omega
    · have hlti : ¬ (i : Int) < (l.length : Int) := by omega
      have HB4 := Lib.hid HB.out
      go_wp2_with fail
      refine (live_any wr).mono ?_
      rintro e w8 ⟨rfl, hb8⟩
      have HB8 := Lib.hid (Below.then1 HB4.out hb8)
      clear hb8
      go_wp2
      go_ret
      exact ⟨rfl, HB8.out⟩
end Go.Proofs.Ytdpcfamgmicboae
