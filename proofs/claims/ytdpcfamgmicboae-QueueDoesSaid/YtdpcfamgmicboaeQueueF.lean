/- Contracts of the package queue's functions: Pop and New; no condition beyond each theorem its own. -/
import Derived.Test.YtdpcfamgmicboaeQueueA
import Derived.Test.YtdpcfamgmicboaeQueueE
namespace Go.Proofs.Ytdpcfamgmicboae
open Go.RowKit Go.Proofs.YtdpcfamgmicboaeW.PrintWords Go.Proofs.YtdpcfamgmicboaeW.PrintLast Go.Proofs.YtdpcfamgmicboaeW.PrintMore
set_option linter.unusedVariables false
set_option linter.unusedSimpArgs false

theorem new_blk (w : World) (o : Obj) : (w.alloc o).heap[w.heap.size]? = some o := by
  show (w.heap.push _)[w.heap.size]? = _
  simp
theorem downF_len : ∀ (f : Nat) (xs : List It) (i : Nat), (downF f xs i).length = xs.length
  | 0, _, _ => rfl
  | f + 1, xs, i => by
    unfold downF
    split
    · rfl
    · rw [downF_len f, swapL_len]
theorem set3_grown (w : World) (rb : Nat) (u v t : Value) : w.grownBy (((w.setCell ⟨rb, 0, none⟩ u).setCell ⟨rb, 1, none⟩ v).setCell ⟨rb, 2, none⟩ t) (some rb) :=
  ⟨rfl, rfl, rfl, by simp [World.setCell], fun k hk hne => by
    have h : k ≠ rb := fun e => hne (by rw [e])
    rw [Below.heap_setCell _ _ _ _ h, Below.heap_setCell _ _ _ _ h, Below.heap_setCell _ _ _ _ h]⟩
theorem set3_blk {w : World} {rb : Nat} {p q o : Value} (h : w.heap[rb]? = some (.cells #[p, q, o] 36 (0, 0))) (u v t : Value) :
    (((w.setCell ⟨rb, 0, none⟩ u).setCell ⟨rb, 1, none⟩ v).setCell ⟨rb, 2, none⟩ t).heap[rb]? = some (.cells #[u, v, t] 36 (0, 0)) := blk_set (blk_set (blk_set h 0 u) 1 v) 2 t
theorem HasMap.lt {w : World} {b cnt : Nat} {S : ByteArray → Bool} (h : HasMap w b cnt S) : b < w.heap.size := by
  obtain ⟨D, hD, _⟩ := h
  exact hD.lt
theorem pop_nil (w : World) : Calls Try.prog 10 #[.pointer none] w fun e w' => e = .returned (.tuple #[.agg #[.string ⟨#[]⟩, .int .i64 0, .int .i64 0], .bool false]) ∧ Below w.heap.size w w' := by
  go_enter Try.func10, Try.ntmps10
  go_wp2_with fail
  refine (len_nil' _).mono ?_
  rintro e w2 ⟨rfl, rfl⟩
  go_wp2
  exact ⟨rfl, _, results_ct (p := 2) (u := 3) (by kernel_rfl) _ _ w.heap.size 36 #[.string ⟨#[]⟩, .int .i64 0, .int .i64 0] (0, 0) _ rfl (new_blk w _) Try.underlying36 rfl (by kernel_rfl), rfl, below_alloc (Below.refl _ _) _⟩
theorem pop_empty (g base cnt : Nat) (M : Nat → Prop) (S : ByteArray → Bool) (w : World) (h : IsQ w base g M [] S cnt) :
    Calls Try.prog 10 #[.pointer (some ⟨g, 0, none⟩)] w fun e w' => e = .returned (.tuple #[.agg #[.string ⟨#[]⟩, .int .i64 0, .int .i64 0], .bool false]) ∧ Below w.heap.size w w' := by
  obtain ⟨A, c, b, hg, _⟩ := h
  have HG := Lib.hid hg
  clear hg
  go_enter Try.func10, Try.ntmps10
  go_wp2_with fail
  refine (len_any g A 0 c _ _ ((Below.block (below_alloc (Below.refl w.heap.size w) _) g (blk_lt HG.out)).trans HG.out)).mono ?_
  rintro e w2 ⟨rfl, rfl⟩
  go_wp2
  exact ⟨rfl, _, results_ct (p := 2) (u := 3) (by kernel_rfl) _ _ w.heap.size 36 #[.string ⟨#[]⟩, .int .i64 0, .int .i64 0] (0, 0) _ rfl (new_blk w _) Try.underlying36 rfl (by kernel_rfl), rfl, below_alloc (Below.refl _ _) _⟩
set_option maxHeartbeats 8000000 in
theorem pop_some (g base cnt : Nat) (M : Nat → Prop) (xs : List It) (S : ByteArray → Bool) (w : World) (h : IsQ w base g M xs S cnt) (h0 : 0 < xs.length) (hl : xs.length ≤ 1000) (x : It) (hx : xs.getD 0 PQ.z28 = x) (hxs : x.f0.size ≤ maxLen) (hbase : base ≤ w.heap.size) :
    Calls Try.prog 10 #[.pointer (some ⟨g, 0, none⟩)] w fun e w' => e = .returned (.tuple #[.agg #[.string x.f0, .int .i64 x.f1, .int .i64 x.f2], .bool true]) ∧
      IsQ w' base g (fun k => M k ∨ w.heap.size ≤ k ∧ k < w'.heap.size) (downF (xs.length - 1 + 1) ((swapL xs 0 (xs.length - 1)).take (xs.length - 1)) 0) (fun t => !decide (t = x.f0) && S t) cnt ∧ Kept w w' M ∧ Below base w w' := by
  obtain ⟨A, c, b, hg, hbg, hbb, hMg, hMb, hgb, hbl, hR, hm⟩ := h
  obtain ⟨r, rfl⟩ := own_row hR rfl h0
  obtain ⟨cx, hcx, k1, k2, k3⟩ := cells28 hR 0 h0
  replace hR := Kd.R_mono (Kd.R_bound hR) (fun k hk => (⟨hk.1, hk.2.2.1⟩ : (M k ∧ k ≠ g ∧ k ≠ b) ∧ k < w.heap.size))
  obtain rfl : cx = x := hcx.trans hx
  generalize hn : xs.length = n at *
  have HN := Lib.hid hn
  have HG := Lib.hid hg
  have HM := Lib.hid hm
  have HR := Lib.hid hR
  have K1 := Lib.hid k1
  have K2 := Lib.hid k2
  have K3 := Lib.hid k3
  clear hg hm hR hcx hx k1 k2 k3 hn
  go_enter Try.func10, Try.ntmps10
  go_wp2_with fail
  have HX1 := Lib.hid (new_blk w (.cells #[.string ⟨#[]⟩, .int .i64 0, .int .i64 0] 36))
  have HB1 := Lib.hid (below_alloc (Below.refl w.heap.size w) (.cells #[.string ⟨#[]⟩, .int .i64 0, .int .i64 0] 36))
  have HS1 := Lib.hid (show (w.alloc (.cells #[.string ⟨#[]⟩, .int .i64 0, .int .i64 0] 36)).heap.size = w.heap.size + 1 from World.size_alloc _ _)
  generalize w.alloc (.cells #[.string ⟨#[]⟩, .int .i64 0, .int .i64 0] 36) = w1 at *
  have HG1 := Lib.hid ((HB1.out.block g (blk_lt HG.out)).trans HG.out)
  refine (len_any g (some ⟨r, 0, none⟩) n c _ w1 HG1.out).mono ?_
  rintro e w2 ⟨rfl, hw2⟩
  subst hw2
  have h1 : w1.cell? ⟨g, 1, none⟩ = some (.slice (some ⟨r, 0, none⟩) n c) := (blk_cell HG1.out 1).trans rfl
  have k1 := (HB1.out.cell (World.block_lt_of_cell? _ _ K1.out)).trans K1.out
  have k2 := (HB1.out.cell (World.block_lt_of_cell? _ _ K2.out)).trans K2.out
  have k3 := (HB1.out.cell (World.block_lt_of_cell? _ _ K3.out)).trans K3.out
  simp only [Nat.zero_mul, Nat.zero_add] at k1 k2 k3
  have hn0 : ¬ (n : Int) = 0 := by omega
  have hni : (0 : Int) < (n : Int) := by omega
  have HX2 := Lib.hid (new_blk w1 (boxI cx))
  have HB2 := Lib.hid (below_alloc (Below.refl w1.heap.size w1) (boxI cx))
  have HS2 := Lib.hid (show (w1.alloc (boxI cx)).heap.size = w1.heap.size + 1 from World.size_alloc _ _)
  have HG2 := Lib.hid ((HB2.out.block g (blk_lt HG1.out)).trans HG1.out)
  have h2 : (w1.alloc (boxI cx)).cell? ⟨g, 1, none⟩ = some (.slice (some ⟨r, 0, none⟩) n c) := (blk_cell HG2.out 1).trans rfl
  obtain ⟨m, hm⟩ : ∃ m : Nat, n = m + 1 := ⟨n - 1, by omega⟩
  have hnm : (n : Int) - 1 = (m : Int) := by omega
  have HNM := Lib.hid hm
  have hmn : m < n := by omega
  have hl6 : n ≤ 1000000 := by omega
  clear hm
  have HR2 := Lib.hid (Kd.R_below (Kd.R_below HR.out HB1.out) HB2.out)
  have HOK : ∀ k, ((M k ∧ k ≠ g ∧ k ≠ b) ∧ k < w.heap.size) → k ≠ g := fun k hk => hk.1.2.1
  go_wp2_with fail
  have HX1b := Lib.hid ((HB2.out.block _ (blk_lt HX1.out)).trans HX1.out)
  have HB12 := Lib.hid (below_lo HB1.out HB2.out)
  have HM2 := Lib.hid (HM.out.kept (grown_below (row := none) HB12.out) (by simp))
  generalize w1.alloc (boxI cx) = w2 at *
  generalize hxb : w1.heap.size = xb at *
  have HXB := Lib.hid hxb
  clear hxb h1 h2 k1 k2 k3
  refine (swap_any g (some ⟨r, 0, none⟩) n c (.map (some b)) xs w2 base _ HG2.out HN.out HR2.out HOK 0 m (by omega) hmn hl6).mono ?_
  rintro e w3 ⟨rfl, hR3, hg3⟩
  have HR3 := Lib.hid hR3
  have HG3 := Lib.hid hg3
  clear hR3 hg3
  have hrk : M r ∧ r ≠ g ∧ r ≠ b := (HR.out.1 r rfl).1
  have hrl : r < w.heap.size := Kd.R_lt HR.out r rfl
  have hw3 := Lib.hid ((HG3.out.block g (blk_lt HG2.out) (fun e => hrk.2.1 (Option.some.inj e).symm)).trans HG2.out)
  have h3 : w3.cell? ⟨g, 1, none⟩ = some (.slice (some ⟨r, 0, none⟩) n c) := (blk_cell hw3.out 1).trans rfl
  have hf3 := blk_frozen hw3.out 1
  obtain ⟨i0, hi0, _, _, _⟩ := info_parts info36
  have hnc : n ≤ c := (Kd.R_reads' HR.out).2.1
  have hcut := cut_to (P := Try.prog) 44 36 .i64 Try.underlying44 hi0 (some ⟨r, 0, none⟩) n c (m : Int) (by omega) (by omega) hnc
  simp only [Int.toNat_natCast] at hcut
  go_wp2_with fail
  have hrbg : w.heap.size ≠ g := fun e => by have := blk_lt HG.out; omega
  have hxbg : xb ≠ g := fun e => by have h1 := blk_lt HG.out; have h2 := HXB.out; have h3 := HS1.out; omega
  have hrbr : w.heap.size ≠ r := by omega
  have hxbr : xb ≠ r := by have h2 := HXB.out; have h3 := HS1.out; omega
  have hrbx : w.heap.size ≠ xb := by have h2 := HXB.out; have h3 := HS1.out; omega
  have hw4 := Lib.hid (blk_set hw3.out 1 (.slice (some ⟨r, 0, none⟩) m c))
  have HYL := Lib.hid (show ((swapL xs 0 m).take m).length = m by rw [List.length_take, swapL_len]; have := HN.out; omega)
  have HR4 := Lib.hid (Kd.R_far (p := ⟨g, 1, none⟩) (Kd.R_take HR3.out (m := m) (by rw [swapL_len]; have := HN.out; omega)) (fun k hk => hk.1.2.1) (.slice (some ⟨r, 0, none⟩) m c))
  have HRB4 := Lib.hid ((Below.heap_setCell w3 ⟨g, 1, none⟩ (.slice (some ⟨r, 0, none⟩) m c) _ hrbg).trans ((HG3.out.block _ (blk_lt HX1b.out) (fun e => hrbr (Option.some.inj e))).trans HX1b.out))
  have HXB4 := Lib.hid ((Below.heap_setCell w3 ⟨g, 1, none⟩ (.slice (some ⟨r, 0, none⟩) m c) _ hxbg).trans ((HG3.out.block _ (blk_lt HX2.out) (fun e => hxbr (Option.some.inj e))).trans HX2.out))
  have HM4 := Lib.hid (show HasMap (w3.setCell ⟨g, 1, none⟩ (.slice (some ⟨r, 0, none⟩) m c)) b cnt S from (HM2.out.kept HG3.out (fun e => hrk.2.2 (Option.some.inj e).symm)).setCell (fun e => hgb e.symm) _)
  have HK4 := Lib.hid (show Kept w (w3.setCell ⟨g, 1, none⟩ (.slice (some ⟨r, 0, none⟩) m c)) M from
    (Kept.of_grown HG3.out (Kept.of_below HB12.out M) (fun q e => by injection e with e; subst e; exact .inl hrk.1)).setCell (p := ⟨g, 1, none⟩) (.inl hMg) _)
  have HBB4 := Lib.hid (Below.setCell (below_grown (Below.low_ HB12.out hbase) HG3.out (fun k e => Kd.R_base HR2.out k e) (Nat.le_trans hbase HB12.out.size)) (p := ⟨g, 1, none⟩) hbg (.slice (some ⟨r, 0, none⟩) m c))
  have HS4 := Lib.hid (show w.heap.size ≤ (w3.setCell ⟨g, 1, none⟩ (.slice (some ⟨r, 0, none⟩) m c)).heap.size from Nat.le_of_lt (blk_lt HRB4.out))
  clear h3 hf3 hcut
  generalize w3.setCell ⟨g, 1, none⟩ (.slice (some ⟨r, 0, none⟩) m c) = w4 at *
  refine (down_any g (some ⟨r, 0, none⟩) m c (.map (some b)) _ w4 base _ hw4.out HYL.out HR4.out HOK (by omega)).mono ?_
  rintro e w5 ⟨rfl, hR5, hg5⟩
  have HR5 := Lib.hid hR5
  have HG5 := Lib.hid hg5
  clear hR5 hg5
  have HW5 := Lib.hid ((HG5.out.block g (blk_lt hw4.out) (fun e => hrk.2.1 (Option.some.inj e).symm)).trans hw4.out)
  have HRB5 := Lib.hid ((HG5.out.block _ (blk_lt HRB4.out) (fun e => hrbr (Option.some.inj e))).trans HRB4.out)
  have HXB5 := Lib.hid ((HG5.out.block _ (blk_lt HXB4.out) (fun e => hxbr (Option.some.inj e))).trans HXB4.out)
  have HM5 := Lib.hid (HM4.out.kept HG5.out (fun e => hrk.2.2 (Option.some.inj e).symm))
  go_wp2
  have h0 : w5.drew.cell? ⟨g, 2, none⟩ = some (.map (some b)) := (blk_cell HW5.out 2).trans rfl
  have h1 : w5.drew.cell? ⟨xb, 0, none⟩ = some (.string cx.f0) := (blk_cell HXB5.out 0).trans rfl
  obtain ⟨w6, hrun6, hm6, hg6⟩ := HasMap.del (w := w5.drew) HM5.out cx.f0 hxs 0
  have HM6 := Lib.hid hm6
  have HG6 := Lib.hid (grown_dr hg6)
  clear hm6 hg6
  refine start_ (n := 7) (S := fun w' => w'.cell? ⟨g, 2, none⟩ = some (.map (some b)) ∧ w'.cell? ⟨xb, 0, none⟩ = some (.string cx.f0)) (ds := [6]) #[false, false, false, false, false, false, false] (by kernel_rfl) rfl rfl ⟨h0, h1⟩ (fun hHeld => ?_)
  refine pure_ (i := 0) (N := some 36) (v := ?_) (a' := ?_) #[true, false, false, false, false, false, false] rfl rfl (by kernel_rfl) (fun _ _ _ h => h) (Or.inl ⟨by rfl, ?_⟩) ?_ ?_
  rotate_left
  · intro w'
    go_simp
    with_reducible rfl
  rotate_left
  · simp only [Act.put, List.setIfInBounds_toArray, List.set_cons_zero, List.set_cons_succ, i64_w, i32_w]
    rfl
  refine pure_ (i := 1) (N := some 37) (v := ?_) (a' := ?_) #[true, true, false, false, false, false, false] rfl rfl (by kernel_rfl) (fun _ _ _ h => h) (Or.inl ⟨by rfl, ?_⟩) ?_ ?_
  rotate_left
  · intro w'
    go_simp
    with_reducible rfl
  rotate_left
  · simp only [Act.put, List.setIfInBounds_toArray, List.set_cons_zero, List.set_cons_succ, i64_w, i32_w]
    rfl
  refine pure_ (i := 2) (N := some 38) (v := ?_) (a' := ?_) #[true, true, true, false, false, false, false] rfl rfl (by kernel_rfl) (fun _ _ _ h => h) (Or.inl ⟨by rfl, ?_⟩) ?_ ?_
  rotate_left
  · intro w'
    go_simp
    with_reducible rfl
  rotate_left
  · simp only [Act.put, List.setIfInBounds_toArray, List.set_cons_zero, List.set_cons_succ, i64_w, i32_w]
    rfl
  refine pure_ (i := 4) (N := some 40) (v := ?_) (a' := ?_) #[true, true, true, false, true, false, false] rfl rfl (by kernel_rfl) (fun _ _ _ h => h) (Or.inl ⟨by rfl, ?_⟩) ?_ ?_
  rotate_left
  · intro w'
    go_simp
    with_reducible rfl
  rotate_left
  · simp only [Act.put, List.setIfInBounds_toArray, List.set_cons_zero, List.set_cons_succ, i64_w, i32_w]
    rfl
  refine take_ (i := 3) (N := some 39) (v := ?_) (a' := ?_) #[true, true, true, true, true, false, false] rfl rfl (by kernel_rfl) (fun _ _ _ h => h) (Or.inl ⟨by rfl, ?_⟩) hHeld ?_ ?_
  rotate_left
  · rintro w' ⟨s0, s1⟩
    go_simp
    with_reducible rfl
  rotate_left
  · simp only [Act.put, List.setIfInBounds_toArray, List.set_cons_zero, List.set_cons_succ, i64_w, i32_w]
    rfl
  refine take_ (i := 5) (N := some 41) (v := ?_) (a' := ?_) #[true, true, true, true, true, true, false] rfl rfl (by kernel_rfl) (fun _ _ _ h => h) (Or.inl ⟨by rfl, ?_⟩) hHeld ?_ ?_
  rotate_left
  · rintro w' ⟨s0, s1⟩
    go_simp
    with_reducible rfl
  rotate_left
  · simp only [Act.put, List.setIfInBounds_toArray, List.set_cons_zero, List.set_cons_succ, i64_w, i32_w]
    rfl
  refine last_ (i := 6) (N := none) #[true, true, true, true, true, true, true] rfl rfl (by kernel_rfl) (by decide) (fun K hK => ?_)
  refine value_ (w1 := ?_) (v := ?_) (by rfl) rfl ?_ ?_
  rotate_left 2
  · go_simp
    constructor
    · rfl
    · rfl
  refine hK.out _ _ ?_
  clear hK K
  refine done_ (by kernel_rfl) ?_
  have hxbb : xb ≠ b := fun e => by have h1 := HM.out.lt; have h2 := HXB.out; have h3 := HS1.out; omega
  have hrbb : w.heap.size ≠ b := fun e => by have h1 := HM.out.lt; omega
  have HXB6 := Lib.hid ((HG6.out.block _ (blk_lt HXB5.out) (fun e => hxbb (Option.some.inj e))).trans HXB5.out)
  have HRB6 := Lib.hid ((HG6.out.block _ (blk_lt HRB5.out) (fun e => hrbb (Option.some.inj e))).trans HRB5.out)
  have HW6 := Lib.hid ((HG6.out.block g (blk_lt HW5.out) (fun e => hgb (Option.some.inj e))).trans HW5.out)
  have x0 : w6.cell? ⟨xb, 0, none⟩ = some (.string cx.f0) := (blk_cell HXB6.out 0).trans rfl
  have x1 : w6.cell? ⟨xb, 1, none⟩ = some (.int .i64 cx.f1) := (blk_cell HXB6.out 1).trans rfl
  have x2 : w6.cell? ⟨xb, 2, none⟩ = some (.int .i64 cx.f2) := (blk_cell HXB6.out 2).trans rfl
  have y0 : w6.cell? ⟨w.heap.size, 0, none⟩ = some (.string ⟨#[]⟩) := (blk_cell HRB6.out 0).trans rfl
  have y1 : w6.cell? ⟨w.heap.size, 1, none⟩ = some (.int .i64 0) := (blk_cell HRB6.out 1).trans rfl
  have y2 : w6.cell? ⟨w.heap.size, 2, none⟩ = some (.int .i64 0) := (blk_cell HRB6.out 2).trans rfl
  have z0 := blk_frozen HRB6.out 0
  have z1 := blk_frozen HRB6.out 1
  have z2 := blk_frozen HRB6.out 2
  clear hrun6 h0 h1
  go_wp2
  have hg7 := set3_grown w6 w.heap.size (.string cx.f0) (.int .i64 cx.f1) (.int .i64 cx.f2)
  have hb7 := set3_blk HRB6.out (.string cx.f0) (.int .i64 cx.f1) (.int .i64 cx.f2)
  have hlen : (downF (m + 1) ((swapL xs 0 m).take m) 0).length = m := by rw [downF_len]; exact HYL.out
  have hs6 : w.heap.size ≤ w6.heap.size := Nat.le_trans (Nat.le_of_lt (blk_lt HRB5.out)) HG6.out.size
  have hnm2 : n - 1 = m := by have := HNM.out; omega
  refine ⟨rfl, _, results_ct (p := 2) (u := 3) (by kernel_rfl) _ _ w.heap.size 36 _ (0, 0) _ rfl hb7 Try.underlying36 rfl (by kernel_rfl), rfl, ⟨some ⟨r, 0, none⟩, c, b, ?_, hbg, hbb, .inl hMg, .inl hMb, hgb, ?_, ?_, (HM6.out.kept hg7 (fun e => hrbb (Option.some.inj e).symm))⟩, ?_, ?_⟩
  · rw [hnm2, hlen]
    exact (hg7.block g (blk_lt HW6.out) (fun e => hrbg (Option.some.inj e).symm)).trans HW6.out
  · exact Nat.lt_of_lt_of_le hbl (Nat.le_trans hs6 hg7.size)
  · rw [hnm2, hlen]
    exact Kd.R_mono (Kd.R_grown (Kd.R_grown HR5.out HG6.out (fun k hk e => hk.1.2.2 (Option.some.inj e))) hg7 (fun k hk e => by have := Option.some.inj e; omega)) (fun k hk => ⟨.inl hk.1.1, hk.1.2⟩)
  · exact Kept.of_grown hg7 (Kept.of_grown HG6.out (Kept.of_grown HG5.out HK4.out (fun q e => by injection e with e; subst e; exact .inl hrk.1)) (fun q e => by injection e with e; subst e; exact .inl hMb)) (fun q e => by injection e with e; subst e; exact .inr (Nat.le_refl _))
  · have s4 := Nat.le_trans hbase HS4.out
    have b5 := below_grown HBB4.out HG5.out (fun k e => Kd.R_base HR4.out k e) s4
    have b6 := below_grown b5 HG6.out (fun k e => by injection e with e; omega) (Nat.le_trans s4 HG5.out.size)
    exact below_grown b6 hg7 (fun k e => by injection e with e; omega) (Nat.le_trans hbase hs6)
end Go.Proofs.Ytdpcfamgmicboae
