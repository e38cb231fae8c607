/- Contracts of the package queue's functions: is, Len and Put; no condition beyond each theorem its own. -/
import Derived.Test.YtdpcfamgmicboaeQueueA
import Derived.Test.YtdpcfamgmicboaeQueueD
namespace Go.Proofs.Ytdpcfamgmicboae
open Go.RowKit Go.Proofs.YtdpcfamgmicboaeW.PrintWords Go.Proofs.YtdpcfamgmicboaeW.PrintLast Go.Proofs.YtdpcfamgmicboaeW.PrintMore
set_option linter.unusedVariables false
set_option linter.unusedSimpArgs false

/-- A queue at block g, its blocks in M: its items, its names, at most so many. -/
def IsQ (w : World) (base g : Nat) (M : Nat → Prop) (xs : List It) (S : ByteArray → Bool) (cnt : Nat) : Prop :=
  ∃ A c b, w.heap[g]? = some (.cells #[.bool true, .slice A xs.length c, .map (some b)] 46 (0, 0)) ∧ base ≤ g ∧ base ≤ b ∧ M g ∧ M b ∧ g ≠ b ∧ b < w.heap.size ∧ Kd.R PQ.k28 36 w base (fun k => M k ∧ k ≠ g ∧ k ≠ b) (.slice A xs.length c) xs ∧ HasMap w b cnt S
theorem is_any (g : Nat) (u v : Value) (w : World) (hg : w.heap[g]? = some (.cells #[.bool true, u, v] 46 (0, 0))) :
    Calls Try.prog 13 #[.pointer (some ⟨g, 0, none⟩)] w fun e w' => e = .returned (.bool true) ∧ w = w' := by
  have h0 : w.cell? ⟨g, 0, none⟩ = some (.bool true) := (blk_cell hg 0).trans rfl
  clear hg
  go_enter Try.func13, Try.ntmps13
  go_wp2
  go_ret
  exact ⟨rfl, rfl⟩
theorem is_nil (w : World) : Calls Try.prog 13 #[.pointer none] w fun e w' => e = .returned (.bool false) ∧ w = w' := by
  go_enter Try.func13, Try.ntmps13
  go_wp2
  go_ret
  exact ⟨rfl, rfl⟩
theorem len_nil' (w : World) : Calls Try.prog 11 #[.pointer none] w fun e w' => e = .returned (.int .i64 0) ∧ w = w' := by
  go_enter Try.func11, Try.ntmps11
  go_wp2_with fail
  refine (is_nil _).mono ?_
  rintro e w2 ⟨rfl, rfl⟩
  go_wp2
  go_ret
  exact ⟨rfl, rfl⟩
theorem len_any (g : Nat) (A : Option Addr) (n c : Nat) (v : Value) (w : World) (hg : w.heap[g]? = some (.cells #[.bool true, .slice A n c, v] 46 (0, 0))) :
    Calls Try.prog 11 #[.pointer (some ⟨g, 0, none⟩)] w fun e w' => e = .returned (.int .i64 n) ∧ w = w' := by
  have h1 : w.cell? ⟨g, 1, none⟩ = some (.slice A n c) := (blk_cell hg 1).trans rfl
  have HG := Lib.hid hg
  clear hg
  go_enter Try.func11, Try.ntmps11
  go_wp2_with fail
  refine (is_any g _ _ _ HG.out).mono ?_
  rintro e w2 ⟨rfl, rfl⟩
  go_wp2
  go_ret
  exact ⟨rfl, rfl⟩
theorem put_nil (x0 : ByteArray) (x1 x2 : Int) (w : World) : Calls Try.prog 9 #[.pointer none, .agg #[.string x0, .int .i64 x1, .int .i64 x2]] w fun e w' => e = .returned (.int .i64 9) ∧ Below w.heap.size w w' := by
  go_enter Try.func9, Try.ntmps9
  go_wp2_with fail
  refine (is_nil _).mono ?_
  rintro e w2 ⟨rfl, rfl⟩
  go_wp2
  go_ret
  exact ⟨rfl, below_alloc (Below.refl _ _) _⟩
/-- What is boxed. -/
abbrev boxI (x : It) : Obj := .cells #[.string x.f0, .int .i64 x.f1, .int .i64 x.f2] 36 (0, 0)
set_option maxHeartbeats 4000000 in
theorem put_there (g base cnt : Nat) (M : Nat → Prop) (xs : List It) (S : ByteArray → Bool) (w : World) (h : IsQ w base g M xs S cnt) (x : It) (hx : x.f0.size ≤ maxLen) (hS : S x.f0 = true) :
    Calls Try.prog 9 #[.pointer (some ⟨g, 0, none⟩), .agg #[.string x.f0, .int .i64 x.f1, .int .i64 x.f2]] w fun e w' => e = .returned (.int .i64 6) ∧ Below w.heap.size w w' := by
  obtain ⟨A, c, b, hg, hbg, hbb, hMg, hMb, hgb, hbl, hR, hm⟩ := h
  have HG := Lib.hid hg
  have HM := Lib.hid hm
  have HSX := Lib.hid hS
  have HR := Lib.hid hR
  have HGB := Lib.hid (show g ≠ w.heap.size ∧ b ≠ w.heap.size from ⟨fun e => by have := blk_lt hg; omega, by omega⟩)
  clear hg hm hS hR
  go_enter Try.func9, Try.ntmps9
  go_wp2_with fail
  have HX1 := Lib.hid (show (w.alloc (boxI x)).heap[w.heap.size]? = some (boxI x) by show (w.heap.push _)[w.heap.size]? = _; simp)
  have HB1 := Lib.hid (show Below w.heap.size w (w.alloc (boxI x)) from below_alloc (Below.refl _ _) _)
  have HS1 := Lib.hid (show (w.alloc (boxI x)).heap.size = w.heap.size + 1 from World.size_alloc _ _)
  generalize w.alloc (boxI x) = w1 at *
  have HG1 := Lib.hid ((HB1.out.block g (blk_lt HG.out)).trans HG.out)
  have HM1 := Lib.hid (HM.out.kept (grown_below (row := none) HB1.out) (by simp))
  have HR1 := Lib.hid (Kd.R_below HR.out HB1.out)
  refine (is_any g _ _ w1 HG1.out).mono ?_
  rintro e w2 ⟨rfl, hw2⟩
  subst hw2
  go_wp2
  have h0 : w1.drew.cell? ⟨g, 2, none⟩ = some (.map (some b)) := (blk_cell HG1.out 2).trans rfl
  have h1 : w1.drew.cell? ⟨w.heap.size, 0, none⟩ = some (.string x.f0) := (blk_cell HX1.out 0).trans rfl
  have hlk : Sem.run Try.prog (Instr.lookup 43 (.map (some b)) (.string x.f0) false) w1.drew = .ok (.bool (S x.f0)) w1.drew := HasMap.lookup (w := w1.drew) HM1.out x.f0 hx
  rw [HSX.out] at hlk
  refine start_ (n := 8) (S := fun w' => w'.cell? ⟨g, 2, none⟩ = some (.map (some b)) ∧ w'.cell? ⟨w.heap.size, 0, none⟩ = some (.string x.f0)) (ds := [6]) #[false, false, false, false, false, false, false, false] (by kernel_rfl) rfl rfl ⟨h0, h1⟩ (fun hHeld => ?_)
  refine pure_ (i := 0) (N := some 10) (v := ?_) (a' := ?_) #[true, false, false, false, false, false, false, false] rfl rfl (by kernel_rfl) (fun _ _ _ h => h) (Or.inl ⟨by rfl, ?_⟩) ?_ ?_
  rotate_left
  · intro w'
    go_simp
    with_reducible rfl
  rotate_left
  · simp only [Act.put, List.setIfInBounds_toArray, List.set_cons_zero, List.set_cons_succ, i64_w, i32_w]
    rfl
  refine pure_ (i := 1) (N := some 11) (v := ?_) (a' := ?_) #[true, true, false, false, false, false, false, false] rfl rfl (by kernel_rfl) (fun _ _ _ h => h) (Or.inl ⟨by rfl, ?_⟩) ?_ ?_
  rotate_left
  · intro w'
    go_simp
    with_reducible rfl
  rotate_left
  · simp only [Act.put, List.setIfInBounds_toArray, List.set_cons_zero, List.set_cons_succ, i64_w, i32_w]
    rfl
  refine pure_ (i := 2) (N := some 12) (v := ?_) (a' := ?_) #[true, true, true, false, false, false, false, false] rfl rfl (by kernel_rfl) (fun _ _ _ h => h) (Or.inl ⟨by rfl, ?_⟩) ?_ ?_
  rotate_left
  · intro w'
    go_simp
    with_reducible rfl
  rotate_left
  · simp only [Act.put, List.setIfInBounds_toArray, List.set_cons_zero, List.set_cons_succ, i64_w, i32_w]
    rfl
  refine pure_ (i := 4) (N := some 14) (v := ?_) (a' := ?_) #[true, true, true, false, true, false, false, false] rfl rfl (by kernel_rfl) (fun _ _ _ h => h) (Or.inl ⟨by rfl, ?_⟩) ?_ ?_
  rotate_left
  · intro w'
    go_simp
    with_reducible rfl
  rotate_left
  · simp only [Act.put, List.setIfInBounds_toArray, List.set_cons_zero, List.set_cons_succ, i64_w, i32_w]
    rfl
  refine take_ (i := 3) (N := some 13) (v := ?_) (a' := ?_) #[true, true, true, true, true, false, false, false] rfl rfl (by kernel_rfl) (fun _ _ _ h => h) (Or.inl ⟨by rfl, ?_⟩) hHeld ?_ ?_
  rotate_left
  · rintro w' ⟨s0, s1⟩
    go_simp
    with_reducible rfl
  rotate_left
  · simp only [Act.put, List.setIfInBounds_toArray, List.set_cons_zero, List.set_cons_succ, i64_w, i32_w]
    rfl
  refine take_ (i := 5) (N := some 15) (v := ?_) (a' := ?_) #[true, true, true, true, true, true, false, false] rfl rfl (by kernel_rfl) (fun _ _ _ h => h) (Or.inl ⟨by rfl, ?_⟩) hHeld ?_ ?_
  rotate_left
  · rintro w' ⟨s0, s1⟩
    go_simp
    with_reducible rfl
  rotate_left
  · simp only [Act.put, List.setIfInBounds_toArray, List.set_cons_zero, List.set_cons_succ, i64_w, i32_w]
    rfl
  refine last_ (i := 6) (N := some 16) #[true, true, true, true, true, true, true, false] rfl rfl (by kernel_rfl) (by decide) (fun K hK => ?_)
  refine value_ (w1 := ?_) (v := ?_) (by rfl) rfl ?_ ?_
  rotate_left 2
  · go_simp
    constructor
    · rfl
    · rfl
  refine hK.out _ _ ?_
  clear hK K
  refine norm_ (a' := ?_) ?_ ?_
  rotate_left
  · show Act.put _ (some 16) _ = _
    simp only [Act.put, List.setIfInBounds_toArray, List.set_cons_zero, List.set_cons_succ, i64_w, i32_w]
    rfl
  refine pure_ (i := 7) (N := some 9) (v := ?_) (a' := ?_) #[true, true, true, true, true, true, true, true] rfl rfl (by kernel_rfl) (fun _ _ _ h => h) (Or.inl ⟨by rfl, ?_⟩) ?_ ?_
  rotate_left
  · intro w'
    go_simp
    with_reducible rfl
  rotate_left
  · simp only [Act.put, List.setIfInBounds_toArray, List.set_cons_zero, List.set_cons_succ, i64_w, i32_w]
    rfl
  refine done_ (by kernel_rfl) ?_
  go_wp2
  go_ret
  exact ⟨rfl, below_dr HB1.out⟩
set_option maxHeartbeats 4000000 in
theorem put_many (g base cnt : Nat) (M : Nat → Prop) (xs : List It) (S : ByteArray → Bool) (w : World) (h : IsQ w base g M xs S cnt) (x : It) (hx : x.f0.size ≤ maxLen) (hS : S x.f0 = false) (hl : 200 ≤ xs.length) :
    Calls Try.prog 9 #[.pointer (some ⟨g, 0, none⟩), .agg #[.string x.f0, .int .i64 x.f1, .int .i64 x.f2]] w fun e w' => e = .returned (.int .i64 4) ∧ Below w.heap.size w w' := by
  obtain ⟨A, c, b, hg, hbg, hbb, hMg, hMb, hgb, hbl, hR, hm⟩ := h
  have HG := Lib.hid hg
  have HM := Lib.hid hm
  have HSX := Lib.hid hS
  have HR := Lib.hid hR
  have HGB := Lib.hid (show g ≠ w.heap.size ∧ b ≠ w.heap.size from ⟨fun e => by have := blk_lt hg; omega, by omega⟩)
  clear hg hm hS hR
  go_enter Try.func9, Try.ntmps9
  go_wp2_with fail
  have HX1 := Lib.hid (show (w.alloc (boxI x)).heap[w.heap.size]? = some (boxI x) by show (w.heap.push _)[w.heap.size]? = _; simp)
  have HB1 := Lib.hid (show Below w.heap.size w (w.alloc (boxI x)) from below_alloc (Below.refl _ _) _)
  have HS1 := Lib.hid (show (w.alloc (boxI x)).heap.size = w.heap.size + 1 from World.size_alloc _ _)
  generalize w.alloc (boxI x) = w1 at *
  have HG1 := Lib.hid ((HB1.out.block g (blk_lt HG.out)).trans HG.out)
  have HM1 := Lib.hid (HM.out.kept (grown_below (row := none) HB1.out) (by simp))
  have HR1 := Lib.hid (Kd.R_below HR.out HB1.out)
  refine (is_any g _ _ w1 HG1.out).mono ?_
  rintro e w2 ⟨rfl, hw2⟩
  subst hw2
  go_wp2
  have h0 : w1.drew.cell? ⟨g, 2, none⟩ = some (.map (some b)) := (blk_cell HG1.out 2).trans rfl
  have h1 : w1.drew.cell? ⟨w.heap.size, 0, none⟩ = some (.string x.f0) := (blk_cell HX1.out 0).trans rfl
  have hlk : Sem.run Try.prog (Instr.lookup 43 (.map (some b)) (.string x.f0) false) w1.drew = .ok (.bool (S x.f0)) w1.drew := HasMap.lookup (w := w1.drew) HM1.out x.f0 hx
  rw [HSX.out] at hlk
  refine start_ (n := 8) (S := fun w' => w'.cell? ⟨g, 2, none⟩ = some (.map (some b)) ∧ w'.cell? ⟨w.heap.size, 0, none⟩ = some (.string x.f0)) (ds := [6]) #[false, false, false, false, false, false, false, false] (by kernel_rfl) rfl rfl ⟨h0, h1⟩ (fun hHeld => ?_)
  refine pure_ (i := 0) (N := some 10) (v := ?_) (a' := ?_) #[true, false, false, false, false, false, false, false] rfl rfl (by kernel_rfl) (fun _ _ _ h => h) (Or.inl ⟨by rfl, ?_⟩) ?_ ?_
  rotate_left
  · intro w'
    go_simp
    with_reducible rfl
  rotate_left
  · simp only [Act.put, List.setIfInBounds_toArray, List.set_cons_zero, List.set_cons_succ, i64_w, i32_w]
    rfl
  refine pure_ (i := 1) (N := some 11) (v := ?_) (a' := ?_) #[true, true, false, false, false, false, false, false] rfl rfl (by kernel_rfl) (fun _ _ _ h => h) (Or.inl ⟨by rfl, ?_⟩) ?_ ?_
  rotate_left
  · intro w'
    go_simp
    with_reducible rfl
  rotate_left
  · simp only [Act.put, List.setIfInBounds_toArray, List.set_cons_zero, List.set_cons_succ, i64_w, i32_w]
    rfl
  refine pure_ (i := 2) (N := some 12) (v := ?_) (a' := ?_) #[true, true, true, false, false, false, false, false] rfl rfl (by kernel_rfl) (fun _ _ _ h => h) (Or.inl ⟨by rfl, ?_⟩) ?_ ?_
  rotate_left
  · intro w'
    go_simp
    with_reducible rfl
  rotate_left
  · simp only [Act.put, List.setIfInBounds_toArray, List.set_cons_zero, List.set_cons_succ, i64_w, i32_w]
    rfl
  refine pure_ (i := 4) (N := some 14) (v := ?_) (a' := ?_) #[true, true, true, false, true, false, false, false] rfl rfl (by kernel_rfl) (fun _ _ _ h => h) (Or.inl ⟨by rfl, ?_⟩) ?_ ?_
  rotate_left
  · intro w'
    go_simp
    with_reducible rfl
  rotate_left
  · simp only [Act.put, List.setIfInBounds_toArray, List.set_cons_zero, List.set_cons_succ, i64_w, i32_w]
    rfl
  refine take_ (i := 3) (N := some 13) (v := ?_) (a' := ?_) #[true, true, true, true, true, false, false, false] rfl rfl (by kernel_rfl) (fun _ _ _ h => h) (Or.inl ⟨by rfl, ?_⟩) hHeld ?_ ?_
  rotate_left
  · rintro w' ⟨s0, s1⟩
    go_simp
    with_reducible rfl
  rotate_left
  · simp only [Act.put, List.setIfInBounds_toArray, List.set_cons_zero, List.set_cons_succ, i64_w, i32_w]
    rfl
  refine take_ (i := 5) (N := some 15) (v := ?_) (a' := ?_) #[true, true, true, true, true, true, false, false] rfl rfl (by kernel_rfl) (fun _ _ _ h => h) (Or.inl ⟨by rfl, ?_⟩) hHeld ?_ ?_
  rotate_left
  · rintro w' ⟨s0, s1⟩
    go_simp
    with_reducible rfl
  rotate_left
  · simp only [Act.put, List.setIfInBounds_toArray, List.set_cons_zero, List.set_cons_succ, i64_w, i32_w]
    rfl
  refine last_ (i := 6) (N := some 16) #[true, true, true, true, true, true, true, false] rfl rfl (by kernel_rfl) (by decide) (fun K hK => ?_)
  refine value_ (w1 := ?_) (v := ?_) (by rfl) rfl ?_ ?_
  rotate_left 2
  · go_simp
    constructor
    · rfl
    · rfl
  refine hK.out _ _ ?_
  clear hK K
  refine norm_ (a' := ?_) ?_ ?_
  rotate_left
  · show Act.put _ (some 16) _ = _
    simp only [Act.put, List.setIfInBounds_toArray, List.set_cons_zero, List.set_cons_succ, i64_w, i32_w]
    rfl
  refine pure_ (i := 7) (N := some 9) (v := ?_) (a' := ?_) #[true, true, true, true, true, true, true, true] rfl rfl (by kernel_rfl) (fun _ _ _ h => h) (Or.inl ⟨by rfl, ?_⟩) ?_ ?_
  rotate_left
  · intro w'
    go_simp
    with_reducible rfl
  rotate_left
  · simp only [Act.put, List.setIfInBounds_toArray, List.set_cons_zero, List.set_cons_succ, i64_w, i32_w]
    rfl
  refine done_ (by kernel_rfl) ?_
  have h2 : w1.drew.cell? ⟨g, 1, none⟩ = some (.slice A xs.length c) := (blk_cell HG1.out 1).trans rfl
  have hl2 : (200 : Int) ≤ (xs.length : Int) := by omega
  go_wp2
  go_ret
  exact ⟨rfl, below_dr HB1.out⟩
theorem info36 : (Try.prog.info? 36).map (fun i => (i.zero, i.size, i.bytes)) = some (some (.agg #[.string ⟨#[]⟩, .int .i64 0, .int .i64 0]), 3, 32) := by kernel_rfl
theorem upF_len : ∀ (f : Nat) (xs : List It) (i : Nat), (upF f xs i).length = xs.length
  | 0, _, _ => rfl
  | f + 1, xs, i => by
    unfold upF
    split
    · split
      · rfl
      · rw [upF_len f, swapL_len]
    · rfl
theorem below_grown {base : Nat} {w W W2 : World} {row : Option Nat} (h : Below base w W) (hg : W.grownBy W2 row) (hr : ∀ k, row = some k → base ≤ k) (hbs : base ≤ W.heap.size) : Below base w W2 :=
  ⟨hg.os.trans h.os, hg.tape.trans h.tape, hg.output.trans h.output, Nat.le_trans h.size hg.size, fun k hk => (hg.block k (by omega) (fun e => by have := hr k e.symm; omega)).trans (h.block k hk)⟩
theorem grown_dr {a b : World} {row : Option Nat} (h : a.drew.grownBy b row) : a.grownBy b row := ⟨h.os, h.tape, h.output, h.size, h.block⟩
theorem Below.low_ {N base : Nat} {w W : World} (h : Below N w W) (hb : base ≤ N) : Below base w W := ⟨h.os, h.tape, h.output, h.size, fun k hk => h.block k (Nat.lt_of_lt_of_le hk hb)⟩
theorem HasMap.setCell {w : World} {b cnt : Nat} {S : ByteArray → Bool} (h : HasMap w b cnt S) {a : Addr} (hne : b ≠ a.block) (v : Value) : HasMap (w.setCell a v) b cnt S := by
  obtain ⟨D, hD, hS⟩ := h
  exact ⟨D, hD.setCell hne v, hS⟩
set_option maxHeartbeats 8000000 in
theorem put_new (g base cnt : Nat) (M : Nat → Prop) (xs : List It) (S : ByteArray → Bool) (w : World) (h : IsQ w base g M xs S cnt) (x : It) (hx : x.f0.size ≤ maxLen) (hS : S x.f0 = false) (hl : xs.length < 200) (hcnt : cnt < 1000000) (hbase : base ≤ w.heap.size) :
    Calls Try.prog 9 #[.pointer (some ⟨g, 0, none⟩), .agg #[.string x.f0, .int .i64 x.f1, .int .i64 x.f2]] w fun e w' => e = .returned (.int .i64 0) ∧ IsQ w' base g (fun k => M k ∨ w.heap.size ≤ k ∧ k < w'.heap.size) (upF xs.length (xs ++ [x]) xs.length) (fun t => decide (t = x.f0) || S t) (cnt + 1) ∧ Kept w w' M ∧ Below base w w' := by
  obtain ⟨A, c, b, hg, hbg, hbb, hMg, hMb, hgb, hbl, hR, hm⟩ := h
  have HG := Lib.hid hg
  have HM := Lib.hid hm
  have HSX := Lib.hid hS
  have HR := Lib.hid hR
  have HGB := Lib.hid (show g ≠ w.heap.size ∧ b ≠ w.heap.size from ⟨fun e => by have := blk_lt hg; omega, by omega⟩)
  clear hg hm hS hR
  go_enter Try.func9, Try.ntmps9
  go_wp2_with fail
  have HX1 := Lib.hid (show (w.alloc (boxI x)).heap[w.heap.size]? = some (boxI x) by show (w.heap.push _)[w.heap.size]? = _; simp)
  have HB1 := Lib.hid (show Below w.heap.size w (w.alloc (boxI x)) from below_alloc (Below.refl _ _) _)
  have HS1 := Lib.hid (show (w.alloc (boxI x)).heap.size = w.heap.size + 1 from World.size_alloc _ _)
  generalize w.alloc (boxI x) = w1 at *
  have HG1 := Lib.hid ((HB1.out.block g (blk_lt HG.out)).trans HG.out)
  have HM1 := Lib.hid (HM.out.kept (grown_below (row := none) HB1.out) (by simp))
  have HR1 := Lib.hid (Kd.R_below HR.out HB1.out)
  refine (is_any g _ _ w1 HG1.out).mono ?_
  rintro e w2 ⟨rfl, hw2⟩
  subst hw2
  go_wp2
  have h0 : w1.drew.cell? ⟨g, 2, none⟩ = some (.map (some b)) := (blk_cell HG1.out 2).trans rfl
  have h1 : w1.drew.cell? ⟨w.heap.size, 0, none⟩ = some (.string x.f0) := (blk_cell HX1.out 0).trans rfl
  have hlk : Sem.run Try.prog (Instr.lookup 43 (.map (some b)) (.string x.f0) false) w1.drew = .ok (.bool (S x.f0)) w1.drew := HasMap.lookup (w := w1.drew) HM1.out x.f0 hx
  rw [HSX.out] at hlk
  refine start_ (n := 8) (S := fun w' => w'.cell? ⟨g, 2, none⟩ = some (.map (some b)) ∧ w'.cell? ⟨w.heap.size, 0, none⟩ = some (.string x.f0)) (ds := [6]) #[false, false, false, false, false, false, false, false] (by kernel_rfl) rfl rfl ⟨h0, h1⟩ (fun hHeld => ?_)
  refine pure_ (i := 0) (N := some 10) (v := ?_) (a' := ?_) #[true, false, false, false, false, false, false, false] rfl rfl (by kernel_rfl) (fun _ _ _ h => h) (Or.inl ⟨by rfl, ?_⟩) ?_ ?_
  rotate_left
  · intro w'
    go_simp
    with_reducible rfl
  rotate_left
  · simp only [Act.put, List.setIfInBounds_toArray, List.set_cons_zero, List.set_cons_succ, i64_w, i32_w]
    rfl
  refine pure_ (i := 1) (N := some 11) (v := ?_) (a' := ?_) #[true, true, false, false, false, false, false, false] rfl rfl (by kernel_rfl) (fun _ _ _ h => h) (Or.inl ⟨by rfl, ?_⟩) ?_ ?_
  rotate_left
  · intro w'
    go_simp
    with_reducible rfl
  rotate_left
  · simp only [Act.put, List.setIfInBounds_toArray, List.set_cons_zero, List.set_cons_succ, i64_w, i32_w]
    rfl
  refine pure_ (i := 2) (N := some 12) (v := ?_) (a' := ?_) #[true, true, true, false, false, false, false, false] rfl rfl (by kernel_rfl) (fun _ _ _ h => h) (Or.inl ⟨by rfl, ?_⟩) ?_ ?_
  rotate_left
  · intro w'
    go_simp
    with_reducible rfl
  rotate_left
  · simp only [Act.put, List.setIfInBounds_toArray, List.set_cons_zero, List.set_cons_succ, i64_w, i32_w]
    rfl
  refine pure_ (i := 4) (N := some 14) (v := ?_) (a' := ?_) #[true, true, true, false, true, false, false, false] rfl rfl (by kernel_rfl) (fun _ _ _ h => h) (Or.inl ⟨by rfl, ?_⟩) ?_ ?_
  rotate_left
  · intro w'
    go_simp
    with_reducible rfl
  rotate_left
  · simp only [Act.put, List.setIfInBounds_toArray, List.set_cons_zero, List.set_cons_succ, i64_w, i32_w]
    rfl
  refine take_ (i := 3) (N := some 13) (v := ?_) (a' := ?_) #[true, true, true, true, true, false, false, false] rfl rfl (by kernel_rfl) (fun _ _ _ h => h) (Or.inl ⟨by rfl, ?_⟩) hHeld ?_ ?_
  rotate_left
  · rintro w' ⟨s0, s1⟩
    go_simp
    with_reducible rfl
  rotate_left
  · simp only [Act.put, List.setIfInBounds_toArray, List.set_cons_zero, List.set_cons_succ, i64_w, i32_w]
    rfl
  refine take_ (i := 5) (N := some 15) (v := ?_) (a' := ?_) #[true, true, true, true, true, true, false, false] rfl rfl (by kernel_rfl) (fun _ _ _ h => h) (Or.inl ⟨by rfl, ?_⟩) hHeld ?_ ?_
  rotate_left
  · rintro w' ⟨s0, s1⟩
    go_simp
    with_reducible rfl
  rotate_left
  · simp only [Act.put, List.setIfInBounds_toArray, List.set_cons_zero, List.set_cons_succ, i64_w, i32_w]
    rfl
  refine last_ (i := 6) (N := some 16) #[true, true, true, true, true, true, true, false] rfl rfl (by kernel_rfl) (by decide) (fun K hK => ?_)
  refine value_ (w1 := ?_) (v := ?_) (by rfl) rfl ?_ ?_
  rotate_left 2
  · go_simp
    constructor
    · rfl
    · rfl
  refine hK.out _ _ ?_
  clear hK K
  refine norm_ (a' := ?_) ?_ ?_
  rotate_left
  · show Act.put _ (some 16) _ = _
    simp only [Act.put, List.setIfInBounds_toArray, List.set_cons_zero, List.set_cons_succ, i64_w, i32_w]
    rfl
  refine pure_ (i := 7) (N := some 9) (v := ?_) (a' := ?_) #[true, true, true, true, true, true, true, true] rfl rfl (by kernel_rfl) (fun _ _ _ h => h) (Or.inl ⟨by rfl, ?_⟩) ?_ ?_
  rotate_left
  · intro w'
    go_simp
    with_reducible rfl
  rotate_left
  · simp only [Act.put, List.setIfInBounds_toArray, List.set_cons_zero, List.set_cons_succ, i64_w, i32_w]
    rfl
  refine done_ (by kernel_rfl) ?_
  have h2 : w1.drew.cell? ⟨g, 1, none⟩ = some (.slice A xs.length c) := (blk_cell HG1.out 1).trans rfl
  have hl2 : ¬ (200 : Int) ≤ (xs.length : Int) := by omega
  go_wp2
  clear h0 h1 h2 hlk
  have HGa := Lib.hid (show w1.drew.heap[g]? = _ from HG1.out)
  have HXa := Lib.hid (show w1.drew.heap[w.heap.size]? = _ from HX1.out)
  have HMa := Lib.hid (show HasMap w1.drew b cnt S from HM1.out)
  have HRa := Lib.hid (Kd.R_drew HR1.out)
  have HBa := Lib.hid (below_dr HB1.out)
  have HSa := Lib.hid (show w1.drew.heap.size = w.heap.size + 1 from HS1.out)
  generalize w1.drew = wa at *
  have h2 : wa.drew.cell? ⟨g, 1, none⟩ = some (.slice A xs.length c) := (blk_cell HGa.out 1).trans rfl
  have hx0 : wa.drew.cell? ⟨w.heap.size, 0, none⟩ = some (.string x.f0) := (blk_cell HXa.out 0).trans rfl
  have hx1 : wa.drew.cell? ⟨w.heap.size, 1, none⟩ = some (.int .i64 x.f1) := (blk_cell HXa.out 1).trans rfl
  have hx2 : wa.drew.cell? ⟨w.heap.size, 2, none⟩ = some (.int .i64 x.f2) := (blk_cell HXa.out 2).trans rfl
  have OKN := Lib.hid (show ∀ k, wa.drew.heap.size ≤ k → (M k ∨ w.heap.size ≤ k) ∧ k ≠ g ∧ k ≠ b from fun k hk => by
    have h1 := HSa.out
    have h2 := blk_lt HG.out
    have hk2 : wa.heap.size ≤ k := hk
    exact ⟨.inr (by omega), by omega, by omega⟩)
  refine start_ (n := 11) (S := fun w' => w'.cell? ⟨g, 1, none⟩ = some (.slice A xs.length c) ∧ w'.cell? ⟨w.heap.size, 0, none⟩ = some (.string x.f0) ∧ w'.cell? ⟨w.heap.size, 1, none⟩ = some (.int .i64 x.f1) ∧ w'.cell? ⟨w.heap.size, 2, none⟩ = some (.int .i64 x.f2)) (ds := [7, 10]) #[false, false, false, false, false, false, false, false, false, false, false] (by kernel_rfl) rfl rfl ⟨h2, hx0, hx1, hx2⟩ (fun hHeld => ?_)
  refine pure_ (i := 0) (N := some 24) (v := ?_) (a' := ?_) #[true, false, false, false, false, false, false, false, false, false, false] rfl rfl (by kernel_rfl) (fun _ _ _ h => h) (Or.inl ⟨by rfl, ?_⟩) ?_ ?_
  rotate_left
  · intro w'
    go_simp
    with_reducible rfl
  rotate_left
  · simp only [Act.put, List.setIfInBounds_toArray, List.set_cons_zero, List.set_cons_succ, i64_w, i32_w]
    rfl
  refine pure_ (i := 1) (N := some 25) (v := ?_) (a' := ?_) #[true, true, false, false, false, false, false, false, false, false, false] rfl rfl (by kernel_rfl) (fun _ _ _ h => h) (Or.inl ⟨by rfl, ?_⟩) ?_ ?_
  rotate_left
  · intro w'
    go_simp
    with_reducible rfl
  rotate_left
  · simp only [Act.put, List.setIfInBounds_toArray, List.set_cons_zero, List.set_cons_succ, i64_w, i32_w]
    rfl
  refine pure_ (i := 2) (N := some 26) (v := ?_) (a' := ?_) #[true, true, true, false, false, false, false, false, false, false, false] rfl rfl (by kernel_rfl) (fun _ _ _ h => h) (Or.inl ⟨by rfl, ?_⟩) ?_ ?_
  rotate_left
  · intro w'
    go_simp
    with_reducible rfl
  rotate_left
  · simp only [Act.put, List.setIfInBounds_toArray, List.set_cons_zero, List.set_cons_succ, i64_w, i32_w]
    rfl
  refine pure_ (i := 3) (N := some 27) (v := ?_) (a' := ?_) #[true, true, true, true, false, false, false, false, false, false, false] rfl rfl (by kernel_rfl) (fun _ _ _ h => h) (Or.inl ⟨by rfl, ?_⟩) ?_ ?_
  rotate_left
  · intro w'
    go_simp
    with_reducible rfl
  rotate_left
  · simp only [Act.put, List.setIfInBounds_toArray, List.set_cons_zero, List.set_cons_succ, i64_w, i32_w]
    rfl
  refine take_ (i := 4) (N := some 28) (v := ?_) (a' := ?_) #[true, true, true, true, true, false, false, false, false, false, false] rfl rfl (by kernel_rfl) (fun _ _ _ h => h) (Or.inl ⟨by rfl, ?_⟩) hHeld ?_ ?_
  rotate_left
  · rintro w' ⟨s0, s1, s2, s3⟩
    go_simp
    with_reducible rfl
  rotate_left
  · simp only [Act.put, List.setIfInBounds_toArray, List.set_cons_zero, List.set_cons_succ, i64_w, i32_w]
    rfl
  refine take_ (i := 5) (N := some 29) (v := ?_) (a' := ?_) #[true, true, true, true, true, true, false, false, false, false, false] rfl rfl (by kernel_rfl) (fun _ _ _ h => h) (Or.inl ⟨by rfl, ?_⟩) hHeld ?_ ?_
  rotate_left
  · rintro w' ⟨s0, s1, s2, s3⟩
    go_simp
    with_reducible rfl
  rotate_left
  · simp only [Act.put, List.setIfInBounds_toArray, List.set_cons_zero, List.set_cons_succ, i64_w, i32_w]
    rfl
  refine one_ (i := 6) (N := some 30) #[true, true, true, true, true, true, true, false, false, false, false] rfl rfl (by kernel_rfl) (by decide) (fun K hK => ?_)
  refine value_ (w1 := ?_) (v := ?_) (by rfl) rfl ?_ ?_
  rotate_left 2
  · go_simp
    constructor
    · rfl
    · rfl
  refine hK.out _ _ ⟨(World.cell?_alloc_lt _ _ _ (World.block_lt_of_cell? _ _ h2)).trans h2, (World.cell?_alloc_lt _ _ _ (World.block_lt_of_cell? _ _ hx0)).trans hx0, (World.cell?_alloc_lt _ _ _ (World.block_lt_of_cell? _ _ hx1)).trans hx1, (World.cell?_alloc_lt _ _ _ (World.block_lt_of_cell? _ _ hx2)).trans hx2⟩ (fun hHeld => ?_)
  clear hK K
  refine norm_ (a' := ?_) ?_ ?_
  rotate_left
  · show Act.put _ (some 30) _ = _
    simp only [Act.put, List.setIfInBounds_toArray, List.set_cons_zero, List.set_cons_succ, i64_w, i32_w]
    rfl
  refine last_ (i := 7) (N := some 31) #[true, true, true, true, true, true, true, true, false, false, false] rfl rfl (by kernel_rfl) (by decide) (fun K hK => ?_)
  refine Kd.R_append_step PQ.k28 (w0 := w) base (by rfl) (.tmp 28) (.tmp 30) 44 36 (.agg #[.string ⟨#[]⟩, .int .i64 0, .int .i64 0]) 32 rfl Try.underlying44 info36 rfl (by decide) (by decide) (.slice A xs.length c) xs x [.string x.f0, .int .i64 x.f1, .int .i64 x.f2] (fun k => (M k ∨ w.heap.size ≤ k) ∧ k ≠ g ∧ k ≠ b) (fun _ => False) rfl rfl (PQ.k28_mkM _ _ _ x) (fun _ hk => hk.elim) (fun k hk => OKN.out k hk) (Kd.R_mono (Kd.R_drew HRa.out) (fun k hk => ⟨.inl hk.1, hk.2.1, hk.2.2⟩)) (below_dr (Below.low_ HBa.out hbase)) (Nat.le_trans hbase HBa.out.size) (by omega) ?_
  intro v6 w6 ho6 hb6 hg6 hat6
  obtain ⟨A6, c6, hv6⟩ := Kd.R_slice ho6
  obtain ⟨n6, hn6⟩ : ∃ n6, n6 = (xs ++ [x]).length := ⟨_, rfl⟩
  rw [← hn6] at hv6
  subst hv6
  have HN6 := Lib.hid hn6
  clear hn6
  have HO6 := Lib.hid ho6
  have HB6 := Lib.hid hb6
  have HG6 := Lib.hid hg6
  clear ho6 hb6 hg6 hat6
  have hgg := (HG6.out.block g (blk_lt HGa.out) (fun e => HR.out.1 g e.symm |>.2.1 rfl)).trans HGa.out
  have HGG := Lib.hid hgg
  have hc6 : w6.cell? ⟨g, 1, none⟩ = some (.slice A xs.length c) := (blk_cell hgg 1).trans rfl
  have hf6 := blk_frozen hgg 1
  clear hgg
  refine hK.out _ _ ?_
  clear hK K
  refine norm_ (a' := ?_) ?_ ?_
  rotate_left
  · show Act.put _ (some 31) _ = _
    simp only [Act.put, List.setIfInBounds_toArray, List.set_cons_zero, List.set_cons_succ, i64_w, i32_w]
    rfl
  refine pure_ (i := 8) (N := some 32) (v := ?_) (a' := ?_) #[true, true, true, true, true, true, true, true, true, false, false] rfl rfl (by kernel_rfl) (fun _ _ _ h => h) (Or.inl ⟨by rfl, ?_⟩) ?_ ?_
  rotate_left
  · intro w'
    go_simp
    with_reducible rfl
  rotate_left
  · simp only [Act.put, List.setIfInBounds_toArray, List.set_cons_zero, List.set_cons_succ, i64_w, i32_w]
    rfl
  refine pure_ (i := 9) (N := some 33) (v := ?_) (a' := ?_) #[true, true, true, true, true, true, true, true, true, true, false] rfl rfl (by kernel_rfl) (fun _ _ _ h => h) (Or.inl ⟨by rfl, ?_⟩) ?_ ?_
  rotate_left
  · intro w'
    go_simp
    with_reducible rfl
  rotate_left
  · simp only [Act.put, List.setIfInBounds_toArray, List.set_cons_zero, List.set_cons_succ, i64_w, i32_w]
    rfl
  refine last_ (i := 10) (N := none) #[true, true, true, true, true, true, true, true, true, true, true] rfl rfl (by kernel_rfl) (by decide) (fun K hK => ?_)
  refine skip_ (w1 := ?_) (by rfl) rfl ?_ ?_
  rotate_left
  · go_simp
    rfl
  refine hK.out _ _ ?_
  clear hK K
  refine done_ (by kernel_rfl) ?_
  go_wp2
  have hw7 := Lib.hid (blk_set HGG.out 1 (.slice A6 n6 c6))
  have hr7 := Lib.hid (Kd.R_far (p := ⟨g, 1, none⟩) HO6.out (fun k hk => hk.2.1) (.slice A6 n6 c6))
  have hb7 := Lib.hid (Below.setCell HB6.out (p := ⟨g, 1, none⟩) hbg (.slice A6 n6 c6))
  have hxn : w.heap.size ≠ g := fun e => HGB.out.1 e.symm
  have hrow : ∀ r, (Value.slice A xs.length c).ownBlock = some r → r ≠ g ∧ r ≠ b ∧ r < w.heap.size := fun r e => ⟨(HR.out.1 r e).2.1, (HR.out.1 r e).2.2, Kd.R_lt HR.out r e⟩
  have hx6 : w6.heap[w.heap.size]? = some (boxI x) := (HG6.out.block _ (blk_lt HXa.out) (fun e => by have := (hrow _ e.symm).2.2; omega)).trans HXa.out
  have hx7 := Lib.hid (show (w6.setCell ⟨g, 1, none⟩ (.slice A6 n6 c6)).heap[w.heap.size]? = some (boxI x) by rw [Below.heap_setCell _ _ _ _ hxn]; exact hx6)
  have hm6 := HMa.out.kept (grown_dr HG6.out) (fun e => (hrow _ e.symm).2.1 rfl)
  have hm7 := Lib.hid (show HasMap (w6.setCell ⟨g, 1, none⟩ (.slice A6 n6 c6)) b cnt S from hm6.setCell (fun e => hgb e.symm) _)
  have hs7 := Lib.hid (show w.heap.size < (w6.setCell ⟨g, 1, none⟩ (.slice A6 n6 c6)).heap.size from blk_lt hx7.out)
  have hsz6 := Lib.hid (show wa.heap.size ≤ (w6.setCell ⟨g, 1, none⟩ (.slice A6 n6 c6)).heap.size by
    have e : (w6.setCell ⟨g, 1, none⟩ (.slice A6 n6 c6)).heap.size = w6.heap.size := by simp [World.setCell]
    rw [e]
    exact HG6.out.size)
  have hk7 := Lib.hid (show Kept w (w6.setCell ⟨g, 1, none⟩ (.slice A6 n6 c6)) M from
    (Kept.of_grown (grown_dr HG6.out) (Kept.of_below HBa.out M) (fun r e => .inl (HR.out.1 r e.symm.symm).1)).setCell (p := ⟨g, 1, none⟩) (.inl hMg) _)
  clear hx6 hm6
  generalize w6.setCell ⟨g, 1, none⟩ (.slice A6 n6 c6) = w7 at *
  have h0 : w7.drew.cell? ⟨g, 2, none⟩ = some (.map (some b)) := (blk_cell hw7.out 2).trans rfl
  have h1 : w7.drew.cell? ⟨w.heap.size, 0, none⟩ = some (.string x.f0) := (blk_cell hx7.out 0).trans rfl
  obtain ⟨w8, hrun8, hm8, hg8⟩ := HasMap.put (w := w7.drew) hm7.out (by unfold maxLen; omega) x.f0 hx
  have HM8 := Lib.hid hm8
  have HG8 := Lib.hid (show w7.grownBy w8 (some b) from ⟨hg8.os, hg8.tape, hg8.output, hg8.size, hg8.block⟩)
  clear hm8 hg8
  refine start_ (n := 7) (S := fun w' => w'.cell? ⟨g, 2, none⟩ = some (.map (some b)) ∧ w'.cell? ⟨w.heap.size, 0, none⟩ = some (.string x.f0)) (ds := [6]) #[false, false, false, false, false, false, false] (by kernel_rfl) rfl rfl ⟨h0, h1⟩ (fun hHeld => ?_)
  refine pure_ (i := 0) (N := some 34) (v := ?_) (a' := ?_) #[true, false, false, false, false, false, false] rfl rfl (by kernel_rfl) (fun _ _ _ h => h) (Or.inl ⟨by rfl, ?_⟩) ?_ ?_
  rotate_left
  · intro w'
    go_simp
    with_reducible rfl
  rotate_left
  · simp only [Act.put, List.setIfInBounds_toArray, List.set_cons_zero, List.set_cons_succ, i64_w, i32_w]
    rfl
  refine pure_ (i := 1) (N := some 35) (v := ?_) (a' := ?_) #[true, true, false, false, false, false, false] rfl rfl (by kernel_rfl) (fun _ _ _ h => h) (Or.inl ⟨by rfl, ?_⟩) ?_ ?_
  rotate_left
  · intro w'
    go_simp
    with_reducible rfl
  rotate_left
  · simp only [Act.put, List.setIfInBounds_toArray, List.set_cons_zero, List.set_cons_succ, i64_w, i32_w]
    rfl
  refine pure_ (i := 2) (N := some 36) (v := ?_) (a' := ?_) #[true, true, true, false, false, false, false] rfl rfl (by kernel_rfl) (fun _ _ _ h => h) (Or.inl ⟨by rfl, ?_⟩) ?_ ?_
  rotate_left
  · intro w'
    go_simp
    with_reducible rfl
  rotate_left
  · simp only [Act.put, List.setIfInBounds_toArray, List.set_cons_zero, List.set_cons_succ, i64_w, i32_w]
    rfl
  refine pure_ (i := 4) (N := some 38) (v := ?_) (a' := ?_) #[true, true, true, false, true, false, false] rfl rfl (by kernel_rfl) (fun _ _ _ h => h) (Or.inl ⟨by rfl, ?_⟩) ?_ ?_
  rotate_left
  · intro w'
    go_simp
    with_reducible rfl
  rotate_left
  · simp only [Act.put, List.setIfInBounds_toArray, List.set_cons_zero, List.set_cons_succ, i64_w, i32_w]
    rfl
  refine take_ (i := 3) (N := some 37) (v := ?_) (a' := ?_) #[true, true, true, true, true, false, false] rfl rfl (by kernel_rfl) (fun _ _ _ h => h) (Or.inl ⟨by rfl, ?_⟩) hHeld ?_ ?_
  rotate_left
  · rintro w' ⟨s0, s1⟩
    go_simp
    with_reducible rfl
  rotate_left
  · simp only [Act.put, List.setIfInBounds_toArray, List.set_cons_zero, List.set_cons_succ, i64_w, i32_w]
    rfl
  refine take_ (i := 5) (N := some 39) (v := ?_) (a' := ?_) #[true, true, true, true, true, true, false] rfl rfl (by kernel_rfl) (fun _ _ _ h => h) (Or.inl ⟨by rfl, ?_⟩) hHeld ?_ ?_
  rotate_left
  · rintro w' ⟨s0, s1⟩
    go_simp
    with_reducible rfl
  rotate_left
  · simp only [Act.put, List.setIfInBounds_toArray, List.set_cons_zero, List.set_cons_succ, i64_w, i32_w]
    rfl
  refine last_ (i := 6) (N := none) #[true, true, true, true, true, true, true] rfl rfl (by kernel_rfl) (by decide) (fun K hK => ?_)
  refine skip_ (w1 := ?_) (by rfl) rfl ?_ ?_
  rotate_left
  · go_simp
    rfl
  refine hK.out _ _ ?_
  clear hK K
  refine done_ (by kernel_rfl) ?_
  have hgw8 := (HG8.out.block g (blk_lt hw7.out) (fun e => by injection e with e; exact hgb e)).trans hw7.out
  have HW8 := Lib.hid (show w8.heap[g]? = some (.cells #[.bool true, .slice A6 n6 c6, .map (some b)] 46 (0, 0)) from hgw8)
  have h3 : w8.cell? ⟨g, 1, none⟩ = some (.slice A6 n6 c6) := (blk_cell HW8.out 1).trans rfl
  have hn6 : n6 = xs.length + 1 := by have := HN6.out; rw [List.length_append] at this; exact this
  have hn7 : xs.length < n6 := by omega
  have hn8 : n6 ≤ 1000000 := by omega
  have hn46 : (n6 : Int) - 1 = (xs.length : Int) := by omega
  have HR8 := Lib.hid (Kd.R_grown hr7.out HG8.out (fun k hk => by intro e; injection e with e; exact hk.2.2 e))
  have HUP := Lib.hid (up_any g A6 n6 c6 (.map (some b)) (xs ++ [x]) w8 base _ HW8.out HN6.out.symm HR8.out (fun k hk => hk.2.1) xs.length hn7 hn8)
  clear hgw8 hn6 hrun8 h0 h1
  go_wp2_with fail
  refine HUP.out.mono ?_
  rintro e w9 ⟨rfl, hR9, hg9⟩
  have HR9 := Lib.hid hR9
  have HG9 := Lib.hid hg9
  clear hR9 hg9
  go_wp2
  go_ret
  have hlen : (upF xs.length (xs ++ [x]) xs.length).length = n6 := by rw [upF_len]; exact HN6.out.symm
  have hown : ∀ r, (Value.slice A6 n6 c6).ownBlock = some r → (M r ∨ w.heap.size ≤ r) ∧ r ≠ g ∧ r ≠ b := fun r e => HR8.out.1 r e
  have hsz : base ≤ w7.heap.size := Nat.le_trans hbase (Nat.le_of_lt hs7.out)
  have hbb8 := below_grown hb7.out HG8.out (fun k e => by injection e with e; omega) hsz
  refine ⟨rfl, ⟨A6, c6, b, ?_, hbg, hbb, .inl hMg, .inl hMb, hgb, ?_, ?_, HM8.out.kept HG9.out (fun e => (hown _ e.symm).2.2 rfl)⟩, ?_, ?_⟩
  · rw [hlen]
    exact (HG9.out.block g (blk_lt HW8.out) (fun e => (hown _ e.symm).2.1 rfl)).trans HW8.out
  · exact Nat.lt_of_lt_of_le hbl (Nat.le_trans (Nat.le_of_lt hs7.out) (Nat.le_trans HG8.out.size HG9.out.size))
  · rw [hlen]
    exact Kd.R_mono (Kd.R_bound HR9.out) (fun k hk => ⟨hk.1.1.elim .inl (fun h => .inr ⟨h, hk.2.2.1⟩), hk.1.2⟩)
  · exact Kept.of_grown HG9.out (Kept.of_grown HG8.out hk7.out (fun k e => by injection e with e; subst e; exact .inl hMb)) (fun k e => (hown k e).1)
  · exact below_grown hbb8 HG9.out (fun k e => Kd.R_base HR8.out k e) (Nat.le_trans hsz HG8.out.size)
end Go.Proofs.Ytdpcfamgmicboae
