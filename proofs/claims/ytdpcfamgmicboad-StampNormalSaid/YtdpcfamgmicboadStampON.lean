/- Contracts of the package stamp's Of, and of the document's; no condition beyond each theorem its own. -/
import Derived.Test.YtdpcfamgmicboadStampKN
namespace Go.Proofs.Ytdpcfamgmicboad
open Go.RowKit Go.Flt Go.Proofs.YtdpcfamgmicboadW.PrintWords Go.Proofs.YtdpcfamgmicboadW.PrintLast Go.Proofs.YtdpcfamgmicboadW.PrintMore
attribute [local go_sem] run_neg_float run_store_complex run_store_float
set_option linter.unusedVariables false
set_option linter.unusedSimpArgs false
theorem arr_cell (w : World) (x0 x1 x2 x3 x4 x5 x6 x7 x8 x9 x10 x11 x12 x13 x14 x15 x16 x17 x18 x19 x20 x21 x22 x23 x24 x25 x26 x27 x28 x29 x30 x31 : Int) (t : TypeId) (j : Nat) (hj : j < 32) : (w.alloc (.cells #[.int .u8 x0, .int .u8 x1, .int .u8 x2, .int .u8 x3, .int .u8 x4, .int .u8 x5, .int .u8 x6, .int .u8 x7, .int .u8 x8, .int .u8 x9, .int .u8 x10, .int .u8 x11, .int .u8 x12, .int .u8 x13, .int .u8 x14, .int .u8 x15, .int .u8 x16, .int .u8 x17, .int .u8 x18, .int .u8 x19, .int .u8 x20, .int .u8 x21, .int .u8 x22, .int .u8 x23, .int .u8 x24, .int .u8 x25, .int .u8 x26, .int .u8 x27, .int .u8 x28, .int .u8 x29, .int .u8 x30, .int .u8 x31] t)).cell? ⟨w.heap.size, j, none⟩ = some (.int .u8 (([x0, x1, x2, x3, x4, x5, x6, x7, x8, x9, x10, x11, x12, x13, x14, x15, x16, x17, x18, x19, x20, x21, x22, x23, x24, x25, x26, x27, x28, x29, x30, x31] : List Int).getD j 0)) := by
  have e : (w.alloc (.cells #[.int .u8 x0, .int .u8 x1, .int .u8 x2, .int .u8 x3, .int .u8 x4, .int .u8 x5, .int .u8 x6, .int .u8 x7, .int .u8 x8, .int .u8 x9, .int .u8 x10, .int .u8 x11, .int .u8 x12, .int .u8 x13, .int .u8 x14, .int .u8 x15, .int .u8 x16, .int .u8 x17, .int .u8 x18, .int .u8 x19, .int .u8 x20, .int .u8 x21, .int .u8 x22, .int .u8 x23, .int .u8 x24, .int .u8 x25, .int .u8 x26, .int .u8 x27, .int .u8 x28, .int .u8 x29, .int .u8 x30, .int .u8 x31] t)).heap[w.heap.size]? = some (.cells #[.int .u8 x0, .int .u8 x1, .int .u8 x2, .int .u8 x3, .int .u8 x4, .int .u8 x5, .int .u8 x6, .int .u8 x7, .int .u8 x8, .int .u8 x9, .int .u8 x10, .int .u8 x11, .int .u8 x12, .int .u8 x13, .int .u8 x14, .int .u8 x15, .int .u8 x16, .int .u8 x17, .int .u8 x18, .int .u8 x19, .int .u8 x20, .int .u8 x21, .int .u8 x22, .int .u8 x23, .int .u8 x24, .int .u8 x25, .int .u8 x26, .int .u8 x27, .int .u8 x28, .int .u8 x29, .int .u8 x30, .int .u8 x31] t) := by
    show (w.heap.push _)[w.heap.size]? = _
    simp
  unfold World.cell?
  simp only [e]
  show ((([x0, x1, x2, x3, x4, x5, x6, x7, x8, x9, x10, x11, x12, x13, x14, x15, x16, x17, x18, x19, x20, x21, x22, x23, x24, x25, x26, x27, x28, x29, x30, x31] : List Int).map (Value.int .u8)).toArray)[j]? = _
  rw [List.getElem?_toArray, List.getElem?_map, List.getD_eq_getElem?_getD, List.getElem?_eq_getElem (show j < ([x0, x1, x2, x3, x4, x5, x6, x7, x8, x9, x10, x11, x12, x13, x14, x15, x16, x17, x18, x19, x20, x21, x22, x23, x24, x25, x26, x27, x28, x29, x30, x31] : List Int).length from hj)]
  rfl
/-- A byte pair's bits. -/
abbrev pairB (l : List Int) (j : Nat) : Nat × Nat := (floatOfInt .f64 (l.getD (2 * j) 0), floatOfInt .f64 (l.getD (2 * j + 1) 0))
set_option maxHeartbeats 8000000 in
set_option maxRecDepth 100000 in
theorem of2_any (x0 x1 x2 x3 x4 x5 x6 x7 x8 x9 x10 x11 x12 x13 x14 x15 x16 x17 x18 x19 x20 x21 x22 x23 x24 x25 x26 x27 x28 x29 x30 x31 : Int) (w : World) :
    Calls Try.prog 23 #[.agg #[.int .u8 x0, .int .u8 x1, .int .u8 x2, .int .u8 x3, .int .u8 x4, .int .u8 x5, .int .u8 x6, .int .u8 x7, .int .u8 x8, .int .u8 x9, .int .u8 x10, .int .u8 x11, .int .u8 x12, .int .u8 x13, .int .u8 x14, .int .u8 x15, .int .u8 x16, .int .u8 x17, .int .u8 x18, .int .u8 x19, .int .u8 x20, .int .u8 x21, .int .u8 x22, .int .u8 x23, .int .u8 x24, .int .u8 x25, .int .u8 x26, .int .u8 x27, .int .u8 x28, .int .u8 x29, .int .u8 x30, .int .u8 x31]] w fun e w' => ∃ v, e = .returned v ∧ Kd.R kb 35 w' w.heap.size (fun _ => True) v ((List.range 16).map (pairB ([x0, x1, x2, x3, x4, x5, x6, x7, x8, x9, x10, x11, x12, x13, x14, x15, x16, x17, x18, x19, x20, x21, x22, x23, x24, x25, x26, x27, x28, x29, x30, x31] : List Int))) ∧ Below w.heap.size w w' := by
  have HC := Lib.hid (arr_cell w x0 x1 x2 x3 x4 x5 x6 x7 x8 x9 x10 x11 x12 x13 x14 x15 x16 x17 x18 x19 x20 x21 x22 x23 x24 x25 x26 x27 x28 x29 x30 x31)
  go_enter Try.func23, Try.ntmps23
  go_wp2_with (refine Kd.R_make kb w.heap.size 35 rfl rfl 27 (.const (.int .i64 16)) (.const (.int .i64 16)) rfl 16 rfl rfl Try.underlying27 (.complex .f64 0 0) 16 info35 rfl (by decide) (by decide) ((0, 0) : Nat × Nat) (ok := fun _ => True) (okp := fun _ => False) rfl (fun _ h => h.elim) trivial (by omega) (by simp) (below_alloc (Below.refl _ _) _) (below_alloc (Below.refl _ _) _).size ?_; intro v1 w1 hR hB hgr hown; (obtain ⟨inner, ho⟩ := Kd.R_own hR); (rcases ho.2 with ⟨hz, _⟩ | ⟨g, cap, cur, rfl, hg, hh, hl, hm, hcs, htk⟩); (exfalso; obtain ⟨b, hb, _⟩ := hown; rw [hz] at hb; simp [Value.ownBlock] at hb); (have hgg : w.heap.size < g := by (obtain ⟨b, hb, hb2⟩ := hown; (have e_ : g = b := Option.some.inj hb); (have := World.size_alloc w (Obj.cells #[.int .u8 x0, .int .u8 x1, .int .u8 x2, .int .u8 x3, .int .u8 x4, .int .u8 x5, .int .u8 x6, .int .u8 x7, .int .u8 x8, .int .u8 x9, .int .u8 x10, .int .u8 x11, .int .u8 x12, .int .u8 x13, .int .u8 x14, .int .u8 x15, .int .u8 x16, .int .u8 x17, .int .u8 x18, .int .u8 x19, .int .u8 x20, .int .u8 x21, .int .u8 x22, .int .u8 x23, .int .u8 x24, .int .u8 x25, .int .u8 x26, .int .u8 x27, .int .u8 x28, .int .u8 x29, .int .u8 x30, .int .u8 x31] 42)); omega)); (have HR0 := Lib.hid hR); (have HB0 := Lib.hid hB); (have HG0 := Lib.hid hgr); clear hR hB ho htk hcs hh hown hgr)
  have HD0 := Lib.hid (show ∀ j, j < 32 → w1.cell? ⟨w.heap.size, j, none⟩ = some (.int .u8 (([x0, x1, x2, x3, x4, x5, x6, x7, x8, x9, x10, x11, x12, x13, x14, x15, x16, x17, x18, x19, x20, x21, x22, x23, x24, x25, x26, x27, x28, x29, x30, x31] : List Int).getD j 0)) from fun j hj => by
    have h1 := HC.out 42 j hj
    unfold World.cell? at h1 ⊢
    rw [HG0.out.block w.heap.size (by have := World.size_alloc w (Obj.cells #[.int .u8 x0, .int .u8 x1, .int .u8 x2, .int .u8 x3, .int .u8 x4, .int .u8 x5, .int .u8 x6, .int .u8 x7, .int .u8 x8, .int .u8 x9, .int .u8 x10, .int .u8 x11, .int .u8 x12, .int .u8 x13, .int .u8 x14, .int .u8 x15, .int .u8 x16, .int .u8 x17, .int .u8 x18, .int .u8 x19, .int .u8 x20, .int .u8 x21, .int .u8 x22, .int .u8 x23, .int .u8 x24, .int .u8 x25, .int .u8 x26, .int .u8 x27, .int .u8 x28, .int .u8 x29, .int .u8 x30, .int .u8 x31] 42); omega) (by intro h; cases h)]
    exact h1)
  clear HG0 HC
  generalize hgl : ([x0, x1, x2, x3, x4, x5, x6, x7, x8, x9, x10, x11, x12, x13, x14, x15, x16, x17, x18, x19, x20, x21, x22, x23, x24, x25, x26, x27, x28, x29, x30, x31] : List Int) = xl at *
  have HGL := Lib.hid hgl
  clear hgl
  go_loopw [8] (fun v8 wr => ∃ (i : Nat) (ys : List (Nat × Nat)), i ≤ 16 ∧ v8 = .int .i64 i ∧ ys.length = 16 ∧ Aside0 (Kd.R kb 35 wr w.heap.size (fun _ => True) (.slice (some ⟨g, 0, none⟩) 16 cap) ys) ∧ Aside0 (Below w.heap.size w wr) ∧ Aside0 (∀ j, j < 32 → wr.cell? ⟨w.heap.size, j, none⟩ = some (.int .u8 (xl.getD j 0))) ∧ Aside0 (∀ j, j < i → ys.getD j (0, 0) = pairB xl j)) (fun v8 _ => 16 - (intOf v8).toNat)
  case atStart => exact ⟨0, List.replicate 16 (0, 0), by omega, rfl, by simp, ⟨HR0.out⟩, ⟨HB0.out⟩, ⟨HD0.out⟩, ⟨fun j hj => by omega⟩⟩
  case round =>
    obtain ⟨i, ys, hi, rfl, hyl, HR, HB, HD, HI⟩ := hrel
    by_cases hlt : i < 16
    · have HS0 := Lib.hid (HD.out (2 * i) (by omega))
      have HS1 := Lib.hid (HD.out (2 * i + 1) (by omega))
      have HK := Lib.hid (Kd.R_cell ((0, 0) : Nat × Nat) (by rw [← hyl] at HR; exact HR.out) (i : Int) (by omega) (by omega))
      have HP := Lib.hid (show pairB xl i = (floatOfInt .f64 (xl.getD (2 * i) 0), floatOfInt .f64 (xl.getD (2 * i + 1) 0)) from rfl)
      generalize xl.getD (2 * i) 0 = p at *
      generalize xl.getD (2 * i + 1) 0 = q at *
      obtain ⟨m, hm⟩ : ∃ m : Nat, m = 2 * i := ⟨_, rfl⟩
      obtain ⟨m1, hm1⟩ : ∃ m : Nat, m = 2 * i + 1 := ⟨_, rfl⟩
      have hw1 : wrap64 (2 * (i : Int)) = (m : Int) := by unfold wrap64; omega
      have hw2 : wrap64 ((m : Int) + 1) = (m1 : Int) := by unfold wrap64; omega
      have hb1 : (m : Int) < 32 := by omega
      have hb2 : (m1 : Int) < 32 := by omega
      have HM := Lib.hid hm
      have HM1 := Lib.hid hm1
      clear hm hm1
      go_wp2
      have hS0 : wr.drew.cell? ⟨w.heap.size, m, none⟩ = some (.int .u8 p) := by have := HS0.out; rw [← HM.out] at this; exact this
      have hS1 : wr.drew.cell? ⟨w.heap.size, m1, none⟩ = some (.int .u8 q) := by have := HS1.out; rw [← HM1.out] at this; exact this
      have HK0 := HK.out.1
      have HF := HK.out.2
      rw [Int.toNat_natCast] at HK0 HF
      generalize rdOf (0, 0) ys (i : Int) = b0 at *
      have hS2 : wr.drew.cell? ⟨g, i, none⟩ = some (encB b0) := HK0
      clear HK0
      refine start_ (n := 16) (S := fun w' => w'.cell? ⟨w.heap.size, m, none⟩ = some (.int .u8 p) ∧ w'.cell? ⟨w.heap.size, m1, none⟩ = some (.int .u8 q) ∧ w'.cell? ⟨g, i, none⟩ = some (encB b0)) (ds := [15]) #[false, false, false, false, false, false, false, false, false, false, false, false, false, false, false, false] (by kernel_rfl) rfl rfl ⟨hS0, hS1, hS2⟩ (fun hHeld => ?_)
      refine pure_ (i := 0) (N := some 11) (v := ?_) (a' := ?_) #[true, false, false, false, false, false, false, false, false, false, false, false, false, false, false, false] rfl rfl (by kernel_rfl) (fun _ _ _ h => h) (Or.inl ⟨by rfl, ?_⟩) ?_ ?_
      rotate_left
      · intro w'
        go_simp
        with_reducible rfl
      rotate_left
      · simp only [Act.put, List.setIfInBounds_toArray, List.set_cons_zero, List.set_cons_succ, i64_w, i32_w]
        rfl
      refine pure_ (i := 1) (N := some 12) (v := ?_) (a' := ?_) #[true, true, false, false, false, false, false, false, false, false, false, false, false, false, false, false] rfl rfl (by kernel_rfl) (fun _ _ _ h => h) (Or.inl ⟨by rfl, ?_⟩) ?_ ?_
      rotate_left
      · intro w'
        go_simp
        with_reducible rfl
      rotate_left
      · simp only [Act.put, List.setIfInBounds_toArray, List.set_cons_zero, List.set_cons_succ, i64_w, i32_w]
        rfl
      refine pure_ (i := 2) (N := some 13) (v := ?_) (a' := ?_) #[true, true, true, false, false, false, false, false, false, false, false, false, false, false, false, false] rfl rfl (by kernel_rfl) (fun _ _ _ h => h) (Or.inl ⟨by rfl, ?_⟩) ?_ ?_
      rotate_left
      · intro w'
        go_simp
        with_reducible rfl
      rotate_left
      · simp only [Act.put, List.setIfInBounds_toArray, List.set_cons_zero, List.set_cons_succ, i64_w, i32_w]
        rfl
      refine pure_ (i := 3) (N := some 14) (v := ?_) (a' := ?_) #[true, true, true, true, false, false, false, false, false, false, false, false, false, false, false, false] rfl rfl (by kernel_rfl) (fun _ _ _ h => h) (Or.inl ⟨by rfl, ?_⟩) ?_ ?_
      rotate_left
      · intro w'
        go_simp
        with_reducible rfl
      rotate_left
      · simp only [Act.put, List.setIfInBounds_toArray, List.set_cons_zero, List.set_cons_succ, i64_w, i32_w]
        rfl
      refine pure_ (i := 4) (N := some 15) (v := ?_) (a' := ?_) #[true, true, true, true, true, false, false, false, false, false, false, false, false, false, false, false] rfl rfl (by kernel_rfl) (fun _ _ _ h => h) (Or.inl ⟨by rfl, ?_⟩) ?_ ?_
      rotate_left
      · intro w'
        go_simp
        with_reducible rfl
      rotate_left
      · simp only [Act.put, List.setIfInBounds_toArray, List.set_cons_zero, List.set_cons_succ, i64_w, i32_w]
        rfl
      refine pure_ (i := 7) (N := some 18) (v := ?_) (a' := ?_) #[true, true, true, true, true, false, false, true, false, false, false, false, false, false, false, false] rfl rfl (by kernel_rfl) (fun _ _ _ h => h) (Or.inl ⟨by rfl, ?_⟩) ?_ ?_
      rotate_left
      · intro w'
        go_simp
        with_reducible rfl
      rotate_left
      · simp only [Act.put, List.setIfInBounds_toArray, List.set_cons_zero, List.set_cons_succ, i64_w, i32_w]
        rfl
      refine pure_ (i := 8) (N := some 19) (v := ?_) (a' := ?_) #[true, true, true, true, true, false, false, true, true, false, false, false, false, false, false, false] rfl rfl (by kernel_rfl) (fun _ _ _ h => h) (Or.inl ⟨by rfl, ?_⟩) ?_ ?_
      rotate_left
      · intro w'
        go_simp
        with_reducible rfl
      rotate_left
      · simp only [Act.put, List.setIfInBounds_toArray, List.set_cons_zero, List.set_cons_succ, i64_w, i32_w]
        rfl
      refine pure_ (i := 9) (N := some 20) (v := ?_) (a' := ?_) #[true, true, true, true, true, false, false, true, true, true, false, false, false, false, false, false] rfl rfl (by kernel_rfl) (fun _ _ _ h => h) (Or.inl ⟨by rfl, ?_⟩) ?_ ?_
      rotate_left
      · intro w'
        go_simp
        with_reducible rfl
      rotate_left
      · simp only [Act.put, List.setIfInBounds_toArray, List.set_cons_zero, List.set_cons_succ, i64_w, i32_w]
        rfl
      refine pure_ (i := 10) (N := some 21) (v := ?_) (a' := ?_) #[true, true, true, true, true, false, false, true, true, true, true, false, false, false, false, false] rfl rfl (by kernel_rfl) (fun _ _ _ h => h) (Or.inl ⟨by rfl, ?_⟩) ?_ ?_
      rotate_left
      · intro w'
        go_simp
        with_reducible rfl
      rotate_left
      · simp only [Act.put, List.setIfInBounds_toArray, List.set_cons_zero, List.set_cons_succ, i64_w, i32_w]
        rfl
      refine take_ (i := 5) (N := some 16) (v := ?_) (a' := ?_) #[true, true, true, true, true, true, false, true, true, true, true, false, false, false, false, false] rfl rfl (by kernel_rfl) (fun _ _ _ h => h) (Or.inl ⟨by rfl, ?_⟩) hHeld ?_ ?_
      rotate_left
      · rintro w' ⟨s0, s1, s2⟩
        go_simp
        with_reducible rfl
      rotate_left
      · simp only [Act.put, List.setIfInBounds_toArray, List.set_cons_zero, List.set_cons_succ, i64_w, i32_w]
        rfl
      refine pure_ (i := 6) (N := some 17) (v := ?_) (a' := ?_) #[true, true, true, true, true, true, true, true, true, true, true, false, false, false, false, false] rfl rfl (by kernel_rfl) (fun _ _ _ h => h) (Or.inl ⟨by rfl, ?_⟩) ?_ ?_
      rotate_left
      · intro w'
        go_simp
        with_reducible rfl
      rotate_left
      · simp only [Act.put, List.setIfInBounds_toArray, List.set_cons_zero, List.set_cons_succ, i64_w, i32_w]
        rfl
      refine take_ (i := 11) (N := some 22) (v := ?_) (a' := ?_) #[true, true, true, true, true, true, true, true, true, true, true, true, false, false, false, false] rfl rfl (by kernel_rfl) (fun _ _ _ h => h) (Or.inl ⟨by rfl, ?_⟩) hHeld ?_ ?_
      rotate_left
      · rintro w' ⟨s0, s1, s2⟩
        go_simp
        with_reducible rfl
      rotate_left
      · simp only [Act.put, List.setIfInBounds_toArray, List.set_cons_zero, List.set_cons_succ, i64_w, i32_w]
        rfl
      refine pure_ (i := 12) (N := some 23) (v := ?_) (a' := ?_) #[true, true, true, true, true, true, true, true, true, true, true, true, true, false, false, false] rfl rfl (by kernel_rfl) (fun _ _ _ h => h) (Or.inl ⟨by rfl, ?_⟩) ?_ ?_
      rotate_left
      · intro w'
        go_simp
        with_reducible rfl
      rotate_left
      · simp only [Act.put, List.setIfInBounds_toArray, List.set_cons_zero, List.set_cons_succ, i64_w, i32_w]
        rfl
      refine pure_ (i := 13) (N := some 24) (v := ?_) (a' := ?_) #[true, true, true, true, true, true, true, true, true, true, true, true, true, true, false, false] rfl rfl (by kernel_rfl) (fun _ _ _ h => h) (Or.inl ⟨by rfl, ?_⟩) ?_ ?_
      rotate_left
      · intro w'
        go_simp
        with_reducible rfl
      rotate_left
      · simp only [Act.put, List.setIfInBounds_toArray, List.set_cons_zero, List.set_cons_succ, i64_w, i32_w]
        rfl
      refine pure_ (i := 14) (N := some 25) (v := ?_) (a' := ?_) #[true, true, true, true, true, true, true, true, true, true, true, true, true, true, true, false] rfl rfl (by kernel_rfl) (fun _ _ _ h => h) (Or.inl ⟨by rfl, ?_⟩) ?_ ?_
      rotate_left
      · intro w'
        go_simp
        with_reducible rfl
      rotate_left
      · simp only [Act.put, List.setIfInBounds_toArray, List.set_cons_zero, List.set_cons_succ, i64_w, i32_w]
        rfl
      refine last_ (i := 15) (N := none) #[true, true, true, true, true, true, true, true, true, true, true, true, true, true, true, true] rfl rfl (by kernel_rfl) (by decide) (fun K hK => ?_)
      refine skip_ (w1 := ?_) (by rfl) rfl ?_ ?_
      rotate_left
      · go_simp
        rfl
      refine hK.out _ _ ?_
      clear hK K
      refine done_ (by kernel_rfl) ?_
      go_wp2
      go_roundw
      case rel =>
        have hp2 := (Kd.R_put (by rw [← hyl] at HR; exact HR.out) (i : Int) (floatOfInt .f64 p, floatOfInt .f64 q)).1
        simp only [Int.toNat_natCast] at hp2
        rw [hyl] at hp2
        refine ⟨i + 1, ys.set i (floatOfInt .f64 p, floatOfInt .f64 q), by omega, by go_num, by rw [List.length_set]; exact hyl, ⟨Kd.R_drew hp2⟩, ⟨below_drew1 (below_set HB.out hg)⟩, ⟨fun j hj => ?_⟩, ⟨fun j hj => ?_⟩⟩
        · have h1 := HD.out j hj
          have h2 : (wr.setCell ⟨g, i, none⟩ (.complex .f64 (floatOfInt .f64 p) (floatOfInt .f64 q))).cell? ⟨w.heap.size, j, none⟩ = wr.cell? ⟨w.heap.size, j, none⟩ := World.cell?_setCell_other _ _ _ _ (by intro h; injection h with h3; omega)
          exact h2.trans h1
        · by_cases hji : j = i
          · subst hji
            rw [List.getD_eq_getElem?_getD, List.getElem?_set_self (by omega), HP.out]; rfl
          · rw [List.getD_eq_getElem?_getD, List.getElem?_set_ne (by omega), ← List.getD_eq_getElem?_getD]; exact HI.out j (by omega)
      case measure => simp [intOf]; omega
    · obtain rfl : i = 16 := by omega
      go_wp2
      go_ret
      have hys : ys = (List.range 16).map (pairB ([x0, x1, x2, x3, x4, x5, x6, x7, x8, x9, x10, x11, x12, x13, x14, x15, x16, x17, x18, x19, x20, x21, x22, x23, x24, x25, x26, x27, x28, x29, x30, x31] : List Int)) := by
        rw [HGL.out]
        refine List.ext_getElem (by simp [hyl]) fun j h1 h2 => ?_
        have := HI.out j (by omega)
        rw [List.getD_eq_getElem?_getD, List.getElem?_eq_getElem h1] at this
        simpa using this
      exact ⟨_, rfl, by rw [← hys]; exact HR.out, HB.out⟩
abbrev ptOf (l : List Int) (j : Nat) : PStampN.S24 := ⟨l.getD (2 * j) 0, l.getD (2 * j + 1) 0⟩
set_option maxHeartbeats 8000000 in
set_option maxRecDepth 100000 in
theorem rof_any (x0 x1 x2 x3 x4 x5 x6 x7 x8 x9 x10 x11 x12 x13 x14 x15 x16 x17 x18 x19 x20 x21 x22 x23 x24 x25 x26 x27 x28 x29 x30 x31 : Int) (hx : ∀ j, j < 32 → 0 ≤ ([x0, x1, x2, x3, x4, x5, x6, x7, x8, x9, x10, x11, x12, x13, x14, x15, x16, x17, x18, x19, x20, x21, x22, x23, x24, x25, x26, x27, x28, x29, x30, x31] : List Int).getD j 0 ∧ ([x0, x1, x2, x3, x4, x5, x6, x7, x8, x9, x10, x11, x12, x13, x14, x15, x16, x17, x18, x19, x20, x21, x22, x23, x24, x25, x26, x27, x28, x29, x30, x31] : List Int).getD j 0 < 256) (w : World) :
    Calls Try.prog 24 #[.agg #[.int .u8 x0, .int .u8 x1, .int .u8 x2, .int .u8 x3, .int .u8 x4, .int .u8 x5, .int .u8 x6, .int .u8 x7, .int .u8 x8, .int .u8 x9, .int .u8 x10, .int .u8 x11, .int .u8 x12, .int .u8 x13, .int .u8 x14, .int .u8 x15, .int .u8 x16, .int .u8 x17, .int .u8 x18, .int .u8 x19, .int .u8 x20, .int .u8 x21, .int .u8 x22, .int .u8 x23, .int .u8 x24, .int .u8 x25, .int .u8 x26, .int .u8 x27, .int .u8 x28, .int .u8 x29, .int .u8 x30, .int .u8 x31]] w fun e w' => ∃ v, e = .returned v ∧ Kd.R PStampN.k24 24 w' w.heap.size (fun _ => True) v ((List.range 16).map (ptOf ([x0, x1, x2, x3, x4, x5, x6, x7, x8, x9, x10, x11, x12, x13, x14, x15, x16, x17, x18, x19, x20, x21, x22, x23, x24, x25, x26, x27, x28, x29, x30, x31] : List Int))) ∧ Below w.heap.size w w' := by
  have HC := Lib.hid (arr_cell w x0 x1 x2 x3 x4 x5 x6 x7 x8 x9 x10 x11 x12 x13 x14 x15 x16 x17 x18 x19 x20 x21 x22 x23 x24 x25 x26 x27 x28 x29 x30 x31)
  have HX := Lib.hid hx
  clear hx
  go_enter Try.func24, Try.ntmps24
  go_wp2
  have HD0 := Lib.hid (HC.out 42)
  clear HC
  have hsz : (w.alloc (.cells #[.int .u8 x0, .int .u8 x1, .int .u8 x2, .int .u8 x3, .int .u8 x4, .int .u8 x5, .int .u8 x6, .int .u8 x7, .int .u8 x8, .int .u8 x9, .int .u8 x10, .int .u8 x11, .int .u8 x12, .int .u8 x13, .int .u8 x14, .int .u8 x15, .int .u8 x16, .int .u8 x17, .int .u8 x18, .int .u8 x19, .int .u8 x20, .int .u8 x21, .int .u8 x22, .int .u8 x23, .int .u8 x24, .int .u8 x25, .int .u8 x26, .int .u8 x27, .int .u8 x28, .int .u8 x29, .int .u8 x30, .int .u8 x31] 42)).heap.size = w.heap.size + 1 := World.size_alloc _ _
  have HB0 := Lib.hid (below_alloc (Below.refl w.heap.size w) (.cells #[.int .u8 x0, .int .u8 x1, .int .u8 x2, .int .u8 x3, .int .u8 x4, .int .u8 x5, .int .u8 x6, .int .u8 x7, .int .u8 x8, .int .u8 x9, .int .u8 x10, .int .u8 x11, .int .u8 x12, .int .u8 x13, .int .u8 x14, .int .u8 x15, .int .u8 x16, .int .u8 x17, .int .u8 x18, .int .u8 x19, .int .u8 x20, .int .u8 x21, .int .u8 x22, .int .u8 x23, .int .u8 x24, .int .u8 x25, .int .u8 x26, .int .u8 x27, .int .u8 x28, .int .u8 x29, .int .u8 x30, .int .u8 x31] 42))
  generalize w.alloc (.cells #[.int .u8 x0, .int .u8 x1, .int .u8 x2, .int .u8 x3, .int .u8 x4, .int .u8 x5, .int .u8 x6, .int .u8 x7, .int .u8 x8, .int .u8 x9, .int .u8 x10, .int .u8 x11, .int .u8 x12, .int .u8 x13, .int .u8 x14, .int .u8 x15, .int .u8 x16, .int .u8 x17, .int .u8 x18, .int .u8 x19, .int .u8 x20, .int .u8 x21, .int .u8 x22, .int .u8 x23, .int .u8 x24, .int .u8 x25, .int .u8 x26, .int .u8 x27, .int .u8 x28, .int .u8 x29, .int .u8 x30, .int .u8 x31] 42) = w1 at *
  generalize hgl : ([x0, x1, x2, x3, x4, x5, x6, x7, x8, x9, x10, x11, x12, x13, x14, x15, x16, x17, x18, x19, x20, x21, x22, x23, x24, x25, x26, x27, x28, x29, x30, x31] : List Int) = xl at *
  have HGL := Lib.hid hgl
  clear hgl
  go_loopw [3, 4] (fun v3 v4 wr => ∃ (i : Nat) (ys : List PStampN.S24), i ≤ 16 ∧ v4 = .int .i64 i ∧ ys.length = i ∧ Aside0 (Kd.R PStampN.k24 24 wr w.heap.size (fun k => k ≠ w.heap.size) v3 ys) ∧ Aside0 (Below w.heap.size w wr) ∧ Aside0 (w.heap.size + 1 ≤ wr.heap.size) ∧ Aside0 (∀ j, j < 32 → wr.cell? ⟨w.heap.size, j, none⟩ = some (.int .u8 (xl.getD j 0))) ∧ Aside0 (∀ j, j < i → ys.getD j PStampN.z24 = ptOf xl j)) (fun _ v4 _ => 16 - (intOf v4).toNat)
  case atStart => exact ⟨0, [], by omega, rfl, rfl, ⟨Kd.R_nil _ _ _ _ _⟩, ⟨HB0.out⟩, ⟨by omega⟩, ⟨HD0.out⟩, ⟨fun j hj => by omega⟩⟩
  case round =>
    obtain ⟨i, ys, hi, rfl, hyl, HR, HB, HZ, HD, HI⟩ := hrel
    by_cases hlt : i < 16
    · have HS0 := Lib.hid (HD.out (2 * i) (by omega))
      have HS1 := Lib.hid (HD.out (2 * i + 1) (by omega))
      have hp0 := (HX.out (2 * i) (by omega))
      have hq0 := (HX.out (2 * i + 1) (by omega))
      have HP := Lib.hid (show ptOf xl i = ⟨xl.getD (2 * i) 0, xl.getD (2 * i + 1) 0⟩ from rfl)
      generalize xl.getD (2 * i) 0 = p at *
      generalize xl.getD (2 * i + 1) 0 = q at *
      have hwp : wrap64 p = p := by unfold wrap64; omega
      have hwq : wrap64 q = q := by unfold wrap64; omega
      obtain ⟨m, hm⟩ : ∃ m : Nat, m = 2 * i := ⟨_, rfl⟩
      obtain ⟨m1, hm1⟩ : ∃ m : Nat, m = 2 * i + 1 := ⟨_, rfl⟩
      have hw1 : wrap64 (2 * (i : Int)) = (m : Int) := by unfold wrap64; omega
      have hw2 : wrap64 ((m : Int) + 1) = (m1 : Int) := by unfold wrap64; omega
      have hb1 : (m : Int) < 32 := by omega
      have hb2 : (m1 : Int) < 32 := by omega
      have HM := Lib.hid hm
      have HM1 := Lib.hid hm1
      clear hm hm1
      go_wp2
      have hS0 : wr.drew.cell? ⟨w.heap.size, m, none⟩ = some (.int .u8 p) := by have := HS0.out; rw [← HM.out] at this; exact this
      have hS1 : wr.drew.cell? ⟨w.heap.size, m1, none⟩ = some (.int .u8 q) := by have := HS1.out; rw [← HM1.out] at this; exact this
      refine start_ (n := 16) (S := fun w' => w'.cell? ⟨w.heap.size, m, none⟩ = some (.int .u8 p) ∧ w'.cell? ⟨w.heap.size, m1, none⟩ = some (.int .u8 q)) (ds := [14]) #[false, false, false, false, false, false, false, false, false, false, false, false, false, false, false, false] (by kernel_rfl) rfl rfl ⟨hS0, hS1⟩ (fun hHeld => ?_)
      refine pure_ (i := 0) (N := some 9) (v := ?_) (a' := ?_) #[true, false, false, false, false, false, false, false, false, false, false, false, false, false, false, false] rfl rfl (by kernel_rfl) (fun _ _ _ h => h) (Or.inl ⟨by rfl, ?_⟩) ?_ ?_
      rotate_left
      · intro w'
        go_simp
        with_reducible rfl
      rotate_left
      · simp only [Act.put, List.setIfInBounds_toArray, List.set_cons_zero, List.set_cons_succ, i64_w, i32_w]
        rfl
      refine pure_ (i := 1) (N := some 10) (v := ?_) (a' := ?_) #[true, true, false, false, false, false, false, false, false, false, false, false, false, false, false, false] rfl rfl (by kernel_rfl) (fun _ _ _ h => h) (Or.inl ⟨by rfl, ?_⟩) ?_ ?_
      rotate_left
      · intro w'
        go_simp
        with_reducible rfl
      rotate_left
      · simp only [Act.put, List.setIfInBounds_toArray, List.set_cons_zero, List.set_cons_succ, i64_w, i32_w]
        rfl
      refine pure_ (i := 2) (N := some 11) (v := ?_) (a' := ?_) #[true, true, true, false, false, false, false, false, false, false, false, false, false, false, false, false] rfl rfl (by kernel_rfl) (fun _ _ _ h => h) (Or.inl ⟨by rfl, ?_⟩) ?_ ?_
      rotate_left
      · intro w'
        go_simp
        with_reducible rfl
      rotate_left
      · simp only [Act.put, List.setIfInBounds_toArray, List.set_cons_zero, List.set_cons_succ, i64_w, i32_w]
        rfl
      refine pure_ (i := 3) (N := some 12) (v := ?_) (a' := ?_) #[true, true, true, true, false, false, false, false, false, false, false, false, false, false, false, false] rfl rfl (by kernel_rfl) (fun _ _ _ h => h) (Or.inl ⟨by rfl, ?_⟩) ?_ ?_
      rotate_left
      · intro w'
        go_simp
        with_reducible rfl
      rotate_left
      · simp only [Act.put, List.setIfInBounds_toArray, List.set_cons_zero, List.set_cons_succ, i64_w, i32_w]
        rfl
      refine pure_ (i := 6) (N := some 15) (v := ?_) (a' := ?_) #[true, true, true, true, false, false, true, false, false, false, false, false, false, false, false, false] rfl rfl (by kernel_rfl) (fun _ _ _ h => h) (Or.inl ⟨by rfl, ?_⟩) ?_ ?_
      rotate_left
      · intro w'
        go_simp
        with_reducible rfl
      rotate_left
      · simp only [Act.put, List.setIfInBounds_toArray, List.set_cons_zero, List.set_cons_succ, i64_w, i32_w]
        rfl
      refine pure_ (i := 7) (N := some 16) (v := ?_) (a' := ?_) #[true, true, true, true, false, false, true, true, false, false, false, false, false, false, false, false] rfl rfl (by kernel_rfl) (fun _ _ _ h => h) (Or.inl ⟨by rfl, ?_⟩) ?_ ?_
      rotate_left
      · intro w'
        go_simp
        with_reducible rfl
      rotate_left
      · simp only [Act.put, List.setIfInBounds_toArray, List.set_cons_zero, List.set_cons_succ, i64_w, i32_w]
        rfl
      refine pure_ (i := 8) (N := some 17) (v := ?_) (a' := ?_) #[true, true, true, true, false, false, true, true, true, false, false, false, false, false, false, false] rfl rfl (by kernel_rfl) (fun _ _ _ h => h) (Or.inl ⟨by rfl, ?_⟩) ?_ ?_
      rotate_left
      · intro w'
        go_simp
        with_reducible rfl
      rotate_left
      · simp only [Act.put, List.setIfInBounds_toArray, List.set_cons_zero, List.set_cons_succ, i64_w, i32_w]
        rfl
      refine pure_ (i := 9) (N := some 18) (v := ?_) (a' := ?_) #[true, true, true, true, false, false, true, true, true, true, false, false, false, false, false, false] rfl rfl (by kernel_rfl) (fun _ _ _ h => h) (Or.inl ⟨by rfl, ?_⟩) ?_ ?_
      rotate_left
      · intro w'
        go_simp
        with_reducible rfl
      rotate_left
      · simp only [Act.put, List.setIfInBounds_toArray, List.set_cons_zero, List.set_cons_succ, i64_w, i32_w]
        rfl
      refine take_ (i := 4) (N := some 13) (v := ?_) (a' := ?_) #[true, true, true, true, true, false, true, true, true, true, false, false, false, false, false, false] rfl rfl (by kernel_rfl) (fun _ _ _ h => h) (Or.inl ⟨by rfl, ?_⟩) hHeld ?_ ?_
      rotate_left
      · rintro w' ⟨s0, s1⟩
        go_simp
        with_reducible rfl
      rotate_left
      · simp only [Act.put, List.setIfInBounds_toArray, List.set_cons_zero, List.set_cons_succ, i64_w, i32_w]
        rfl
      refine pure_ (i := 5) (N := some 14) (v := ?_) (a' := ?_) #[true, true, true, true, true, true, true, true, true, true, false, false, false, false, false, false] rfl rfl (by kernel_rfl) (fun _ _ _ h => h) (Or.inl ⟨by rfl, ?_⟩) ?_ ?_
      rotate_left
      · intro w'
        go_simp
        with_reducible rfl
      rotate_left
      · simp only [Act.put, List.setIfInBounds_toArray, List.set_cons_zero, List.set_cons_succ, i64_w, i32_w]
        rfl
      refine take_ (i := 10) (N := some 19) (v := ?_) (a' := ?_) #[true, true, true, true, true, true, true, true, true, true, true, false, false, false, false, false] rfl rfl (by kernel_rfl) (fun _ _ _ h => h) (Or.inl ⟨by rfl, ?_⟩) hHeld ?_ ?_
      rotate_left
      · rintro w' ⟨s0, s1⟩
        go_simp
        with_reducible rfl
      rotate_left
      · simp only [Act.put, List.setIfInBounds_toArray, List.set_cons_zero, List.set_cons_succ, i64_w, i32_w]
        rfl
      refine pure_ (i := 11) (N := some 20) (v := ?_) (a' := ?_) #[true, true, true, true, true, true, true, true, true, true, true, true, false, false, false, false] rfl rfl (by kernel_rfl) (fun _ _ _ h => h) (Or.inl ⟨by rfl, ?_⟩) ?_ ?_
      rotate_left
      · intro w'
        go_simp
        with_reducible rfl
      rotate_left
      · simp only [Act.put, List.setIfInBounds_toArray, List.set_cons_zero, List.set_cons_succ, i64_w, i32_w]
        rfl
      refine pure_ (i := 12) (N := some 21) (v := ?_) (a' := ?_) #[true, true, true, true, true, true, true, true, true, true, true, true, true, false, false, false] rfl rfl (by kernel_rfl) (fun _ _ _ h => h) (Or.inl ⟨by rfl, ?_⟩) ?_ ?_
      rotate_left
      · intro w'
        go_simp
        with_reducible rfl
      rotate_left
      · simp only [Act.put, List.setIfInBounds_toArray, List.set_cons_zero, List.set_cons_succ, i64_w, i32_w]
        rfl
      refine one_ (i := 13) (N := some 22) #[true, true, true, true, true, true, true, true, true, true, true, true, true, true, false, false] rfl rfl (by kernel_rfl) (by decide) (fun K hK => ?_)
      refine value_ (w1 := ?_) (v := ?_) (by rfl) rfl ?_ ?_
      rotate_left 2
      · go_simp
        constructor
        · rfl
        · rfl
      refine hK.out _ _ ⟨(World.cell?_alloc_lt _ _ _ (World.block_lt_of_cell? _ _ hS0)).trans hS0, (World.cell?_alloc_lt _ _ _ (World.block_lt_of_cell? _ _ hS1)).trans hS1⟩ (fun hHeld => ?_)
      clear hK K
      refine norm_ (a' := ?_) ?_ ?_
      rotate_left
      · show Act.put _ (some 22) _ = _
        simp only [Act.put, List.setIfInBounds_toArray, List.set_cons_zero, List.set_cons_succ, i64_w, i32_w]
        rfl
      refine last_ (i := 14) (N := some 23) #[true, true, true, true, true, true, true, true, true, true, true, true, true, true, true, false] rfl rfl (by kernel_rfl) (by decide) (fun K hK => ?_)
      refine Kd.R_append_step PStampN.k24 (w0 := w) w.heap.size (by rfl) (.tmp 9) (.tmp 22) 22 24 (.agg #[(.int .i64 0), (.int .i64 0)]) 16 rfl Try.underlying22 PStampN.info24 rfl (by decide) (by decide) u3 ys (⟨p, q⟩ : PStampN.S24) [.int .i64 p, .int .i64 q] (fun k => k ≠ w.heap.size) (fun _ => False) rfl rfl (PStampN.k24_mkM _ _ _ (⟨p, q⟩ : PStampN.S24)) (fun _ hk => hk.elim) (fun k hk => by have := HZ.out; have h2 : wr.heap.size ≤ k := hk; omega) (Kd.R_drew HR.out) (below_drew1 HB.out) (below_drew1 HB.out).size (by omega) ?_
      intro v6 w6 ho hb hg hat
      have HO6 := Lib.hid ho
      have HB6 := Lib.hid hb
      have HG6 := Lib.hid hg
      clear ho hb hg hat
      refine hK.out _ _ ?_
      clear hK K
      refine norm_ (a' := ?_) ?_ ?_
      rotate_left
      · show Act.put _ (some 23) _ = _
        simp only [Act.put, List.setIfInBounds_toArray, List.set_cons_zero, List.set_cons_succ, i64_w, i32_w]
        rfl
      refine pure_ (i := 15) (N := some 3) (v := ?_) (a' := ?_) #[true, true, true, true, true, true, true, true, true, true, true, true, true, true, true, true] rfl rfl (by kernel_rfl) (fun _ _ _ h => h) (Or.inl ⟨by rfl, ?_⟩) ?_ ?_
      rotate_left
      · intro w'
        go_simp
        with_reducible rfl
      rotate_left
      · simp only [Act.put, List.setIfInBounds_toArray, List.set_cons_zero, List.set_cons_succ, i64_w, i32_w]
        rfl
      refine done_ (by kernel_rfl) ?_
      go_wp2
      go_roundw
      case rel =>
        have hlt6 : w.heap.size < wr.heap.size + 1 := by have := HZ.out; omega
        refine ⟨i + 1, ys ++ [⟨p, q⟩], by omega, by go_num, by simp [hyl], ⟨HO6.out⟩, ⟨HB6.out⟩, ⟨by have := HZ.out; have := HG6.out.size; have e : (wr.drew.alloc (Obj.cells #[.int .i64 p, .int .i64 q] 24)).heap.size = wr.heap.size + 1 := World.size_alloc _ _; have e2 : (wr.drew).heap.size = wr.heap.size := rfl; omega⟩, ⟨fun j hj => ?_⟩, ⟨fun j hj => ?_⟩⟩
        · have h1 := HD.out j hj
          have h2 := HG6.out.block w.heap.size (by have := HZ.out; have e2 : (wr.drew).heap.size = wr.heap.size := rfl; omega) (fun e => HR.out.1 _ e.symm rfl)
          unfold World.cell? at h1 ⊢
          rw [h2]
          exact h1
        · by_cases hji : j < i
          · rw [List.getD_eq_getElem?_getD, List.getElem?_append_left (by omega), ← List.getD_eq_getElem?_getD]; exact HI.out j hji
          · obtain rfl : j = i := by omega
            rw [List.getD_eq_getElem?_getD, List.getElem?_append_right (by omega), hyl, Nat.sub_self, HP.out]; rfl
      case measure => simp [intOf]; omega
    · obtain rfl : i = 16 := by omega
      go_wp2
      go_ret
      have hys : ys = (List.range 16).map (ptOf ([x0, x1, x2, x3, x4, x5, x6, x7, x8, x9, x10, x11, x12, x13, x14, x15, x16, x17, x18, x19, x20, x21, x22, x23, x24, x25, x26, x27, x28, x29, x30, x31] : List Int)) := by
        rw [HGL.out]
        refine List.ext_getElem (by simp [hyl]) fun j h1 h2 => ?_
        have := HI.out j (by omega)
        rw [List.getD_eq_getElem?_getD, List.getElem?_eq_getElem h1] at this
        simpa using this
      exact ⟨_, rfl, by rw [← hys]; exact Kd.R_mono HR.out (fun _ _ => trivial), HB.out⟩
namespace PStampN
def inB (l : List Int) : Bool := l.all fun x => decide (0 ≤ x) && decide (x < 256)
theorem inB_get {l : List Int} (h : inB l = true) (j : Nat) : 0 ≤ l.getD j 0 ∧ l.getD j 0 < 256 := by
  rw [List.getD_eq_getElem?_getD]
  by_cases hj : j < l.length
  · rw [List.getElem?_eq_getElem hj]
    have := List.all_eq_true.1 h _ (List.getElem_mem hj)
    simpa using this
  · rw [List.getElem?_eq_none (by omega)]; exact ⟨by decide, by decide⟩
abbrev zOf (l : List Int) (j : Nat) : CX := ⟨l.getD (2 * j) 0, l.getD (2 * j + 1) 0⟩
theorem pair_rel (l : List Int) (h : inB l = true) : Rels ((List.range 16).map (pairB l)) ((List.range 16).map (zOf l)) := by
  refine ⟨by simp, fun i hi => ?_⟩
  have hi16 : i < 16 := by simpa using hi
  have e1 : ((List.range 16).map (pairB l)).getD i (0, 0) = pairB l i := by simp [List.getD_eq_getElem?_getD, hi16]
  have e2 : ((List.range 16).map (zOf l)).getD i cxZero = zOf l i := by simp [List.getD_eq_getElem?_getD, hi16]
  rw [e1, e2]
  have h1 := inB_get h (2 * i)
  have h2 := inB_get h (2 * i + 1)
  exact ⟨enc_F _ (by omega), enc_F _ (by omega)⟩
def stamp_Of.f (x0 x1 x2 x3 x4 x5 x6 x7 x8 x9 x10 x11 x12 x13 x14 x15 x16 x17 x18 x19 x20 x21 x22 x23 x24 x25 x26 x27 x28 x29 x30 x31 : Int) : Option (List CX) := if inB ([x0, x1, x2, x3, x4, x5, x6, x7, x8, x9, x10, x11, x12, x13, x14, x15, x16, x17, x18, x19, x20, x21, x22, x23, x24, x25, x26, x27, x28, x29, x30, x31] : List Int) = true then some ((List.range 16).map (zOf ([x0, x1, x2, x3, x4, x5, x6, x7, x8, x9, x10, x11, x12, x13, x14, x15, x16, x17, x18, x19, x20, x21, x22, x23, x24, x25, x26, x27, x28, x29, x30, x31] : List Int))) else none
theorem stamp_Of.calls (x0 x1 x2 x3 x4 x5 x6 x7 x8 x9 x10 x11 x12 x13 x14 x15 x16 x17 x18 x19 x20 x21 x22 x23 x24 x25 x26 x27 x28 x29 x30 x31 : Int) (r : List CX) (w : World) (h : stamp_Of.f x0 x1 x2 x3 x4 x5 x6 x7 x8 x9 x10 x11 x12 x13 x14 x15 x16 x17 x18 x19 x20 x21 x22 x23 x24 x25 x26 x27 x28 x29 x30 x31 = some r) :
    Calls Try.prog 23 #[.agg #[.int .u8 x0, .int .u8 x1, .int .u8 x2, .int .u8 x3, .int .u8 x4, .int .u8 x5, .int .u8 x6, .int .u8 x7, .int .u8 x8, .int .u8 x9, .int .u8 x10, .int .u8 x11, .int .u8 x12, .int .u8 x13, .int .u8 x14, .int .u8 x15, .int .u8 x16, .int .u8 x17, .int .u8 x18, .int .u8 x19, .int .u8 x20, .int .u8 x21, .int .u8 x22, .int .u8 x23, .int .u8 x24, .int .u8 x25, .int .u8 x26, .int .u8 x27, .int .u8 x28, .int .u8 x29, .int .u8 x30, .int .u8 x31]] w fun e w' => ∃ v0_ : Value, e = .returned (v0_) ∧ Kd.R Kd.cx 35 w' w.heap.size (fun _ => True) v0_ r ∧ Below w.heap.size w w' := by
  unfold stamp_Of.f at h
  split at h
  · obtain rfl := Option.some.inj h
    rename_i h1
    refine (of2_any x0 x1 x2 x3 x4 x5 x6 x7 x8 x9 x10 x11 x12 x13 x14 x15 x16 x17 x18 x19 x20 x21 x22 x23 x24 x25 x26 x27 x28 x29 x30 x31 w).mono ?_
    rintro e w' ⟨v, rfl, hR, hb⟩
    exact ⟨v, rfl, cx_R hR (pair_rel _ h1), hb⟩
  · cases h
def hanaperref27_Of.f (x0 x1 x2 x3 x4 x5 x6 x7 x8 x9 x10 x11 x12 x13 x14 x15 x16 x17 x18 x19 x20 x21 x22 x23 x24 x25 x26 x27 x28 x29 x30 x31 : Int) : Option (List S24) := if inB ([x0, x1, x2, x3, x4, x5, x6, x7, x8, x9, x10, x11, x12, x13, x14, x15, x16, x17, x18, x19, x20, x21, x22, x23, x24, x25, x26, x27, x28, x29, x30, x31] : List Int) = true then some ((List.range 16).map (ptOf ([x0, x1, x2, x3, x4, x5, x6, x7, x8, x9, x10, x11, x12, x13, x14, x15, x16, x17, x18, x19, x20, x21, x22, x23, x24, x25, x26, x27, x28, x29, x30, x31] : List Int))) else none
theorem hanaperref27_Of.calls (x0 x1 x2 x3 x4 x5 x6 x7 x8 x9 x10 x11 x12 x13 x14 x15 x16 x17 x18 x19 x20 x21 x22 x23 x24 x25 x26 x27 x28 x29 x30 x31 : Int) (r : List S24) (w : World) (h : hanaperref27_Of.f x0 x1 x2 x3 x4 x5 x6 x7 x8 x9 x10 x11 x12 x13 x14 x15 x16 x17 x18 x19 x20 x21 x22 x23 x24 x25 x26 x27 x28 x29 x30 x31 = some r) :
    Calls Try.prog 24 #[.agg #[.int .u8 x0, .int .u8 x1, .int .u8 x2, .int .u8 x3, .int .u8 x4, .int .u8 x5, .int .u8 x6, .int .u8 x7, .int .u8 x8, .int .u8 x9, .int .u8 x10, .int .u8 x11, .int .u8 x12, .int .u8 x13, .int .u8 x14, .int .u8 x15, .int .u8 x16, .int .u8 x17, .int .u8 x18, .int .u8 x19, .int .u8 x20, .int .u8 x21, .int .u8 x22, .int .u8 x23, .int .u8 x24, .int .u8 x25, .int .u8 x26, .int .u8 x27, .int .u8 x28, .int .u8 x29, .int .u8 x30, .int .u8 x31]] w fun e w' => ∃ v0_ : Value, e = .returned (v0_) ∧ Kd.R k24 24 w' w.heap.size (fun _ => True) v0_ r ∧ Below w.heap.size w w' := by
  unfold hanaperref27_Of.f at h
  split at h
  · obtain rfl := Option.some.inj h
    rename_i h1
    exact rof_any x0 x1 x2 x3 x4 x5 x6 x7 x8 x9 x10 x11 x12 x13 x14 x15 x16 x17 x18 x19 x20 x21 x22 x23 x24 x25 x26 x27 x28 x29 x30 x31 (fun j _ => inB_get h1 j) w
  · cases h
end PStampN
end Go.Proofs.Ytdpcfamgmicboad
