/- The document's list beside the queue's heap, in plain lists; no condition beyond each theorem its own. -/
import Derived.Test.YtdpcfamgmicboaeQueueP
import Derived.Test.YtdpcfamgmicboaePQVx
namespace Go.Proofs.Ytdpcfamgmicboae
open Go.RowKit Go.Proofs.YtdpcfamgmicboaeW.PrintWords
set_option linter.unusedVariables false
theorem ba_ext {a b : ByteArray} (h : a.toList = b.toList) : a = b := by
  rw [ByteArray.toList_eq, ByteArray.toList_eq] at h
  have h2 := Array.toList_inj.1 h
  cases a
  cases b
  simp only at h2
  rw [h2]
theorem ahead_f (a b : It) : PQ.hanaperref39_Ahead.f a.f0 a.f1 a.f2 b.f0 b.f1 b.f2 = some (@decide (ltI a b) (Classical.propDecidable _)) := by
  unfold PQ.hanaperref39_Ahead.f
  have h : ∀ (c : Bool), (c = true ↔ ltI a b) → some c = some (@decide (ltI a b) (Classical.propDecidable _)) := fun c hc => by
    congr 1
    by_cases hl : ltI a b
    · rw [hc.2 hl]; simp [hl]
    · have : c = false := by cases c; rfl; exact absurd (hc.1 rfl) hl
      rw [this]; simp [hl]
  unfold ltI
  by_cases h1 : a.f1 = b.f1
  · rw [if_pos h1]
    by_cases h2 : a.f2 = b.f2
    · rw [if_pos h2]
      exact h _ ⟨fun e => .inr ⟨h1, .inr ⟨h2, e⟩⟩, fun e => by rcases e with e | ⟨_, e | ⟨_, e⟩⟩ <;> first | exact e | omega⟩
    · rw [if_neg h2]
      exact h _ ⟨fun e => .inr ⟨h1, .inl (of_decide_eq_true e)⟩, fun e => by
        rcases e with e | ⟨_, e | ⟨e, _⟩⟩
        · omega
        · exact decide_eq_true e
        · exact absurd e h2⟩
  · rw [if_neg h1]
    exact h _ ⟨fun e => .inl (of_decide_eq_true e), fun e => by
      rcases e with e | ⟨e, _⟩
      · exact decide_eq_true e
      · exact absurd e h1⟩
/-- An item put where it comes. -/
noncomputable def insI (x : It) : List It → List It
  | [] => [x]
  | y :: l => @ite _ (ltI y x) (Classical.propDecidable _) (y :: insI x l) (x :: y :: l)
theorem insI_perm (x : It) : ∀ l, (insI x l).Perm (x :: l)
  | [] => List.Perm.refl _
  | y :: l => by
    unfold insI
    split
    · exact (List.Perm.cons y (insI_perm x l)).trans (List.Perm.swap x y l)
    · exact List.Perm.refl _
theorem insI_sorted (x : It) : ∀ l : List It, l.Pairwise ltI → (∀ y ∈ l, y.f0 ≠ x.f0) → (insI x l).Pairwise ltI
  | [], _, _ => by unfold insI; simp
  | y :: l, h, hn => by
    rw [List.pairwise_cons] at h
    unfold insI
    split
    · rename_i hyx
      rw [List.pairwise_cons]
      refine ⟨fun z hz => ?_, insI_sorted x l h.2 (fun z hz => hn z (List.mem_cons.2 (.inr hz)))⟩
      rcases List.mem_cons.1 ((insI_perm x l).mem_iff.1 hz) with rfl | hz
      · exact hyx
      · exact h.1 z hz
    · rename_i hyx
      have hxy : ltI x y := by
        by_cases k : ltI x y
        · exact k
        · exact absurd (ba_ext (lt_tri hyx k).2.2) (hn y (List.mem_cons.2 (.inl rfl)))
      rw [List.pairwise_cons, List.pairwise_cons]
      refine ⟨fun z hz => ?_, h⟩
      rcases List.mem_cons.1 hz with rfl | hz
      · exact hxy
      · exact lt_trans hxy (h.1 z hz)
theorem gx_mem0 (xs : List It) (j : Nat) (h : j < xs.length) : gx xs j ∈ xs := by
  unfold gx
  rw [List.getD_eq_getElem?_getD, List.getElem?_eq_getElem h]
  exact List.getElem_mem h
theorem rd_gx (xs : List It) (i : Nat) : PQ.rd_T28 xs (i : Int) = gx xs i := rfl
theorem drop_gx (xs : List It) (i : Nat) (h : i < xs.length) : xs.drop i = gx xs i :: xs.drop (i + 1) := by
  rw [List.drop_eq_getElem_cons h]
  congr 1
  unfold gx
  rw [List.getD_eq_getElem?_getD, List.getElem?_eq_getElem h]
  rfl
theorem putl1 (ws : List It) (x : It) (hl : ws.length ≤ 1000) : ∀ (d i : Nat) (pre : List It) (k : Nat), i + d = ws.length → pre.length = i → d < k →
    PQ.ref39_PutV.l1 k ws pre (i : Int) x.f0 x.f1 x.f2 = some (pre ++ insI x (ws.drop i), 0)
  | 0, i, pre, k, hd, hp, hk => by
    obtain ⟨k, rfl⟩ : ∃ m, k = m + 1 := ⟨k - 1, by omega⟩
    unfold PQ.ref39_PutV.l1
    have e : ws.drop i = [] := List.drop_of_length_le (by omega)
    have e2 : ws.drop ((i : Int).toNat) = [] := by rw [Int.toNat_natCast]; exact e
    rw [if_neg (by omega), if_pos (by omega), Option.bind_some, if_pos (by omega), if_pos (by omega), Option.bind_some, e, e2, if_pos (by rw [List.length_append, List.length_singleton]; simp; omega)]
    simp [insI]
  | d + 1, i, pre, k, hd, hp, hk => by
    obtain ⟨k, rfl⟩ : ∃ m, k = m + 1 := ⟨k - 1, by omega⟩
    unfold PQ.ref39_PutV.l1
    have hil : i < ws.length := by omega
    have e := drop_gx ws i hil
    have e2 : ws.drop ((i : Int).toNat) = ws.drop i := by rw [Int.toNat_natCast]
    have hw : wrap64 ((i : Int) + 1) = ((i + 1 : Nat) : Int) := by unfold wrap64; omega
    rw [if_pos (by omega), if_pos (by omega), rd_gx, ahead_f, Option.bind_some, e2, hw, e]
    unfold insI
    by_cases hlt : ltI (gx ws i) x
    · rw [if_pos (@decide_eq_true _ (Classical.propDecidable _) hlt), if_pos (by omega), if_pos hlt, putl1 ws x hl d (i + 1) (pre ++ [gx ws i]) k (by omega) (by rw [List.length_append, List.length_singleton]; omega) (by omega), List.append_assoc]
      rfl
    · rw [if_neg (fun e => hlt (@of_decide_eq_true _ (Classical.propDecidable _) e)), if_pos (by omega), Option.bind_some, if_pos (by omega), Option.bind_some, if_neg hlt, if_pos (by
        rw [List.length_append, List.length_singleton, ← e, List.length_drop]; omega), List.append_assoc]
      rfl
theorem putl0 (ws : List It) (x : It) (S : ByteArray → Bool) (hS : ∀ t, S t = true ↔ t ∈ ws.map (·.f0)) (hl : ws.length ≤ 1000) : ∀ (d i : Nat) (k : Nat), i + d = ws.length → d + ws.length + 1 < k → (∀ j, j < i → (gx ws j).f0 ≠ x.f0) →
    PQ.ref39_PutV.l0 k ws (i : Int) x.f0 x.f1 x.f2 = some (if S x.f0 = true then (ws, 6) else if 200 ≤ ws.length then (ws, 4) else (insI x ws, 0))
  | 0, i, k, hd, hk, hn => by
    obtain ⟨k, rfl⟩ : ∃ m, k = m + 1 := ⟨k - 1, by omega⟩
    unfold PQ.ref39_PutV.l0
    have hm : ¬ x.f0 ∈ ws.map (·.f0) := by
      intro h
      obtain ⟨y, hy, he⟩ := List.mem_map.1 h
      obtain ⟨j, hj, rfl⟩ := List.getElem_of_mem hy
      have e : gx ws j = ws[j] := by unfold gx; rw [List.getD_eq_getElem?_getD, List.getElem?_eq_getElem hj]; rfl
      exact hn j (by omega) (by rw [e]; exact he)
    rw [if_neg (by omega), if_neg (fun e => hm ((hS _).1 e))]
    by_cases h2 : 200 ≤ ws.length
    · rw [if_pos (show (ws.length : Int) ≥ 200 by omega), if_pos h2]
    · rw [if_neg (show ¬ (ws.length : Int) ≥ 200 by omega), if_neg h2]
      exact putl1 ws x hl ws.length 0 [] k (by omega) rfl (by omega)
  | d + 1, i, k, hd, hk, hn => by
    obtain ⟨k, rfl⟩ : ∃ m, k = m + 1 := ⟨k - 1, by omega⟩
    unfold PQ.ref39_PutV.l0
    have hil : i < ws.length := by omega
    have hw : wrap64 ((i : Int) + 1) = ((i + 1 : Nat) : Int) := by unfold wrap64; omega
    rw [if_pos (by omega), if_pos (by omega), rd_gx, hw]
    by_cases he : (gx ws i).f0.toList = x.f0.toList
    · rw [if_pos he, if_pos ((hS _).2 (List.mem_map.2 ⟨gx ws i, gx_mem0 ws i hil, ba_ext he⟩))]
    · rw [if_neg he]
      exact putl0 ws x S hS hl d (i + 1) k (by omega) (by omega) (fun j hj => by
        by_cases e : j = i
        · subst e; exact fun h => he (by rw [h])
        · exact hn j (by omega))
theorem put_f (ws : List It) (x : It) (S : ByteArray → Bool) (hS : ∀ t, S t = true ↔ t ∈ ws.map (·.f0)) (hl : ws.length ≤ 1000) : PQ.ref39_PutV.f (2 * ws.length + 2) ws x.f0 x.f1 x.f2 = some (if S x.f0 = true then (ws, 6) else if 200 ≤ ws.length then (ws, 4) else (insI x ws, 0)) :=
  putl0 ws x S hS hl ws.length 0 (2 * ws.length + 2) (by omega) (by omega) (fun j hj => by omega)
/-- The document's list beside the heap. -/
structure Two (xs ws : List It) (S : ByteArray → Bool) : Prop where
  inv : Inv xs S
  perm : ws.Perm xs
  sorted : ws.Pairwise ltI
theorem Two.nil : Two [] [] (fun _ => false) := ⟨Inv.nil, List.Perm.refl _, List.Pairwise.nil⟩
theorem Two.there {xs ws : List It} {S : ByteArray → Bool} (h : Two xs ws S) (t : ByteArray) : S t = true ↔ t ∈ ws.map (·.f0) := (h.inv.names t).trans ((h.perm.map (·.f0)).mem_iff).symm
theorem Two.put {xs ws : List It} {S : ByteArray → Bool} (h : Two xs ws S) (x : It) (hS : S x.f0 = false) : Two (upF xs.length (xs ++ [x]) xs.length) (insI x ws) (fun t => decide (t = x.f0) || S t) :=
  ⟨h.inv.put x hS, (insI_perm x ws).trans ((List.Perm.cons x h.perm).trans (put_perm xs x).symm), insI_sorted x ws h.sorted (fun y hy e => by
    have := (h.there x.f0).2 (List.mem_map.2 ⟨y, hy, e⟩)
    rw [hS] at this
    cases this)⟩
theorem Two.pop {xs ws : List It} {S : ByteArray → Bool} (h : Two xs ws S) (h0 : 0 < xs.length) : gx ws 0 = gx xs 0 ∧ Two (popL xs) (ws.drop 1) (fun t => !decide (t = (gx xs 0).f0) && S t) := by
  have hp := pop_perm xs h0
  have hi := h.inv.pop h0
  have hwl := h.perm.length_eq
  match ws, h, hwl with
  | w0 :: rest, h, hwl =>
    have hs := List.pairwise_cons.1 h.sorted
    have e : w0 = gx xs 0 := by
      by_cases e : w0 = gx xs 0
      · exact e
      · have h1 : w0 ∈ gx xs 0 :: popL xs := hp.mem_iff.2 (h.perm.mem_iff.1 (List.mem_cons.2 (.inl rfl)))
        have h2 : gx xs 0 ∈ w0 :: rest := h.perm.mem_iff.2 (hp.mem_iff.1 (List.mem_cons.2 (.inl rfl)))
        rcases List.mem_cons.1 h1 with h1 | h1
        · exact h1
        · rcases List.mem_cons.1 h2 with h2 | h2
          · exact h2.symm
          · exact absurd (hs.1 _ h2) (lt_asymm (hi.2 _ h1))
    refine ⟨e, hi.1, ?_, hs.2⟩
    have h3 := h.perm.trans hp.symm
    rw [e] at h3
    exact h3.cons_inv
  | [], h, hwl => simp at hwl; omega
end Go.Proofs.Ytdpcfamgmicboae
