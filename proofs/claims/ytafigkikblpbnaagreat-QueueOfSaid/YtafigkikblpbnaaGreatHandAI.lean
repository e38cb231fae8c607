/- The items sorted; no condition beyond each theorem its own. -/
import Derived.Test.YtafigkikblpbnaaGreatJ11
import Derived.Test.YtafigkikblpbnaaGreatLay
namespace Go.Proofs.YtafigkikblpbnaaGreat.PG
open Go.RowKit Go.Proofs.YtafigkikblpbnaaGreatW.PrintWords Go.Proofs.YtafigkikblpbnaaGreatW.PrintLast Go.Proofs.YtafigkikblpbnaaGreatW.PrintMore
set_option linter.unusedVariables false
set_option linter.unusedSimpArgs false
set_option maxRecDepth 100000
open Go.Sort
/-- An item's cells. -/
def enc40 (x : S40) : List Value := [.string x.f0, .int .i64 x.f1, .int .i64 x.f2]
instance : Inhabited S40 := ⟨z40⟩
theorem isAgg39 : ∀ w, (isAgg (Tryz.sortIt_ren.t 24)).run Tryz.prog w = .ok true w := Tryz.isAgg39
theorem sizeOf39 : ∀ w, (Go.sizeOf (Tryz.sortIt_ren.t 24)).run Tryz.prog w = .ok 3 w := Tryz.sizeOf39
theorem cells40 {W : World} {base g cap : Nat} {ok : Nat → Prop} {xs : List S40} (hR : Kd.R k40 39 W base ok (.slice (some ⟨g, 0, none⟩) xs.length cap) xs) (i : Nat) (hi : i < xs.length) (c : Nat) (hc : c < 3) :
    W.cell? ⟨g, i * 3 + c, none⟩ = some (enc40 (xs.getD i z40))[c]! := by
  obtain ⟨cs, hcl, hM, hcc, _⟩ := Kd.R_elem hR z40 (i : Int) (by omega) (by omega)
  have e := k40_openM hM
  subst e
  rw [Int.toNat_natCast] at hcc
  have h3 : c = 0 ∨ c = 1 ∨ c = 2 := by omega
  rcases h3 with rfl | rfl | rfl
  · exact hcc 0 _ rfl
  · exact hcc 1 _ rfl
  · exact hcc 2 _ rfl
theorem holds40 {W : World} {base g cap : Nat} {ok : Nat → Prop} {xs : List S40} (hR : Kd.R k40 39 W base ok (.slice (some ⟨g, 0, none⟩) xs.length cap) xs) {cells : Array Value} (hg : W.heap[g]? = some (.cells cells 39 (0, 0))) : HoldsK enc40 3 W g 0 xs.toArray := by
  intro j hj
  rw [size_flatK] at hj
  have hj' : j < xs.length * 3 := by simpa using hj
  rw [get_flatK _ _ _ _ hj]
  refine ⟨?_, blk_frozen hg _⟩
  have h := cells40 hR (j / 3) (by omega) (j % 3) (by omega)
  have e1 : j / 3 * 3 + j % 3 = j := by omega
  rw [e1] at h
  have e2 : (xs.toArray)[j / 3]! = xs.getD (j / 3) z40 := by
    rw [getElem!_pos xs.toArray (j / 3) (by simp; omega), List.getD_eq_getElem?_getD, List.getElem?_eq_getElem (by omega)]
    simp
  rw [e2, Nat.zero_add]
  exact h
theorem reads40 {W : World} {g : Nat} {xs : List S40} (h : HoldsK enc40 3 W g 0 xs.toArray) (hm : xs.length ≤ 9223372036854775807) : Kd.C k40 W (some ⟨g, 0, none⟩) xs.length xs := by
  refine ⟨rfl, hm, fun _ => ⟨⟨g, 0, none⟩, rfl, fun j p hj => ?_⟩⟩
  have hjl : j < xs.length := (List.getElem?_eq_some_iff.1 hj).1
  have hp : xs.toArray[j]! = p := by
    rw [getElem!_pos xs.toArray j (by simpa using hjl)]
    simpa [List.getElem?_eq_getElem hjl] using hj
  refine ⟨enc40 p, rfl, Kd.K_of_M k40 (k40_mkM W 0 (fun _ => True) p), fun i u hu => ?_⟩
  have hi : i < 3 := (List.getElem?_eq_some_iff.1 hu).1
  have hc := (h.cell (i := j) (c := i) (by simpa using hjl) hi).1
  rw [hp, Nat.zero_add] at hc
  have e : (enc40 p)[i]! = u := by
    rw [getElem!_pos (enc40 p) i hi]
    have := List.getElem?_eq_getElem (l := enc40 p) hi
    rw [this] at hu
    exact Option.some.inj hu
  rw [e] at hc
  have ea : (⟨g, 0, none⟩ : Addr).add (j * k40.sz + i) = ⟨g, j * 3 + i, none⟩ := by
    show Addr.add ⟨g, 0, none⟩ (j * 3 + i) = _
    unfold Addr.add
    split
    · rename_i h0
      simp [h0]
    · simp
  rw [ea]
  exact hc
theorem bl_irr : ∀ a : List UInt8, Op.bytesLess a a = false
  | [] => rfl
  | x :: xs => by
    have h2 : ¬ x < x := fun g => absurd (show x.toNat < x.toNat from g) (by omega)
    simp [Op.bytesLess, h2, bl_irr xs]
theorem bl_trans : ∀ a b c : List UInt8, Op.bytesLess a b = true → Op.bytesLess b c = true → Op.bytesLess a c = true
  | _, [], _, h, _ => by simp [Op.bytesLess] at h
  | _, _ :: _, [], _, h => by simp [Op.bytesLess] at h
  | [], _ :: _, _ :: _, _, _ => by simp [Op.bytesLess]
  | x :: xs, y :: ys, z :: zs, h1, h2 => by
    simp only [Op.bytesLess, Bool.or_eq_true, decide_eq_true_eq, Bool.and_eq_true, beq_iff_eq] at h1 h2 ⊢
    rcases h1 with h1 | ⟨h1, h1'⟩
    · have k1 : x.toNat < y.toNat := h1
      rcases h2 with h2 | ⟨h2, h2'⟩
      · have k2 : y.toNat < z.toNat := h2
        exact .inl (show x.toNat < z.toNat by omega)
      · subst h2; exact .inl h1
    · subst h1
      rcases h2 with h2 | ⟨h2, h2'⟩
      · exact .inl h2
      · exact .inr ⟨h2, bl_trans xs ys zs h1' h2'⟩
theorem bl_gt (a b : List UInt8) (h1 : ¬ Op.bytesLess a b = true) (h2 : ¬ Op.bytesLess b a = true) : a = b := by
  have h := bytes_gtr a b
  simp only [Bool.not_eq_true] at h1 h2
  rw [h1, h2] at h
  simpa using h
theorem ba_ext {a b : ByteArray} (h : a.toList = b.toList) : a = b := by
  rw [ByteArray.toList_eq, ByteArray.toList_eq] at h
  have h2 := Array.toList_inj.1 h
  cases a
  cases b
  simp only at h2
  rw [h2]
theorem ltB_iff (a b : S40) : ltB a b = true ↔ (a.f1 < b.f1 ∨ a.f1 = b.f1 ∧ (a.f2 < b.f2 ∨ a.f2 = b.f2 ∧ Op.bytesLess a.f0.toList b.f0.toList = true)) := by
  unfold ltB
  by_cases h1 : a.f1 = b.f1
  · rw [if_pos h1]
    by_cases h2 : a.f2 = b.f2
    · rw [if_pos h2]
      exact ⟨fun h => .inr ⟨h1, .inr ⟨h2, h⟩⟩, fun h => by rcases h with h | ⟨_, h | ⟨_, h⟩⟩ <;> first | exact h | omega⟩
    · rw [if_neg h2]
      exact ⟨fun h => .inr ⟨h1, .inl (of_decide_eq_true h)⟩, fun h => by
        rcases h with h | ⟨_, h | ⟨h, _⟩⟩
        · omega
        · exact decide_eq_true h
        · exact absurd h h2⟩
  · rw [if_neg h1]
    exact ⟨fun h => .inl (of_decide_eq_true h), fun h => by
      rcases h with h | ⟨h, _⟩
      · exact decide_eq_true h
      · exact absurd h h1⟩
theorem ltB_irr (a : S40) : ltB a a = false := by
  cases h : ltB a a
  · rfl
  · exfalso
    rcases (ltB_iff a a).1 h with h | ⟨_, h | ⟨_, h⟩⟩
    · omega
    · omega
    · rw [bl_irr] at h; cases h
theorem ltB_trans {a b c : S40} (h : ltB a b = true) (k : ltB b c = true) : ltB a c = true := by
  rw [ltB_iff] at h k ⊢
  rcases h with h | ⟨h, h | ⟨h', h''⟩⟩ <;> rcases k with k | ⟨k, k | ⟨k', k''⟩⟩ <;> try (left; omega)
  · right; exact ⟨by omega, .inl (by omega)⟩
  · right; exact ⟨by omega, .inl (by omega)⟩
  · right; exact ⟨by omega, .inl (by omega)⟩
  · right; exact ⟨by omega, .inr ⟨by omega, bl_trans _ _ _ h'' k''⟩⟩
/-- Where neither is ahead, they are one. -/
theorem ltB_tot (a b : S40) (h : ltB a b = false) (k : ltB b a = false) : a = b := by
  have h1 : ¬ _ := fun g => by rw [(ltB_iff a b).2 g] at h; cases h
  have k1 : ¬ _ := fun g => by rw [(ltB_iff b a).2 g] at k; cases k
  have e1 : a.f1 = b.f1 := by omega
  have e2 : a.f2 = b.f2 := by omega
  have e3 := ba_ext (bl_gt _ _ (fun g => h1 (.inr ⟨e1, .inr ⟨e2, g⟩⟩)) (fun g => k1 (.inr ⟨e1.symm, .inr ⟨e2.symm, g⟩⟩)))
  cases a
  cases b
  simp only at e1 e2 e3
  rw [e1, e2, e3]
theorem ltB_asy (a b : S40) (h : ltB a b = true) : ¬ ltB b a = true := fun k => by
  have := ltB_trans h k
  rw [ltB_irr] at this
  cases this
/-- One item is less than another. -/
theorem lt_ord (a b : S40) : ltOf ordI a b = ltB a b := by
  unfold ltOf ordI ltB cI cS
  by_cases h1 : a.f1 = b.f1
  · rw [if_pos h1]
    by_cases h2 : a.f2 = b.f2
    · rw [if_pos h2]
      simp only [h1, h2, Int.lt_irrefl, if_false, gt_iff_lt, ne_eq, not_true_eq_false]
      cases Op.bytesLess a.f0.toList b.f0.toList
      · cases Op.bytesLess b.f0.toList a.f0.toList <;> decide
      · simp
    · rw [if_neg h2]
      simp only [h1, Int.lt_irrefl, if_false, gt_iff_lt, ne_eq, not_true_eq_false]
      by_cases h3 : a.f2 < b.f2
      · simp [h3]
      · have h4 : b.f2 < a.f2 := by omega
        simp [h3, h4]
  · rw [if_neg h1]
    by_cases h3 : a.f1 < b.f1
    · simp [h3]
    · have h4 : b.f1 < a.f1 := by omega
      simp [h3, h4]
theorem swo40 : SWO (ltOf ordI) where
  irrefl x := by rw [lt_ord]; exact ltB_irr x
  trans x y z h1 h2 := by rw [lt_ord] at *; exact ltB_trans h1 h2
  ntrans x y z h1 h2 := by
    rw [lt_ord] at *
    cases h : ltB x z
    · rfl
    · exfalso
      by_cases e : ltB z y = true
      · rw [ltB_trans h e] at h1; cases h1
      · have hz : ltB z y = false := by simpa using e
        have := ltB_tot y z h2 hz
        subst this
        rw [h] at h1
        cases h1
theorem tot40 (x y : S40) (h1 : ltOf ordI x y = false) (h2 : ltOf ordI y x = false) : x = y := by rw [lt_ord] at *; exact ltB_tot x y h1 h2
/-- Items in order. -/
def sortI (xs : List S40) : List S40 := xs.mergeSort fun x y => !(ltOf ordI) y x
theorem sortI_perm (xs : List S40) : (sortI xs).Perm xs := List.mergeSort_perm _ _
theorem cmp40 (blk off size : Nat) (w : World) : CmpLays Tryz.prog 23 #[] enc40 3 ordI blk off size w := fun _ _ _ _ x y => order_eq x y _
theorem below_sorted {w0 W : World} {base g n : Nat} {d : Array S40} {os : Array Obj} (hb : Below base w0 W) (hg : base ≤ g) (hbase : base ≤ W.heap.size) : Below base w0 (sortWorldK enc40 3 W g 0 n d os) := by
  refine hb.trans ⟨rfl, rfl, rfl, ?_, fun k hk => ?_⟩
  · show W.heap.size ≤ (Array.modify W.heap g _ ++ os).size
    rw [Array.size_append, Array.size_modify]
    omega
  · show (Array.modify W.heap g _ ++ os)[k]? = _
    rw [Array.getElem?_append_left (by rw [Array.size_modify]; omega), Array.getElem?_modify, if_neg (by omega)]
set_option maxHeartbeats 2000000 in
theorem Sort_any (xs : List S40) (base : Nat) (v : Value) (w0 W : World) (hR : Kd.R k40 39 W base (fun _ => True) v xs) (hb : Below base w0 W) (hbase : base ≤ W.heap.size) (hm : xs.length ≤ 1000000) :
    Calls Tryz.prog 22 #[v, .func (.func 23) #[] #[]] W fun e w' => e = .returned (.tuple #[]) ∧ ∃ A c, v = .slice A xs.length c ∧ xs.length ≤ c ∧ Kd.C k40 w' A xs.length (sortI xs) ∧ Below base w0 w' := by
  by_cases h0 : 0 < xs.length
  · obtain ⟨g, cap, rfl, hg1, hg2, cells, hg3⟩ := Kd.R_form hR h0
    have hl := (Kd.R_reads' hR).2.1
    have eg : ∀ args w, (callFunc 23 args).run Tryz.prog w = .ok (.enter 23 args) w := enters_of Tryz.func23 (by kernel_rfl) rfl
    have hH := holds40 hR hg3
    have h := AnyQ.slices_SortFunc_total Tryz.sortIt 3 isAgg39 sizeOf39 enc40 (fun _ => rfl) (fun x v hv => by simp [enc40] at hv; rcases hv with rfl | rfl | rfl <;> rfl) ordI swo40 23 #[] g 0 cap xs.toArray W eg (cmp40 g 0 xs.toArray.size W) hH hg2 (by simp; omega) tot40
    refine Calls.mono (calls_of_args (by simp) h) ?_
    rintro e w' ⟨rfl, n, os, rfl⟩
    have hs := holdsK_sortWorldK enc40 3 W g 0 n xs.toArray (sortI xs).toArray os hg2 hH (by simp [(sortI_perm xs).length_eq])
    have hlen := (sortI_perm xs).length_eq
    have hC := reads40 hs (by omega)
    rw [hlen] at hC
    exact ⟨rfl, _, _, rfl, hl, hC, below_sorted hb hg1 hbase⟩
  · have e : xs = [] := List.eq_nil_of_length_eq_zero (by omega)
    subst e
    obtain ⟨A, c, rfl, hl, hC⟩ := Kd.R_reads hR
    have h := AnyF.slices_SortFunc_none (P := Tryz.prog) (ρ := Tryz.sortIt_ren) { Tryz.sortIt with } A c (.func (.func 23) #[] #[]) W
    refine Calls.mono h ?_
    rintro e w' ⟨rfl, rfl⟩
    exact ⟨rfl, A, c, rfl, hl, by simpa [sortI] using hC, hb⟩
end Go.Proofs.YtafigkikblpbnaaGreat.PG
