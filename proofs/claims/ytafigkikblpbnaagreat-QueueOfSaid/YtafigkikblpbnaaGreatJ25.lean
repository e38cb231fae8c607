/- The queue's map of names, told as a set. Contracts of the package queue's functions: swap. Contracts of the package queue's functions: order and up. Contracts of the package queue's functions: down. Contracts of the package queue's functions: is, Len and Put. Contracts of the package queue's functions: Pop and New. Contracts of the package queue's functions: New, and the page's example; no condition beyond each theorem its own. -/
import Derived.Test.YtafigkikblpbnaaGreatProg
import Derived.Maps.OwnSet
import Derived.WalkKit
import Derived.KernelRfl
import Derived.Lib.Hide
import Derived.Test.YtafigkikblpbnaaGreatJ02
import Derived.Test.YtafigkikblpbnaaGreatJ11
namespace Go.Proofs.YtafigkikblpbnaaGreat
set_option maxRecDepth 100000
open Go.RowKit Go.Maps Go.WideMaps
theorem lawS : Keyed Tryz.prog 9 := string_keyed Tryz.underlying9
theorem zeroB (w : World) : (zeroValue 4).run Tryz.prog w = .ok (.bool false) w := by kernel_rfl
/-- Block b is a map of at most so many names: those that S says. -/
def HasMap (w : World) (b cnt : Nat) (S : ByteArray → Bool) : Prop :=
  ∃ D : DataW Unit, w.ownsMap Tryz.prog 9 (plainElem Tryz.prog 4) b cnt D ∧ ∀ s : ByteArray, s.size ≤ maxLen → D.atKey (.string s.data.toList) (.lit (.bool false)) = .lit (.bool (S s))
theorem plainB_inv {v : Value} {c : Bool} {ps : List MemPlace} (h : plainElem (H := Unit) Tryz.prog 4 v = some (.lit (.bool c), ps)) : v = .bool c := by
  unfold plainElem at h
  rw [Tryz.underlying4] at h
  cases v <;> simp at h
  rename_i b
  first | (obtain ⟨h1, _⟩ := h; rw [h1]) | (rw [h.1]) | (cases h; rfl)
theorem lit_ne {s t : ByteArray} (h : t ≠ s) : (Lit.string t.data.toList) ≠ Lit.string s.data.toList := by
  intro e
  injection e with e
  apply h
  obtain ⟨a⟩ := s
  obtain ⟨b⟩ := t
  have : b = a := Array.toList_inj.1 e
  rw [this]
theorem HasMap.made (w : World) : HasMap (w.alloc (.map #[] 0)) w.heap.size 0 (fun _ => false) :=
  ⟨_, World.ownsMap_made _ _ _ _, fun _ _ => rfl⟩
theorem HasMap.lookup {w : World} {b cnt : Nat} {S : ByteArray → Bool} (h : HasMap w b cnt S) (s : ByteArray) (hs : s.size ≤ maxLen) : (Instr.lookup 111 (.map (some b)) (.string s) false).run Tryz.prog w = .ok (.bool (S s)) w := by
  obtain ⟨D, hD, hS⟩ := h
  obtain ⟨v, ps, hrun, hv⟩ := hD.lookup lawS Tryz.underlying111 (zeroB w) (plainElem_bool Tryz.underlying4 false) (keyOf_string_mk Tryz.underlying9 hs)
  rw [hS s hs] at hv
  rw [hrun, plainB_inv hv]
theorem HasMap.put {w : World} {b cnt : Nat} {S : ByteArray → Bool} (h : HasMap w b cnt S) (hn : cnt < maxLen) (s : ByteArray) (hs : s.size ≤ maxLen) :
    ∃ w', (Instr.mapUpdate 111 (.map (some b)) (.string s) (.bool true)).run Tryz.prog w = .ok () w' ∧ HasMap w' b (cnt + 1) (fun t => decide (t = s) || S t) ∧ w.grownBy w' (some b) := by
  obtain ⟨D, hD, hS⟩ := h
  obtain ⟨w', hrun, h1, h2⟩ := hD.update lawS Tryz.underlying111 hn (keyOf_string_mk Tryz.underlying9 hs) (plainElem_bool Tryz.underlying4 true)
  refine ⟨w', hrun, ⟨_, h1, fun t ht => ?_⟩, h2⟩
  by_cases e : t = s
  · subst e
    rw [atKey_put_same hD.isMap (show WideAt.IsKeyLit (.string _) from trivial)]
    simp
  · rw [atKey_put_other (lit_ne e), hS t ht]
    simp [e]
theorem HasMap.del {w : World} {b cnt : Nat} {S : ByteArray → Bool} (h : HasMap w b cnt S) (s : ByteArray) (hs : s.size ≤ maxLen) (ty : TypeId) :
    ∃ w', (Builtin.delete_ #[111, 9] ty #[.map (some b), .string s]).run Tryz.prog w = .ok (.tuple #[]) w' ∧ HasMap w' b cnt (fun t => !decide (t = s) && S t) ∧ w.grownBy w' (some b) := by
  obtain ⟨D, hD, hS⟩ := h
  obtain ⟨w', hrun, h1, h2⟩ := hD.drop lawS Tryz.underlying111 (keyOf_string_mk Tryz.underlying9 hs) ty
  refine ⟨w', hrun, ⟨_, h1, fun t ht => ?_⟩, ?_⟩
  · by_cases e : t = s
    · subst e
      rw [atKey_del_same]
      simp
    · rw [atKey_del_other (lit_ne e), hS t ht]
      simp [e]
  · exact h2.grown
theorem HasMap.kept {w w' : World} {b cnt : Nat} {S : ByteArray → Bool} {row : Option Nat} (h : HasMap w b cnt S) (hg : w.grownBy w' row) (hne : some b ≠ row) : HasMap w' b cnt S := by
  obtain ⟨D, hD, hS⟩ := h
  exact ⟨D, hD.kept hg hne, hS⟩
end Go.Proofs.YtafigkikblpbnaaGreat
namespace Go.Proofs.YtafigkikblpbnaaGreat
open Go.RowKit Go.Proofs.YtafigkikblpbnaaGreatW.PrintWords Go.Proofs.YtafigkikblpbnaaGreatW.PrintLast Go.Proofs.YtafigkikblpbnaaGreatW.PrintMore
set_option linter.unusedVariables false
set_option maxRecDepth 100000
set_option linter.unusedSimpArgs false

abbrev It := PG.S40
abbrev seg28 (y : It) : List Value := [.string y.f0, .int .i64 y.f1, .int .i64 y.f2]
theorem R_put28 {W : World} {base r n c : Nat} {ok : Nat → Prop} {xs : List It} (hR : Kd.R PG.k40 39 W base ok (.slice (some ⟨r, 0, none⟩) n c) xs) (i : Nat) (hi : i < n) (y : It) :
    Kd.R PG.k40 39 (W.setCells r (i * 3) (seg28 y)) base ok (.slice (some ⟨r, 0, none⟩) n c) (xs.set i y) ∧ W.grownBy (W.setCells r (i * 3) (seg28 y)) (some r) := by
  obtain ⟨cs, hcl, hM, hcc, _⟩ := Kd.R_elem hR PG.z40 (i : Int) (by omega) (by omega)
  have h := Kd.R_seg hR (i : Int) (by omega) (by omega) (seg := seg28 y) (j := 0) (x' := y) (okp := fun _ => False) hcl hcc (show 0 + (seg28 y).length ≤ PG.k40.sz from Nat.le_refl 3) (by
    have e : cs.take 0 ++ seg28 y ++ cs.drop (0 + (seg28 y).length) = seg28 y := by
      rw [List.take_zero, List.nil_append, List.drop_of_length_le (by rw [hcl]; exact Nat.le_refl _), List.append_nil]
    rw [e]
    exact PG.k40_mkM _ _ (fun _ => False) y) (fun _ hk => hk.elim)
  exact h
theorem row28 {W : World} {base r n c : Nat} {ok : Nat → Prop} {xs : List It} (hR : Kd.R PG.k40 39 W base ok (.slice (some ⟨r, 0, none⟩) n c) xs) (h0 : 0 < xs.length) :
    ∃ cur, W.heap[r]? = some (.cells cur 39 (0, 0)) ∧ cur.size = c * 3 := by
  obtain ⟨inner, ho⟩ := Kd.R_own hR
  rcases ho.2 with ⟨hv, _⟩ | ⟨r', cap, cur, hv, hb, hh, hl2, hm2, hcs, htk⟩
  · cases hv
  · injection hv with hA hn2 hc2
    injection hA with hA
    injection hA with hA
    subst hA
    subst hc2
    exact ⟨cur, hh, hcs⟩
theorem cells28 {W : World} {base r n c : Nat} {ok : Nat → Prop} {xs : List It} (hR : Kd.R PG.k40 39 W base ok (.slice (some ⟨r, 0, none⟩) n c) xs) (i : Nat) (hi : i < n) :
    ∃ y : It, y = xs.getD i PG.z40 ∧ W.cell? ⟨r, i * 3, none⟩ = some (.string y.f0) ∧ W.cell? ⟨r, i * 3 + 1, none⟩ = some (.int .i64 y.f1) ∧ W.cell? ⟨r, i * 3 + 2, none⟩ = some (.int .i64 y.f2) := by
  obtain ⟨cs, hcl, hM, hcc, _⟩ := Kd.R_elem hR PG.z40 (i : Int) (by omega) (by omega)
  have e := PG.k40_openM hM
  subst e
  rw [Int.toNat_natCast] at hcc
  exact ⟨xs.getD i PG.z40, rfl, hcc 0 _ rfl, hcc 1 _ rfl, hcc 2 _ rfl⟩
theorem st36 {ρ : Operand → Value} {o : Oper} {p x : Operand} {r a : Nat} {cur : Array Value} {w : World} (y : It) (ho : o.op = .store 39 p x) (hp : ρ p = .pointer (some ⟨r, a, none⟩)) (hx : ρ x = .agg #[.string y.f0, .int .i64 y.f1, .int .i64 y.f2])
    (hh : w.heap[r]? = some (.cells cur 39 (0, 0))) (hfit : a + 3 ≤ cur.size) : Sem.run Tryz.prog (execOp ρ o) w = .ok .skip (w.setCells r a (seg28 y)) := by
  have h := run_store_run (P := Tryz.prog) 39 (.agg #[.string y.f0, .int .i64 y.f1, .int .i64 y.f2]) (seg28 y) hh rfl (by kernel_rfl) hfit (fun q hq => by
    rcases List.mem_cons.1 hq with rfl | hq
    · rfl
    · rcases List.mem_cons.1 hq with rfl | hq
      · rfl
      · rcases List.mem_cons.1 hq with rfl | hq
        · rfl
        · cases hq)
  unfold execOp
  rw [ho]
  simp only [hp, hx]
  rw [Sem.run_bind, h]
  rfl

theorem results_none {fn : Func} (h : fn.results = #[]) (tmps : Array Value) (P : Program) (w : World) : (results fn tmps).run P w = .ok (.tuple #[]) w := by
  simp [results, h]
def swapL (xs : List It) (i k : Nat) : List It := (xs.set i (xs.getD k PG.z40)).set k (xs.getD i PG.z40)
theorem swap_any (g : Nat) (A : Option Addr) (n c : Nat) (mv : Value) (xs : List It) (w : World) (base : Nat) (ok : Nat → Prop) (hg : w.heap[g]? = some (.cells #[.bool true, .slice A n c, mv] 113 (0, 0)))
    (hn : xs.length = n) (hR : Kd.R PG.k40 39 w base ok (.slice A n c) xs) (hok : ∀ k, ok k → k ≠ g) (i k : Nat) (hi : i < n) (hk : k < n) (hl : n ≤ 1000000) :
    Calls Tryz.prog 46 #[.pointer (some ⟨g, 0, none⟩), .int .i64 i, .int .i64 k] w fun e w' => e = .returned (.tuple #[]) ∧ Kd.R PG.k40 39 w' base ok (.slice A n c) (swapL xs i k) ∧ w.grownBy w' (Value.slice A n c).ownBlock := by
  go_enter Tryz.func46, Tryz.ntmps46
  go_wp2
  obtain ⟨inner, ho⟩ := Kd.R_own hR
  rcases ho.2 with ⟨_, e0⟩ | ⟨r, cap, cur, hv, hb, hh, hl2, hm2, hcs, htk⟩
  · omega
  injection hv with hA hn2 hc2
  subst hA
  subst hc2
  obtain ⟨cx, hx, h1, h2, h3⟩ := cells28 hR k hk
  obtain ⟨cy, hy, h4, h5, h6⟩ := cells28 hR i hi
  have h0 : w.drew.cell? ⟨g, 1, none⟩ = some (.slice (some ⟨r, 0, none⟩) n c) := (blk_cell hg 1).trans rfl
  have hR1 := Lib.hid (R_put28 (Kd.R_drew hR) i hi cx)
  have hR2 := Lib.hid (R_put28 hR1.out.1 k hk cy)
  have hcsz : cur.size = c * 3 := hcs
  have hcn : n ≤ c := by rw [hn] at hl2; exact hl2
  obtain ⟨cur1, hh1, hs1⟩ := row28 hR1.out.1 (by rw [List.length_set]; omega)
  have HX := Lib.hid hx
  have HY := Lib.hid hy
  clear hR htk hx hy ho hm2 hl2 hcs
  generalize hpk : k * 3 = pk at *
  generalize hpi : i * 3 = pi at *
  have hf1 : pi + 3 ≤ cur.size := by omega
  have hf2 : pk + 3 ≤ cur1.size := by omega
  have hki : (k : Int) < (n : Int) := by omega
  have hii : (i : Int) < (n : Int) := by omega
  have HHD := Lib.hid (show w.drew.heap[r]? = some (.cells cur 39 (0, 0)) from hh)
  have HH1 := Lib.hid hh1
  have HN := Lib.hid hn
  have HG := Lib.hid hg
  clear hh hh1 hn hg hs1 hcsz hcn hn2
  refine start_ (n := 28) (S := fun w' => w'.cell? ⟨g, 1, none⟩ = some (.slice (some ⟨r, 0, none⟩) n c) ∧ w'.cell? ⟨r, pk, none⟩ = some (.string cx.f0) ∧ w'.cell? ⟨r, pk + 1, none⟩ = some (.int .i64 cx.f1) ∧ w'.cell? ⟨r, pk + 2, none⟩ = some (.int .i64 cx.f2) ∧ w'.cell? ⟨r, pi, none⟩ = some (.string cy.f0) ∧ w'.cell? ⟨r, pi + 1, none⟩ = some (.int .i64 cy.f1) ∧ w'.cell? ⟨r, pi + 2, none⟩ = some (.int .i64 cy.f2)) (ds := [25, 27]) #[false, false, false, false, false, false, false, false, false, false, false, false, false, false, false, false, false, false, false, false, false, false, false, false, false, false, false, false] (by kernel_rfl) rfl rfl ⟨h0, h1, h2, h3, h4, h5, h6⟩ (fun hHeld => ?_)
  refine pure_ (i := 0) (N := some 6) (v := ?_) (a' := ?_) #[true, false, false, false, false, false, false, false, false, false, false, false, false, false, false, false, false, false, false, false, false, false, false, false, false, false, false, false] rfl rfl (by kernel_rfl) (fun _ _ _ h => h) (Or.inl ⟨by rfl, ?_⟩) ?_ ?_
  rotate_left
  · intro w'
    go_simp
    with_reducible rfl
  rotate_left
  · simp only [Act.put, List.setIfInBounds_toArray, List.set_cons_zero, List.set_cons_succ, i64_w, i32_w]
    rfl
  refine pure_ (i := 1) (N := some 7) (v := ?_) (a' := ?_) #[true, true, false, false, false, false, false, false, false, false, false, false, false, false, false, false, false, false, false, false, false, false, false, false, false, false, false, false] rfl rfl (by kernel_rfl) (fun _ _ _ h => h) (Or.inl ⟨by rfl, ?_⟩) ?_ ?_
  rotate_left
  · intro w'
    go_simp
    with_reducible rfl
  rotate_left
  · simp only [Act.put, List.setIfInBounds_toArray, List.set_cons_zero, List.set_cons_succ, i64_w, i32_w]
    rfl
  refine pure_ (i := 2) (N := some 8) (v := ?_) (a' := ?_) #[true, true, true, false, false, false, false, false, false, false, false, false, false, false, false, false, false, false, false, false, false, false, false, false, false, false, false, false] rfl rfl (by kernel_rfl) (fun _ _ _ h => h) (Or.inl ⟨by rfl, ?_⟩) ?_ ?_
  rotate_left
  · intro w'
    go_simp
    with_reducible rfl
  rotate_left
  · simp only [Act.put, List.setIfInBounds_toArray, List.set_cons_zero, List.set_cons_succ, i64_w, i32_w]
    rfl
  refine pure_ (i := 4) (N := some 10) (v := ?_) (a' := ?_) #[true, true, true, false, true, false, false, false, false, false, false, false, false, false, false, false, false, false, false, false, false, false, false, false, false, false, false, false] rfl rfl (by kernel_rfl) (fun _ _ _ h => h) (Or.inl ⟨by rfl, ?_⟩) ?_ ?_
  rotate_left
  · intro w'
    go_simp
    with_reducible rfl
  rotate_left
  · simp only [Act.put, List.setIfInBounds_toArray, List.set_cons_zero, List.set_cons_succ, i64_w, i32_w]
    rfl
  refine pure_ (i := 5) (N := some 11) (v := ?_) (a' := ?_) #[true, true, true, false, true, true, false, false, false, false, false, false, false, false, false, false, false, false, false, false, false, false, false, false, false, false, false, false] rfl rfl (by kernel_rfl) (fun _ _ _ h => h) (Or.inl ⟨by rfl, ?_⟩) ?_ ?_
  rotate_left
  · intro w'
    go_simp
    with_reducible rfl
  rotate_left
  · simp only [Act.put, List.setIfInBounds_toArray, List.set_cons_zero, List.set_cons_succ, i64_w, i32_w]
    rfl
  refine pure_ (i := 6) (N := some 12) (v := ?_) (a' := ?_) #[true, true, true, false, true, true, true, false, false, false, false, false, false, false, false, false, false, false, false, false, false, false, false, false, false, false, false, false] rfl rfl (by kernel_rfl) (fun _ _ _ h => h) (Or.inl ⟨by rfl, ?_⟩) ?_ ?_
  rotate_left
  · intro w'
    go_simp
    with_reducible rfl
  rotate_left
  · simp only [Act.put, List.setIfInBounds_toArray, List.set_cons_zero, List.set_cons_succ, i64_w, i32_w]
    rfl
  refine pure_ (i := 7) (N := some 13) (v := ?_) (a' := ?_) #[true, true, true, false, true, true, true, true, false, false, false, false, false, false, false, false, false, false, false, false, false, false, false, false, false, false, false, false] rfl rfl (by kernel_rfl) (fun _ _ _ h => h) (Or.inl ⟨by rfl, ?_⟩) ?_ ?_
  rotate_left
  · intro w'
    go_simp
    with_reducible rfl
  rotate_left
  · simp only [Act.put, List.setIfInBounds_toArray, List.set_cons_zero, List.set_cons_succ, i64_w, i32_w]
    rfl
  refine pure_ (i := 9) (N := some 15) (v := ?_) (a' := ?_) #[true, true, true, false, true, true, true, true, false, true, false, false, false, false, false, false, false, false, false, false, false, false, false, false, false, false, false, false] rfl rfl (by kernel_rfl) (fun _ _ _ h => h) (Or.inl ⟨by rfl, ?_⟩) ?_ ?_
  rotate_left
  · intro w'
    go_simp
    with_reducible rfl
  rotate_left
  · simp only [Act.put, List.setIfInBounds_toArray, List.set_cons_zero, List.set_cons_succ, i64_w, i32_w]
    rfl
  refine pure_ (i := 10) (N := some 16) (v := ?_) (a' := ?_) #[true, true, true, false, true, true, true, true, false, true, true, false, false, false, false, false, false, false, false, false, false, false, false, false, false, false, false, false] rfl rfl (by kernel_rfl) (fun _ _ _ h => h) (Or.inl ⟨by rfl, ?_⟩) ?_ ?_
  rotate_left
  · intro w'
    go_simp
    with_reducible rfl
  rotate_left
  · simp only [Act.put, List.setIfInBounds_toArray, List.set_cons_zero, List.set_cons_succ, i64_w, i32_w]
    rfl
  refine pure_ (i := 11) (N := some 17) (v := ?_) (a' := ?_) #[true, true, true, false, true, true, true, true, false, true, true, true, false, false, false, false, false, false, false, false, false, false, false, false, false, false, false, false] rfl rfl (by kernel_rfl) (fun _ _ _ h => h) (Or.inl ⟨by rfl, ?_⟩) ?_ ?_
  rotate_left
  · intro w'
    go_simp
    with_reducible rfl
  rotate_left
  · simp only [Act.put, List.setIfInBounds_toArray, List.set_cons_zero, List.set_cons_succ, i64_w, i32_w]
    rfl
  refine pure_ (i := 12) (N := some 18) (v := ?_) (a' := ?_) #[true, true, true, false, true, true, true, true, false, true, true, true, true, false, false, false, false, false, false, false, false, false, false, false, false, false, false, false] rfl rfl (by kernel_rfl) (fun _ _ _ h => h) (Or.inl ⟨by rfl, ?_⟩) ?_ ?_
  rotate_left
  · intro w'
    go_simp
    with_reducible rfl
  rotate_left
  · simp only [Act.put, List.setIfInBounds_toArray, List.set_cons_zero, List.set_cons_succ, i64_w, i32_w]
    rfl
  refine pure_ (i := 14) (N := some 20) (v := ?_) (a' := ?_) #[true, true, true, false, true, true, true, true, false, true, true, true, true, false, true, false, false, false, false, false, false, false, false, false, false, false, false, false] rfl rfl (by kernel_rfl) (fun _ _ _ h => h) (Or.inl ⟨by rfl, ?_⟩) ?_ ?_
  rotate_left
  · intro w'
    go_simp
    with_reducible rfl
  rotate_left
  · simp only [Act.put, List.setIfInBounds_toArray, List.set_cons_zero, List.set_cons_succ, i64_w, i32_w]
    rfl
  refine pure_ (i := 17) (N := some 23) (v := ?_) (a' := ?_) #[true, true, true, false, true, true, true, true, false, true, true, true, true, false, true, false, false, true, false, false, false, false, false, false, false, false, false, false] rfl rfl (by kernel_rfl) (fun _ _ _ h => h) (Or.inl ⟨by rfl, ?_⟩) ?_ ?_
  rotate_left
  · intro w'
    go_simp
    with_reducible rfl
  rotate_left
  · simp only [Act.put, List.setIfInBounds_toArray, List.set_cons_zero, List.set_cons_succ, i64_w, i32_w]
    rfl
  refine pure_ (i := 18) (N := some 24) (v := ?_) (a' := ?_) #[true, true, true, false, true, true, true, true, false, true, true, true, true, false, true, false, false, true, true, false, false, false, false, false, false, false, false, false] rfl rfl (by kernel_rfl) (fun _ _ _ h => h) (Or.inl ⟨by rfl, ?_⟩) ?_ ?_
  rotate_left
  · intro w'
    go_simp
    with_reducible rfl
  rotate_left
  · simp only [Act.put, List.setIfInBounds_toArray, List.set_cons_zero, List.set_cons_succ, i64_w, i32_w]
    rfl
  refine pure_ (i := 19) (N := some 25) (v := ?_) (a' := ?_) #[true, true, true, false, true, true, true, true, false, true, true, true, true, false, true, false, false, true, true, true, false, false, false, false, false, false, false, false] rfl rfl (by kernel_rfl) (fun _ _ _ h => h) (Or.inl ⟨by rfl, ?_⟩) ?_ ?_
  rotate_left
  · intro w'
    go_simp
    with_reducible rfl
  rotate_left
  · simp only [Act.put, List.setIfInBounds_toArray, List.set_cons_zero, List.set_cons_succ, i64_w, i32_w]
    rfl
  refine pure_ (i := 21) (N := some 27) (v := ?_) (a' := ?_) #[true, true, true, false, true, true, true, true, false, true, true, true, true, false, true, false, false, true, true, true, false, true, false, false, false, false, false, false] rfl rfl (by kernel_rfl) (fun _ _ _ h => h) (Or.inl ⟨by rfl, ?_⟩) ?_ ?_
  rotate_left
  · intro w'
    go_simp
    with_reducible rfl
  rotate_left
  · simp only [Act.put, List.setIfInBounds_toArray, List.set_cons_zero, List.set_cons_succ, i64_w, i32_w]
    rfl
  refine take_ (i := 3) (N := some 9) (v := ?_) (a' := ?_) #[true, true, true, true, true, true, true, true, false, true, true, true, true, false, true, false, false, true, true, true, false, true, false, false, false, false, false, false] rfl rfl (by kernel_rfl) (fun _ _ _ h => h) (Or.inl ⟨by rfl, ?_⟩) hHeld ?_ ?_
  rotate_left
  · rintro w' ⟨s0, s1, s2, s3, s4, s5, s6⟩
    go_simp
    with_reducible rfl
  rotate_left
  · simp only [Act.put, List.setIfInBounds_toArray, List.set_cons_zero, List.set_cons_succ, i64_w, i32_w]
    rfl
  refine take_ (i := 8) (N := some 14) (v := ?_) (a' := ?_) #[true, true, true, true, true, true, true, true, true, true, true, true, true, false, true, false, false, true, true, true, false, true, false, false, false, false, false, false] rfl rfl (by kernel_rfl) (fun _ _ _ h => h) (Or.inl ⟨by rfl, ?_⟩) hHeld ?_ ?_
  rotate_left
  · rintro w' ⟨s0, s1, s2, s3, s4, s5, s6⟩
    go_simp
    with_reducible rfl
  rotate_left
  · simp only [Act.put, List.setIfInBounds_toArray, List.set_cons_zero, List.set_cons_succ, i64_w, i32_w]
    rfl
  refine take_ (i := 13) (N := some 19) (v := ?_) (a' := ?_) #[true, true, true, true, true, true, true, true, true, true, true, true, true, true, true, false, false, true, true, true, false, true, false, false, false, false, false, false] rfl rfl (by kernel_rfl) (fun _ _ _ h => h) (Or.inl ⟨by rfl, ?_⟩) hHeld ?_ ?_
  rotate_left
  · rintro w' ⟨s0, s1, s2, s3, s4, s5, s6⟩
    go_simp
    with_reducible rfl
  rotate_left
  · simp only [Act.put, List.setIfInBounds_toArray, List.set_cons_zero, List.set_cons_succ, i64_w, i32_w]
    rfl
  refine pure_ (i := 15) (N := some 21) (v := ?_) (a' := ?_) #[true, true, true, true, true, true, true, true, true, true, true, true, true, true, true, true, false, true, true, true, false, true, false, false, false, false, false, false] rfl rfl (by kernel_rfl) (fun _ _ _ h => h) (Or.inl ⟨by rfl, ?_⟩) ?_ ?_
  rotate_left
  · intro w'
    go_simp
    with_reducible rfl
  rotate_left
  · simp only [Act.put, List.setIfInBounds_toArray, List.set_cons_zero, List.set_cons_succ, i64_w, i32_w]
    rfl
  refine take_ (i := 16) (N := some 22) (v := ?_) (a' := ?_) #[true, true, true, true, true, true, true, true, true, true, true, true, true, true, true, true, true, true, true, true, false, true, false, false, false, false, false, false] rfl rfl (by kernel_rfl) (fun _ _ _ h => h) (Or.inl ⟨by rfl, ?_⟩) hHeld ?_ ?_
  rotate_left
  · rintro w' ⟨s0, s1, s2, s3, s4, s5, s6⟩
    go_simp
    with_reducible rfl
  rotate_left
  · simp only [Act.put, List.setIfInBounds_toArray, List.set_cons_zero, List.set_cons_succ, i64_w, i32_w]
    rfl
  refine take_ (i := 20) (N := some 26) (v := ?_) (a' := ?_) #[true, true, true, true, true, true, true, true, true, true, true, true, true, true, true, true, true, true, true, true, true, true, false, false, false, false, false, false] rfl rfl (by kernel_rfl) (fun _ _ _ h => h) (Or.inl ⟨by rfl, ?_⟩) hHeld ?_ ?_
  rotate_left
  · rintro w' ⟨s0, s1, s2, s3, s4, s5, s6⟩
    go_simp
    with_reducible rfl
  rotate_left
  · simp only [Act.put, List.setIfInBounds_toArray, List.set_cons_zero, List.set_cons_succ, i64_w, i32_w]
    rfl
  refine pure_ (i := 22) (N := some 28) (v := ?_) (a' := ?_) #[true, true, true, true, true, true, true, true, true, true, true, true, true, true, true, true, true, true, true, true, true, true, true, false, false, false, false, false] rfl rfl (by kernel_rfl) (fun _ _ _ h => h) (Or.inl ⟨by rfl, ?_⟩) ?_ ?_
  rotate_left
  · intro w'
    go_simp
    with_reducible rfl
  rotate_left
  · simp only [Act.put, List.setIfInBounds_toArray, List.set_cons_zero, List.set_cons_succ, i64_w, i32_w]
    rfl
  refine take_ (i := 23) (N := some 29) (v := ?_) (a' := ?_) #[true, true, true, true, true, true, true, true, true, true, true, true, true, true, true, true, true, true, true, true, true, true, true, true, false, false, false, false] rfl rfl (by kernel_rfl) (fun _ _ _ h => h) (Or.inl ⟨by rfl, ?_⟩) hHeld ?_ ?_
  rotate_left
  · rintro w' ⟨s0, s1, s2, s3, s4, s5, s6⟩
    go_simp
    with_reducible rfl
  rotate_left
  · simp only [Act.put, List.setIfInBounds_toArray, List.set_cons_zero, List.set_cons_succ, i64_w, i32_w]
    rfl
  refine pure_ (i := 24) (N := some 30) (v := ?_) (a' := ?_) #[true, true, true, true, true, true, true, true, true, true, true, true, true, true, true, true, true, true, true, true, true, true, true, true, true, false, false, false] rfl rfl (by kernel_rfl) (fun _ _ _ h => h) (Or.inl ⟨by rfl, ?_⟩) ?_ ?_
  rotate_left
  · intro w'
    go_simp
    with_reducible rfl
  rotate_left
  · simp only [Act.put, List.setIfInBounds_toArray, List.set_cons_zero, List.set_cons_succ, i64_w, i32_w]
    rfl
  refine last_ (i := 25) (N := none) #[true, true, true, true, true, true, true, true, true, true, true, true, true, true, true, true, true, true, true, true, true, true, true, true, true, true, false, false] rfl rfl (by kernel_rfl) (by decide) (fun K hK => ?_)
  refine skip_ (w1 := ?_) (by rfl) rfl ?_ ?_
  rotate_left
  · refine st36 (p := .tmp 30) (x := .tmp 22) cx ?_ ?_ ?_ HHD.out hf1
    · rfl
    · rfl
    · rfl
  refine hK.out _ _ ?_
  clear hK K
  refine pure_ (i := 26) (N := some 31) (v := ?_) (a' := ?_) #[true, true, true, true, true, true, true, true, true, true, true, true, true, true, true, true, true, true, true, true, true, true, true, true, true, true, true, false] rfl rfl (by kernel_rfl) (fun _ _ _ h => h) (Or.inl ⟨by rfl, ?_⟩) ?_ ?_
  rotate_left
  · intro w'
    go_simp
    with_reducible rfl
  rotate_left
  · simp only [Act.put, List.setIfInBounds_toArray, List.set_cons_zero, List.set_cons_succ, i64_w, i32_w]
    rfl
  refine last_ (i := 27) (N := none) #[true, true, true, true, true, true, true, true, true, true, true, true, true, true, true, true, true, true, true, true, true, true, true, true, true, true, true, true] rfl rfl (by kernel_rfl) (by decide) (fun K hK => ?_)
  refine skip_ (w1 := ?_) (by rfl) rfl ?_ ?_
  rotate_left
  · refine st36 (p := .tmp 31) (x := .tmp 29) cy ?_ ?_ ?_ HH1.out hf2
    · rfl
    · rfl
    · rfl
  refine hK.out _ _ ?_
  clear hK K
  refine done_ (by kernel_rfl) ?_
  have hfin : Kd.R PG.k40 39 ((w.drew.setCells r pi (seg28 cx)).setCells r pk (seg28 cy)) base ok (.slice (some ⟨r, 0, none⟩) n c) (swapL xs i k) := by
    unfold swapL
    rw [← HX.out, ← HY.out]
    exact hR2.out.1
  have hgr : w.grownBy ((w.drew.setCells r pi (seg28 cx)).setCells r pk (seg28 cy)) (some r) := by
    have g1 := hR1.out.2
    have g2 := hR2.out.2
    exact ⟨g2.os.trans g1.os, g2.tape.trans g1.tape, g2.output.trans g1.output, Nat.le_trans g1.size g2.size, fun q hq hne => (g2.block q (Nat.lt_of_lt_of_le hq g1.size) hne).trans (g1.block q hq hne)⟩
  exact ⟨rfl, _, results_none (by kernel_rfl) _ _ _, rfl, hfin, hgr⟩
end Go.Proofs.YtafigkikblpbnaaGreat
namespace Go.Proofs.YtafigkikblpbnaaGreat
open Go.RowKit Go.Proofs.YtafigkikblpbnaaGreatW.PrintWords Go.Proofs.YtafigkikblpbnaaGreatW.PrintLast Go.Proofs.YtafigkikblpbnaaGreatW.PrintMore
set_option linter.unusedVariables false
set_option maxRecDepth 100000
set_option linter.unusedSimpArgs false

open PG (ordI)
theorem order_any (a b : It) (w : World) : Calls Tryz.prog 23 #[.agg #[.string a.f0, .int .i64 a.f1, .int .i64 a.f2], .agg #[.string b.f0, .int .i64 b.f1, .int .i64 b.f2]] w fun e w' => e = .returned (.int .i64 (ordI a b)) ∧ Below w.heap.size w w' :=
  (PG.order_eq a b w).mono (by
    rintro e w' ⟨h, q, os, rfl⟩
    refine ⟨h, rfl, rfl, rfl, ?_, fun k hk => ?_⟩
    · show w.heap.size ≤ (w.heap ++ os).size
      rw [Array.size_append]; omega
    · show (w.heap ++ os)[k]? = _
      rw [Array.getElem?_append_left hk])
def upF : Nat → List It → Nat → List It
  | 0, xs, _ => xs
  | f + 1, xs, i => if 0 < i then if ordI (xs.getD ((i - 1) / 2) PG.z40) (xs.getD i PG.z40) ≤ 0 then xs else upF f (swapL xs ((i - 1) / 2) i) ((i - 1) / 2) else xs
theorem swapL_len (xs : List It) (i k : Nat) : (swapL xs i k).length = xs.length := by unfold swapL; rw [List.length_set, List.length_set]
theorem grown_below {w w1 : World} {row : Option Nat} (h : Below w.heap.size w w1) : w.grownBy w1 row := ⟨h.os, h.tape, h.output, h.size, fun k hk _ => h.block k hk⟩
theorem grown_tr {a b c : World} {row : Option Nat} (h : a.grownBy b row) (k : b.grownBy c row) : a.grownBy c row :=
  ⟨k.os.trans h.os, k.tape.trans h.tape, k.output.trans h.output, Nat.le_trans h.size k.size, fun i hi hne => (k.block i (Nat.lt_of_lt_of_le hi h.size) hne).trans (h.block i hi hne)⟩
theorem own_row {w : World} {base n c : Nat} {A : Option Addr} {ok : Nat → Prop} {xs : List It} (hR : Kd.R PG.k40 39 w base ok (.slice A n c) xs) (hn : xs.length = n) (h0 : 0 < n) : ∃ r, A = some ⟨r, 0, none⟩ := by
  obtain ⟨inner, ho⟩ := Kd.R_own hR
  rcases ho.2 with ⟨_, e0⟩ | ⟨r, cap, cur, hv, hb, hh, hl2, hm2, hcs, htk⟩
  · omega
  · injection hv with hA hn2 hc2
    exact ⟨r, hA⟩
set_option maxHeartbeats 4000000 in
theorem up_any (g : Nat) (A : Option Addr) (n c : Nat) (mv : Value) (xs : List It) (w : World) (base : Nat) (ok : Nat → Prop) (hg : w.heap[g]? = some (.cells #[.bool true, .slice A n c, mv] 113 (0, 0)))
    (hn : xs.length = n) (hR : Kd.R PG.k40 39 w base ok (.slice A n c) xs) (hok : ∀ k, ok k → k ≠ g) (i : Nat) (hi : i < n) (hl : n ≤ 1000000) :
    Calls Tryz.prog 45 #[.pointer (some ⟨g, 0, none⟩), .int .i64 i] w fun e w' => e = .returned (.tuple #[]) ∧ Kd.R PG.k40 39 w' base ok (.slice A n c) (upF i xs i) ∧ w.grownBy w' (Value.slice A n c).ownBlock := by
  obtain ⟨r, rfl⟩ := own_row hR hn (by omega)
  have hgr : g ≠ r := fun e => hok r (hR.1 r rfl) e.symm
  generalize hRs : upF i xs i = Rs
  have HRS := Lib.hid hRs
  have HG := Lib.hid hg
  have HR := Lib.hid hR
  have HN := Lib.hid hn
  clear hRs hg hR hn
  go_enter Tryz.func45, Tryz.ntmps45
  go_wp2
  go_loopw [1] (fun v1 wr => ∃ (j f : Nat) (ys : List It), v1 = .int .i64 j ∧ j < n ∧ j ≤ f ∧ Aside0 (ys.length = n) ∧ Aside0 (Kd.R PG.k40 39 wr base ok (.slice (some ⟨r, 0, none⟩) n c) ys) ∧ Aside0 (w.grownBy wr (some r)) ∧ Aside0 (upF f ys j = Rs)) (fun v1 _ => (intOf v1).toNat)
  case atStart => exact ⟨i, i, xs, rfl, hi, Nat.le_refl _, ⟨HN.out⟩, ⟨HR.out⟩, ⟨grown_below (Below.refl _ _)⟩, ⟨HRS.out⟩⟩
  case round =>
    obtain ⟨j, f, ys, rfl, hj, hjf, HYL, HYR, HGR, HI⟩ := hrel
    by_cases h0j : 0 < j
    · obtain ⟨m, hm⟩ : ∃ m : Nat, m = (j - 1) / 2 := ⟨_, rfl⟩
      have hov : ((j : Int) - 1) / 2 = (m : Int) := by omega
      have hmj : m < j := by omega
      obtain ⟨cx, hx, h1, h2, h3⟩ := cells28 HYR.out m (by omega)
      obtain ⟨cy, hy, h4, h5, h6⟩ := cells28 HYR.out j hj
      obtain ⟨f, rfl⟩ : ∃ f', f = f' + 1 := ⟨f - 1, by omega⟩
      have HI2 := Lib.hid (show (if ordI cx cy ≤ 0 then ys else upF f (swapL ys m j) m) = Rs by
        have := HI.out
        unfold upF at this
        rw [if_pos h0j, ← hm, ← hx, ← hy] at this
        exact this)
      have hgw : wr.heap[g]? = some (.cells #[.bool true, .slice (some ⟨r, 0, none⟩) n c, mv] 113 (0, 0)) := (HGR.out.block g (blk_lt HG.out) (by intro e; injection e with e; exact hgr e)).trans HG.out
      have HGW := Lib.hid hgw
      have h0 : wr.drew.cell? ⟨g, 1, none⟩ = some (.slice (some ⟨r, 0, none⟩) n c) := (blk_cell hgw 1).trans rfl
      clear hgw hx hy hm
      generalize hpk : m * 3 = pk at *
      generalize hpi : j * 3 = pi at *
      have hki : (m : Int) < (n : Int) := by omega
      have hmn : m < n := by omega
      have HO := Lib.hid (order_any cx cy)
      generalize ordI cx cy = q at *
      go_wp2
      refine start_ (n := 16) (S := fun w' => w'.cell? ⟨g, 1, none⟩ = some (.slice (some ⟨r, 0, none⟩) n c) ∧ w'.cell? ⟨r, pk, none⟩ = some (.string cx.f0) ∧ w'.cell? ⟨r, pk + 1, none⟩ = some (.int .i64 cx.f1) ∧ w'.cell? ⟨r, pk + 2, none⟩ = some (.int .i64 cx.f2) ∧ w'.cell? ⟨r, pi, none⟩ = some (.string cy.f0) ∧ w'.cell? ⟨r, pi + 1, none⟩ = some (.int .i64 cy.f1) ∧ w'.cell? ⟨r, pi + 2, none⟩ = some (.int .i64 cy.f2)) (ds := [14]) #[false, false, false, false, false, false, false, false, false, false, false, false, false, false, false, false] (by kernel_rfl) rfl rfl ⟨h0, h1, h2, h3, h4, h5, h6⟩ (fun hHeld => ?_)
      refine pure_ (i := 0) (N := some 10) (v := ?_) (a' := ?_) #[true, false, false, false, false, false, false, false, false, false, false, false, false, false, false, false] rfl rfl (by kernel_rfl) (fun _ _ _ h => h) (Or.inl ⟨by rfl, ?_⟩) ?_ ?_
      rotate_left
      · intro w'
        go_simp
        with_reducible rfl
      rotate_left
      · simp only [Act.put, List.setIfInBounds_toArray, List.set_cons_zero, List.set_cons_succ, i64_w, i32_w]
        rfl
      refine pure_ (i := 1) (N := some 11) (v := ?_) (a' := ?_) #[true, true, false, false, false, false, false, false, false, false, false, false, false, false, false, false] rfl rfl (by kernel_rfl) (fun _ _ _ h => h) (Or.inl ⟨by rfl, ?_⟩) ?_ ?_
      rotate_left
      · intro w'
        go_simp
        with_reducible rfl
      rotate_left
      · simp only [Act.put, List.setIfInBounds_toArray, List.set_cons_zero, List.set_cons_succ, i64_w, i32_w]
        rfl
      refine pure_ (i := 2) (N := some 12) (v := ?_) (a' := ?_) #[true, true, true, false, false, false, false, false, false, false, false, false, false, false, false, false] rfl rfl (by kernel_rfl) (fun _ _ _ h => h) (Or.inl ⟨by rfl, ?_⟩) ?_ ?_
      rotate_left
      · intro w'
        go_simp
        with_reducible rfl
      rotate_left
      · simp only [Act.put, List.setIfInBounds_toArray, List.set_cons_zero, List.set_cons_succ, i64_w, i32_w]
        rfl
      refine pure_ (i := 4) (N := some 14) (v := ?_) (a' := ?_) #[true, true, true, false, true, false, false, false, false, false, false, false, false, false, false, false] rfl rfl (by kernel_rfl) (fun _ _ _ h => h) (Or.inl ⟨by rfl, ?_⟩) ?_ ?_
      rotate_left
      · intro w'
        go_simp
        with_reducible rfl
      rotate_left
      · simp only [Act.put, List.setIfInBounds_toArray, List.set_cons_zero, List.set_cons_succ, i64_w, i32_w]
        rfl
      refine pure_ (i := 7) (N := some 17) (v := ?_) (a' := ?_) #[true, true, true, false, true, false, false, true, false, false, false, false, false, false, false, false] rfl rfl (by kernel_rfl) (fun _ _ _ h => h) (Or.inl ⟨by rfl, ?_⟩) ?_ ?_
      rotate_left
      · intro w'
        go_simp
        with_reducible rfl
      rotate_left
      · simp only [Act.put, List.setIfInBounds_toArray, List.set_cons_zero, List.set_cons_succ, i64_w, i32_w]
        rfl
      refine pure_ (i := 8) (N := some 18) (v := ?_) (a' := ?_) #[true, true, true, false, true, false, false, true, true, false, false, false, false, false, false, false] rfl rfl (by kernel_rfl) (fun _ _ _ h => h) (Or.inl ⟨by rfl, ?_⟩) ?_ ?_
      rotate_left
      · intro w'
        go_simp
        with_reducible rfl
      rotate_left
      · simp only [Act.put, List.setIfInBounds_toArray, List.set_cons_zero, List.set_cons_succ, i64_w, i32_w]
        rfl
      refine pure_ (i := 9) (N := some 19) (v := ?_) (a' := ?_) #[true, true, true, false, true, false, false, true, true, true, false, false, false, false, false, false] rfl rfl (by kernel_rfl) (fun _ _ _ h => h) (Or.inl ⟨by rfl, ?_⟩) ?_ ?_
      rotate_left
      · intro w'
        go_simp
        with_reducible rfl
      rotate_left
      · simp only [Act.put, List.setIfInBounds_toArray, List.set_cons_zero, List.set_cons_succ, i64_w, i32_w]
        rfl
      refine pure_ (i := 11) (N := some 21) (v := ?_) (a' := ?_) #[true, true, true, false, true, false, false, true, true, true, false, true, false, false, false, false] rfl rfl (by kernel_rfl) (fun _ _ _ h => h) (Or.inl ⟨by rfl, ?_⟩) ?_ ?_
      rotate_left
      · intro w'
        go_simp
        with_reducible rfl
      rotate_left
      · simp only [Act.put, List.setIfInBounds_toArray, List.set_cons_zero, List.set_cons_succ, i64_w, i32_w]
        rfl
      refine take_ (i := 3) (N := some 13) (v := ?_) (a' := ?_) #[true, true, true, true, true, false, false, true, true, true, false, true, false, false, false, false] rfl rfl (by kernel_rfl) (fun _ _ _ h => h) (Or.inl ⟨by rfl, ?_⟩) hHeld ?_ ?_
      rotate_left
      · rintro w' ⟨s0, s1, s2, s3, s4, s5, s6⟩
        go_simp
        with_reducible rfl
      rotate_left
      · simp only [Act.put, List.setIfInBounds_toArray, List.set_cons_zero, List.set_cons_succ, i64_w, i32_w]
        rfl
      refine pure_ (i := 5) (N := some 15) (v := ?_) (a' := ?_) #[true, true, true, true, true, true, false, true, true, true, false, true, false, false, false, false] rfl rfl (by kernel_rfl) (fun _ _ _ h => h) (Or.inl ⟨by rfl, ?_⟩) ?_ ?_
      rotate_left
      · intro w'
        go_simp
        with_reducible rfl
      rotate_left
      · simp only [Act.put, List.setIfInBounds_toArray, List.set_cons_zero, List.set_cons_succ, i64_w, i32_w]
        rfl
      refine take_ (i := 6) (N := some 16) (v := ?_) (a' := ?_) #[true, true, true, true, true, true, true, true, true, true, false, true, false, false, false, false] rfl rfl (by kernel_rfl) (fun _ _ _ h => h) (Or.inl ⟨by rfl, ?_⟩) hHeld ?_ ?_
      rotate_left
      · rintro w' ⟨s0, s1, s2, s3, s4, s5, s6⟩
        go_simp
        with_reducible rfl
      rotate_left
      · simp only [Act.put, List.setIfInBounds_toArray, List.set_cons_zero, List.set_cons_succ, i64_w, i32_w]
        rfl
      refine take_ (i := 10) (N := some 20) (v := ?_) (a' := ?_) #[true, true, true, true, true, true, true, true, true, true, true, true, false, false, false, false] rfl rfl (by kernel_rfl) (fun _ _ _ h => h) (Or.inl ⟨by rfl, ?_⟩) hHeld ?_ ?_
      rotate_left
      · rintro w' ⟨s0, s1, s2, s3, s4, s5, s6⟩
        go_simp
        with_reducible rfl
      rotate_left
      · simp only [Act.put, List.setIfInBounds_toArray, List.set_cons_zero, List.set_cons_succ, i64_w, i32_w]
        rfl
      refine pure_ (i := 12) (N := some 22) (v := ?_) (a' := ?_) #[true, true, true, true, true, true, true, true, true, true, true, true, true, false, false, false] rfl rfl (by kernel_rfl) (fun _ _ _ h => h) (Or.inl ⟨by rfl, ?_⟩) ?_ ?_
      rotate_left
      · intro w'
        go_simp
        with_reducible rfl
      rotate_left
      · simp only [Act.put, List.setIfInBounds_toArray, List.set_cons_zero, List.set_cons_succ, i64_w, i32_w]
        rfl
      refine take_ (i := 13) (N := some 23) (v := ?_) (a' := ?_) #[true, true, true, true, true, true, true, true, true, true, true, true, true, true, false, false] rfl rfl (by kernel_rfl) (fun _ _ _ h => h) (Or.inl ⟨by rfl, ?_⟩) hHeld ?_ ?_
      rotate_left
      · rintro w' ⟨s0, s1, s2, s3, s4, s5, s6⟩
        go_simp
        with_reducible rfl
      rotate_left
      · simp only [Act.put, List.setIfInBounds_toArray, List.set_cons_zero, List.set_cons_succ, i64_w, i32_w]
        rfl
      refine last_ (i := 14) (N := some 24) #[true, true, true, true, true, true, true, true, true, true, true, true, true, true, true, false] rfl rfl (by kernel_rfl) (by decide) (fun K hK => ?_)
      refine goes_ Tryz.func23 (by kernel_rfl) rfl #[.agg #[.string cx.f0, .int .i64 cx.f1, .int .i64 cx.f2], .agg #[.string cy.f0, .int .i64 cy.f1, .int .i64 cy.f2]] (by rfl) rfl rfl (by simp only [List.map_toArray, List.map_cons, List.map_nil]; rfl) ?_
      with_reducible refine (HO.out _).mono ?_
      rintro e w3 ⟨rfl, hb⟩
      refine ⟨_, rfl, ?_⟩
      refine hK.out _ _ ?_
      clear hK K
      refine norm_ (a' := ?_) ?_ ?_
      rotate_left
      · show Act.put _ (some 24) _ = _
        simp only [Act.put, List.setIfInBounds_toArray, List.set_cons_zero, List.set_cons_succ, i64_w, i32_w]
        rfl
      refine pure_ (i := 15) (N := some 25) (v := ?_) (a' := ?_) #[true, true, true, true, true, true, true, true, true, true, true, true, true, true, true, true] rfl rfl (by kernel_rfl) (fun _ _ _ h => h) (Or.inl ⟨by rfl, ?_⟩) ?_ ?_
      rotate_left
      · intro w'
        go_simp
        with_reducible rfl
      rotate_left
      · simp only [Act.put, List.setIfInBounds_toArray, List.set_cons_zero, List.set_cons_succ, i64_w, i32_w]
        rfl
      refine done_ (by kernel_rfl) ?_
      have HB3 := Lib.hid (show Below wr.heap.size wr w3 from ⟨hb.os, hb.tape, hb.output, hb.size, hb.block⟩)
      clear hb hHeld
      by_cases hq : q ≤ 0
      · have HQ := Lib.hid hq
        go_wp2
        exact ⟨rfl, _, results_none (by kernel_rfl) _ _ _, rfl, by have := HI2.out; rw [if_pos HQ.out] at this; rw [← this]; exact Kd.R_below HYR.out HB3.out, grown_tr HGR.out (grown_below HB3.out)⟩
      · have HQ := Lib.hid hq
        have HSW := Lib.hid (swap_any g (some ⟨r, 0, none⟩) n c mv ys w3 base ok ((HB3.out.block g (blk_lt HGW.out)).trans HGW.out) HYL.out (Kd.R_below HYR.out HB3.out) hok m j hmn hj hl)
        clear h0 h1 h2 h3 h4 h5 h6
        go_wp2_with fail
        refine HSW.out.mono ?_
        rintro e w4 ⟨rfl, hR4, hg4⟩
        have HR4 := Lib.hid hR4
        have HG4 := Lib.hid hg4
        clear hR4 hg4
        go_wp2
        go_roundw
        case rel => exact ⟨m, f, swapL ys m j, rfl, hmn, by omega, ⟨by rw [swapL_len]; exact HYL.out⟩, ⟨HR4.out⟩, ⟨grown_tr (grown_tr HGR.out (grown_below HB3.out)) HG4.out⟩, ⟨by have := HI2.out; rw [if_neg (by have := HQ.out; omega)] at this; exact this⟩⟩
        case measure => simp [intOf]; omega
    · have h00 : j = 0 := by omega
      subst h00
      go_wp2
      have hfin : ys = Rs := by
        have := HI.out
        cases f with
        | zero => exact this
        | succ f => unfold upF at this; rw [if_neg (by omega)] at this; exact this
      exact ⟨rfl, _, results_none (by kernel_rfl) _ _ _, rfl, by rw [← hfin]; exact HYR.out, HGR.out⟩
end Go.Proofs.YtafigkikblpbnaaGreat
namespace Go.Proofs.YtafigkikblpbnaaGreat
open Go.RowKit Go.Proofs.YtafigkikblpbnaaGreatW.PrintWords Go.Proofs.YtafigkikblpbnaaGreatW.PrintLast Go.Proofs.YtafigkikblpbnaaGreatW.PrintMore
set_option linter.unusedVariables false
set_option maxRecDepth 100000
set_option linter.unusedSimpArgs false
open PG (ordI)

/-- Of an item and the two below it, so many of them looked at: the place of the one that goes ahead. -/
def pkF (xs : List It) (j : Nat) : Nat → Nat
  | 0 => j
  | t + 1 => if 2 * j + 1 + t < xs.length ∧ ordI (xs.getD (2 * j + 1 + t) PG.z40) (xs.getD (pkF xs j t) PG.z40) < 0 then 2 * j + 1 + t else pkF xs j t
def downF : Nat → List It → Nat → List It
  | 0, xs, _ => xs
  | f + 1, xs, i => if pkF xs i 2 = i then xs else downF f (swapL xs i (pkF xs i 2)) (pkF xs i 2)
theorem pkF_lt (xs : List It) (j : Nat) : ∀ t, pkF xs j t = j ∨ j < pkF xs j t ∧ pkF xs j t < xs.length
  | 0 => .inl rfl
  | t + 1 => by
    unfold pkF
    split
    · rename_i h; right; omega
    · exact pkF_lt xs j t
theorem lit_cell (w : World) (a b : Int) (t : Nat) (ht : t < 2) : (w.alloc (.cells #[.int .i64 a, .int .i64 b] 3)).cell? ⟨w.heap.size, t, none⟩ = some (.int .i64 (if t = 0 then a else b)) := by
  have e : (w.alloc (.cells #[.int .i64 a, .int .i64 b] 3)).heap[w.heap.size]? = some (.cells #[.int .i64 a, .int .i64 b] 3) := by
    show (w.heap.push _)[w.heap.size]? = _
    simp
  unfold World.cell?
  simp only [e]
  match t, ht with
  | 0, _ => rfl
  | 1, _ => rfl
theorem below_dr {N : Nat} {w W : World} (h : Below N w W) : Below N w W.drew := ⟨h.os, h.tape, h.output, h.size, h.block⟩
theorem below_tr' {w W W2 : World} (h : Below w.heap.size w W) (k : Below W.drew.heap.size W.drew W2) : Below w.heap.size w W2 :=
  ⟨k.os.trans h.os, k.tape.trans h.tape, k.output.trans h.output, Nat.le_trans h.size k.size, fun i hi => (k.block i (Nat.lt_of_lt_of_le hi h.size)).trans (h.block i hi)⟩
theorem below_lo {w wl W : World} (h : Below w.heap.size w wl) (k : Below wl.heap.size wl W) : Below w.heap.size w W :=
  ⟨k.os.trans h.os, k.tape.trans h.tape, k.output.trans h.output, Nat.le_trans h.size k.size, fun i hi => (k.block i (Nat.lt_of_lt_of_le hi h.size)).trans (h.block i hi)⟩
set_option maxHeartbeats 4000000 in
theorem down_any (g : Nat) (A : Option Addr) (n c : Nat) (mv : Value) (xs : List It) (w : World) (base : Nat) (ok : Nat → Prop) (hg : w.heap[g]? = some (.cells #[.bool true, .slice A n c, mv] 113 (0, 0)))
    (hn : xs.length = n) (hR : Kd.R PG.k40 39 w base ok (.slice A n c) xs) (hok : ∀ k, ok k → k ≠ g) (hl : n ≤ 1000000) :
    Calls Tryz.prog 47 #[.pointer (some ⟨g, 0, none⟩), .int .i64 0] w fun e w' => e = .returned (.tuple #[]) ∧ Kd.R PG.k40 39 w' base ok (.slice A n c) (downF (n + 1) xs 0) ∧ w.grownBy w' (Value.slice A n c).ownBlock := by
  generalize hRs : downF (n + 1) xs 0 = Rs
  have HRS := Lib.hid hRs
  have HG := Lib.hid hg
  have HR := Lib.hid hR
  have HN := Lib.hid hn
  clear hRs hg hR hn
  go_enter Tryz.func47, Tryz.ntmps47
  go_wp2
  go_loopw [1] (fun v1 wr => ∃ (j f : Nat) (ys : List It), v1 = .int .i64 j ∧ j ≤ n ∧ n + 1 ≤ f + j ∧ Aside0 (ys.length = n) ∧ Aside0 (Kd.R PG.k40 39 wr base ok (.slice A n c) ys) ∧ Aside0 (w.grownBy wr (Value.slice A n c).ownBlock) ∧ Aside0 (downF f ys j = Rs)) (fun v1 _ => n + 1 - (intOf v1).toNat)
  case atStart => exact ⟨0, n + 1, xs, rfl, by omega, by omega, ⟨HN.out⟩, ⟨HR.out⟩, ⟨grown_below (Below.refl _ _)⟩, ⟨HRS.out⟩⟩
  case round =>
    obtain ⟨j, f, ys, rfl, hj, hjf, HYL, HYR, HGR, HI⟩ := hrel
    rename World => wo
    have hw1 : wrap64 (2 * (j : Int)) = 2 * (j : Int) := by unfold wrap64; omega
    have HLIT := Lib.hid (fun t ht => lit_cell wo (2 * (j : Int) + 1) (2 * (j : Int) + 2) t ht)
    go_wp2
    generalize hwl : wo.alloc (Obj.cells #[Value.int IntKind.i64 (2 * ↑j + 1), Value.int IntKind.i64 (2 * ↑j + 2)] 3) = wl at *
    have HBL := Lib.hid (show Below wo.heap.size wo wl by rw [← hwl]; exact below_alloc (Below.refl _ _) _)
    have HSL := Lib.hid (show wo.heap.size < wl.heap.size by rw [← hwl]; exact Nat.lt_of_lt_of_le (Nat.lt_succ_self _) (Nat.le_of_eq (World.size_alloc _ _).symm))
    clear hwl
    go_loopw [4, 16] (fun v4 v16 wi => ∃ (t : Nat), t ≤ 2 ∧ v16 = .int .i64 t ∧ v4 = .int .i64 (pkF ys j t) ∧ Aside0 (Below wl.heap.size wl wi)) (fun _ v16 _ => 2 - (intOf v16).toNat)
    case atStart => exact ⟨0, by omega, rfl, rfl, ⟨Below.refl _ _⟩⟩
    case round =>
      obtain ⟨t, ht, rfl, rfl, HBI⟩ := hrel
      by_cases htl : t < 2
      · have hlc := (HBI.out.cell (World.block_lt_of_cell? _ _ (HLIT.out t htl))).trans (HLIT.out t htl)
        obtain ⟨kk, hkk⟩ : ∃ kk : Nat, kk = 2 * j + 1 + t := ⟨_, rfl⟩
        have hkv : (if t = 0 then 2 * (j : Int) + 1 else 2 * (j : Int) + 2) = (kk : Int) := by split <;> omega
        rw [hkv] at hlc
        have htl2 : (t : Int) < 2 := by omega
        have HPK := Lib.hid (pkF_lt ys j t)
        have HST := Lib.hid (show pkF ys j (t + 1) = if kk < ys.length ∧ ordI (ys.getD kk PG.z40) (ys.getD (pkF ys j t) PG.z40) < 0 then kk else pkF ys j t by rw [hkk]; rfl)
        have hgw : wr.heap[g]? = some (.cells #[.bool true, .slice A n c, mv] 113 (0, 0)) := by
          have e1 := (HGR.out.block g (blk_lt HG.out) (fun e => hok g (HR.out.1 g e.symm) rfl)).trans HG.out
          have e2 := (HBL.out.block g (blk_lt e1)).trans e1
          exact (HBI.out.block g (blk_lt e2)).trans e2
        have HGW := Lib.hid hgw
        have HKK := Lib.hid hkk
        clear hkk hkv hgw
        by_cases hk : kk < n
        · obtain ⟨r, hA⟩ := own_row HYR.out HYL.out (by omega)
          subst hA
          have HRI := Lib.hid (Kd.R_below (Kd.R_below HYR.out HBL.out) HBI.out)
          have hpn : pkF ys j t < n := by
            have h1 := HPK.out
            have h2 := HYL.out
            have h3 := HKK.out
            omega
          obtain ⟨cx, hx, h1, h2, h3⟩ := cells28 HRI.out kk hk
          obtain ⟨cy, hy, h4, h5, h6⟩ := cells28 HRI.out (pkF ys j t) hpn
          rw [← hx, ← hy] at HST
          have h0 : wr.drew.cell? ⟨g, 1, none⟩ = some (.slice (some ⟨r, 0, none⟩) n c) := (blk_cell HGW.out 1).trans rfl
          clear hx hy
          have HO := Lib.hid (order_any cx cy)
          generalize ordI cx cy = q at *
          generalize hfp : pkF ys j t = fp at *
          have HFP := Lib.hid hfp
          clear hfp
          generalize hpk : kk * 3 = pk at *
          generalize hpi : fp * 3 = pi at *
          have hkki : (kk : Int) < (n : Int) := by omega
          have hfpi : (fp : Int) < (n : Int) := by omega
          go_wp2
          refine start_ (n := 25) (S := fun w' => w'.cell? ⟨g, 1, none⟩ = some (.slice (some ⟨r, 0, none⟩) n c) ∧ w'.cell? ⟨r, pk, none⟩ = some (.string cx.f0) ∧ w'.cell? ⟨r, pk + 1, none⟩ = some (.int .i64 cx.f1) ∧ w'.cell? ⟨r, pk + 2, none⟩ = some (.int .i64 cx.f2) ∧ w'.cell? ⟨r, pi, none⟩ = some (.string cy.f0) ∧ w'.cell? ⟨r, pi + 1, none⟩ = some (.int .i64 cy.f1) ∧ w'.cell? ⟨r, pi + 2, none⟩ = some (.int .i64 cy.f2)) (ds := [22]) #[false, false, false, false, false, false, false, false, false, false, false, false, false, false, false, false, false, false, false, false, false, false, false, false, false] (by kernel_rfl) rfl rfl ⟨h0, h1, h2, h3, h4, h5, h6⟩ (fun hHeld => ?_)
          refine pure_ (i := 0) (N := some 20) (v := ?_) (a' := ?_) #[true, false, false, false, false, false, false, false, false, false, false, false, false, false, false, false, false, false, false, false, false, false, false, false, false] rfl rfl (by kernel_rfl) (fun _ _ _ h => h) (Or.inl ⟨by rfl, ?_⟩) ?_ ?_
          rotate_left
          · intro w'
            go_simp
            with_reducible rfl
          rotate_left
          · simp only [Act.put, List.setIfInBounds_toArray, List.set_cons_zero, List.set_cons_succ, i64_w, i32_w]
            rfl
          refine pure_ (i := 1) (N := some 21) (v := ?_) (a' := ?_) #[true, true, false, false, false, false, false, false, false, false, false, false, false, false, false, false, false, false, false, false, false, false, false, false, false] rfl rfl (by kernel_rfl) (fun _ _ _ h => h) (Or.inl ⟨by rfl, ?_⟩) ?_ ?_
          rotate_left
          · intro w'
            go_simp
            with_reducible rfl
          rotate_left
          · simp only [Act.put, List.setIfInBounds_toArray, List.set_cons_zero, List.set_cons_succ, i64_w, i32_w]
            rfl
          refine pure_ (i := 2) (N := some 22) (v := ?_) (a' := ?_) #[true, true, true, false, false, false, false, false, false, false, false, false, false, false, false, false, false, false, false, false, false, false, false, false, false] rfl rfl (by kernel_rfl) (fun _ _ _ h => h) (Or.inl ⟨by rfl, ?_⟩) ?_ ?_
          rotate_left
          · intro w'
            go_simp
            with_reducible rfl
          rotate_left
          · simp only [Act.put, List.setIfInBounds_toArray, List.set_cons_zero, List.set_cons_succ, i64_w, i32_w]
            rfl
          refine pure_ (i := 3) (N := some 23) (v := ?_) (a' := ?_) #[true, true, true, true, false, false, false, false, false, false, false, false, false, false, false, false, false, false, false, false, false, false, false, false, false] rfl rfl (by kernel_rfl) (fun _ _ _ h => h) (Or.inl ⟨by rfl, ?_⟩) ?_ ?_
          rotate_left
          · intro w'
            go_simp
            with_reducible rfl
          rotate_left
          · simp only [Act.put, List.setIfInBounds_toArray, List.set_cons_zero, List.set_cons_succ, i64_w, i32_w]
            rfl
          refine take_ (i := 4) (N := some 24) (v := ?_) (a' := ?_) #[true, true, true, true, true, false, false, false, false, false, false, false, false, false, false, false, false, false, false, false, false, false, false, false, false] rfl rfl (by kernel_rfl) (fun _ _ _ h => h) (Or.inl ⟨by rfl, ?_⟩) hHeld ?_ ?_
          rotate_left
          · rintro w' ⟨s0, s1, s2, s3, s4, s5, s6⟩
            go_simp
            with_reducible rfl
          rotate_left
          · simp only [Act.put, List.setIfInBounds_toArray, List.set_cons_zero, List.set_cons_succ, i64_w, i32_w]
            rfl
          refine pure_ (i := 5) (N := some 25) (v := ?_) (a' := ?_) #[true, true, true, true, true, true, false, false, false, false, false, false, false, false, false, false, false, false, false, false, false, false, false, false, false] rfl rfl (by kernel_rfl) (fun _ _ _ h => h) (Or.inl ⟨by rfl, ?_⟩) ?_ ?_
          rotate_left
          · intro w'
            go_simp
            with_reducible rfl
          rotate_left
          · simp only [Act.put, List.setIfInBounds_toArray, List.set_cons_zero, List.set_cons_succ, i64_w, i32_w]
            rfl
          refine pure_ (i := 6) (N := some 26) (v := ?_) (a' := ?_) #[true, true, true, true, true, true, true, false, false, false, false, false, false, false, false, false, false, false, false, false, false, false, false, false, false] rfl rfl (by kernel_rfl) (fun _ _ _ h => h) (Or.inl ⟨by rfl, ?_⟩) ?_ ?_
          rotate_left
          · intro w'
            go_simp
            with_reducible rfl
          rotate_left
          · simp only [Act.put, List.setIfInBounds_toArray, List.set_cons_zero, List.set_cons_succ, i64_w, i32_w]
            rfl
          refine pure_ (i := 7) (N := some 27) (v := ?_) (a' := ?_) #[true, true, true, true, true, true, true, true, false, false, false, false, false, false, false, false, false, false, false, false, false, false, false, false, false] rfl rfl (by kernel_rfl) (fun _ _ _ h => h) (Or.inl ⟨by rfl, ?_⟩) ?_ ?_
          rotate_left
          · intro w'
            go_simp
            with_reducible rfl
          rotate_left
          · simp only [Act.put, List.setIfInBounds_toArray, List.set_cons_zero, List.set_cons_succ, i64_w, i32_w]
            rfl
          refine pure_ (i := 8) (N := some 28) (v := ?_) (a' := ?_) #[true, true, true, true, true, true, true, true, true, false, false, false, false, false, false, false, false, false, false, false, false, false, false, false, false] rfl rfl (by kernel_rfl) (fun _ _ _ h => h) (Or.inl ⟨by rfl, ?_⟩) ?_ ?_
          rotate_left
          · intro w'
            go_simp
            with_reducible rfl
          rotate_left
          · simp only [Act.put, List.setIfInBounds_toArray, List.set_cons_zero, List.set_cons_succ, i64_w, i32_w]
            rfl
          refine pure_ (i := 9) (N := some 29) (v := ?_) (a' := ?_) #[true, true, true, true, true, true, true, true, true, true, false, false, false, false, false, false, false, false, false, false, false, false, false, false, false] rfl rfl (by kernel_rfl) (fun _ _ _ h => h) (Or.inl ⟨by rfl, ?_⟩) ?_ ?_
          rotate_left
          · intro w'
            go_simp
            with_reducible rfl
          rotate_left
          · simp only [Act.put, List.setIfInBounds_toArray, List.set_cons_zero, List.set_cons_succ, i64_w, i32_w]
            rfl
          refine pure_ (i := 10) (N := some 30) (v := ?_) (a' := ?_) #[true, true, true, true, true, true, true, true, true, true, true, false, false, false, false, false, false, false, false, false, false, false, false, false, false] rfl rfl (by kernel_rfl) (fun _ _ _ h => h) (Or.inl ⟨by rfl, ?_⟩) ?_ ?_
          rotate_left
          · intro w'
            go_simp
            with_reducible rfl
          rotate_left
          · simp only [Act.put, List.setIfInBounds_toArray, List.set_cons_zero, List.set_cons_succ, i64_w, i32_w]
            rfl
          refine pure_ (i := 12) (N := some 32) (v := ?_) (a' := ?_) #[true, true, true, true, true, true, true, true, true, true, true, false, true, false, false, false, false, false, false, false, false, false, false, false, false] rfl rfl (by kernel_rfl) (fun _ _ _ h => h) (Or.inl ⟨by rfl, ?_⟩) ?_ ?_
          rotate_left
          · intro w'
            go_simp
            with_reducible rfl
          rotate_left
          · simp only [Act.put, List.setIfInBounds_toArray, List.set_cons_zero, List.set_cons_succ, i64_w, i32_w]
            rfl
          refine pure_ (i := 15) (N := some 35) (v := ?_) (a' := ?_) #[true, true, true, true, true, true, true, true, true, true, true, false, true, false, false, true, false, false, false, false, false, false, false, false, false] rfl rfl (by kernel_rfl) (fun _ _ _ h => h) (Or.inl ⟨by rfl, ?_⟩) ?_ ?_
          rotate_left
          · intro w'
            go_simp
            with_reducible rfl
          rotate_left
          · simp only [Act.put, List.setIfInBounds_toArray, List.set_cons_zero, List.set_cons_succ, i64_w, i32_w]
            rfl
          refine pure_ (i := 16) (N := some 36) (v := ?_) (a' := ?_) #[true, true, true, true, true, true, true, true, true, true, true, false, true, false, false, true, true, false, false, false, false, false, false, false, false] rfl rfl (by kernel_rfl) (fun _ _ _ h => h) (Or.inl ⟨by rfl, ?_⟩) ?_ ?_
          rotate_left
          · intro w'
            go_simp
            with_reducible rfl
          rotate_left
          · simp only [Act.put, List.setIfInBounds_toArray, List.set_cons_zero, List.set_cons_succ, i64_w, i32_w]
            rfl
          refine pure_ (i := 17) (N := some 37) (v := ?_) (a' := ?_) #[true, true, true, true, true, true, true, true, true, true, true, false, true, false, false, true, true, true, false, false, false, false, false, false, false] rfl rfl (by kernel_rfl) (fun _ _ _ h => h) (Or.inl ⟨by rfl, ?_⟩) ?_ ?_
          rotate_left
          · intro w'
            go_simp
            with_reducible rfl
          rotate_left
          · simp only [Act.put, List.setIfInBounds_toArray, List.set_cons_zero, List.set_cons_succ, i64_w, i32_w]
            rfl
          refine pure_ (i := 19) (N := some 39) (v := ?_) (a' := ?_) #[true, true, true, true, true, true, true, true, true, true, true, false, true, false, false, true, true, true, false, true, false, false, false, false, false] rfl rfl (by kernel_rfl) (fun _ _ _ h => h) (Or.inl ⟨by rfl, ?_⟩) ?_ ?_
          rotate_left
          · intro w'
            go_simp
            with_reducible rfl
          rotate_left
          · simp only [Act.put, List.setIfInBounds_toArray, List.set_cons_zero, List.set_cons_succ, i64_w, i32_w]
            rfl
          refine take_ (i := 11) (N := some 31) (v := ?_) (a' := ?_) #[true, true, true, true, true, true, true, true, true, true, true, true, true, false, false, true, true, true, false, true, false, false, false, false, false] rfl rfl (by kernel_rfl) (fun _ _ _ h => h) (Or.inl ⟨by rfl, ?_⟩) hHeld ?_ ?_
          rotate_left
          · rintro w' ⟨s0, s1, s2, s3, s4, s5, s6⟩
            go_simp
            with_reducible rfl
          rotate_left
          · simp only [Act.put, List.setIfInBounds_toArray, List.set_cons_zero, List.set_cons_succ, i64_w, i32_w]
            rfl
          refine pure_ (i := 13) (N := some 33) (v := ?_) (a' := ?_) #[true, true, true, true, true, true, true, true, true, true, true, true, true, true, false, true, true, true, false, true, false, false, false, false, false] rfl rfl (by kernel_rfl) (fun _ _ _ h => h) (Or.inl ⟨by rfl, ?_⟩) ?_ ?_
          rotate_left
          · intro w'
            go_simp
            with_reducible rfl
          rotate_left
          · simp only [Act.put, List.setIfInBounds_toArray, List.set_cons_zero, List.set_cons_succ, i64_w, i32_w]
            rfl
          refine take_ (i := 14) (N := some 34) (v := ?_) (a' := ?_) #[true, true, true, true, true, true, true, true, true, true, true, true, true, true, true, true, true, true, false, true, false, false, false, false, false] rfl rfl (by kernel_rfl) (fun _ _ _ h => h) (Or.inl ⟨by rfl, ?_⟩) hHeld ?_ ?_
          rotate_left
          · rintro w' ⟨s0, s1, s2, s3, s4, s5, s6⟩
            go_simp
            with_reducible rfl
          rotate_left
          · simp only [Act.put, List.setIfInBounds_toArray, List.set_cons_zero, List.set_cons_succ, i64_w, i32_w]
            rfl
          refine take_ (i := 18) (N := some 38) (v := ?_) (a' := ?_) #[true, true, true, true, true, true, true, true, true, true, true, true, true, true, true, true, true, true, true, true, false, false, false, false, false] rfl rfl (by kernel_rfl) (fun _ _ _ h => h) (Or.inl ⟨by rfl, ?_⟩) hHeld ?_ ?_
          rotate_left
          · rintro w' ⟨s0, s1, s2, s3, s4, s5, s6⟩
            go_simp
            with_reducible rfl
          rotate_left
          · simp only [Act.put, List.setIfInBounds_toArray, List.set_cons_zero, List.set_cons_succ, i64_w, i32_w]
            rfl
          refine pure_ (i := 20) (N := some 40) (v := ?_) (a' := ?_) #[true, true, true, true, true, true, true, true, true, true, true, true, true, true, true, true, true, true, true, true, true, false, false, false, false] rfl rfl (by kernel_rfl) (fun _ _ _ h => h) (Or.inl ⟨by rfl, ?_⟩) ?_ ?_
          rotate_left
          · intro w'
            go_simp
            with_reducible rfl
          rotate_left
          · simp only [Act.put, List.setIfInBounds_toArray, List.set_cons_zero, List.set_cons_succ, i64_w, i32_w]
            rfl
          refine take_ (i := 21) (N := some 41) (v := ?_) (a' := ?_) #[true, true, true, true, true, true, true, true, true, true, true, true, true, true, true, true, true, true, true, true, true, true, false, false, false] rfl rfl (by kernel_rfl) (fun _ _ _ h => h) (Or.inl ⟨by rfl, ?_⟩) hHeld ?_ ?_
          rotate_left
          · rintro w' ⟨s0, s1, s2, s3, s4, s5, s6⟩
            go_simp
            with_reducible rfl
          rotate_left
          · simp only [Act.put, List.setIfInBounds_toArray, List.set_cons_zero, List.set_cons_succ, i64_w, i32_w]
            rfl
          refine last_ (i := 22) (N := some 42) #[true, true, true, true, true, true, true, true, true, true, true, true, true, true, true, true, true, true, true, true, true, true, true, false, false] rfl rfl (by kernel_rfl) (by decide) (fun K hK => ?_)
          refine goes_ Tryz.func23 (by kernel_rfl) rfl #[.agg #[.string cx.f0, .int .i64 cx.f1, .int .i64 cx.f2], .agg #[.string cy.f0, .int .i64 cy.f1, .int .i64 cy.f2]] (by rfl) rfl rfl (by simp only [List.map_toArray, List.map_cons, List.map_nil]; rfl) ?_
          with_reducible refine (HO.out _).mono ?_
          rintro e w3 ⟨rfl, hb⟩
          refine ⟨_, rfl, ?_⟩
          refine hK.out _ _ ?_
          clear hK K
          refine norm_ (a' := ?_) ?_ ?_
          rotate_left
          · show Act.put _ (some 42) _ = _
            simp only [Act.put, List.setIfInBounds_toArray, List.set_cons_zero, List.set_cons_succ, i64_w, i32_w]
            rfl
          refine pure_ (i := 23) (N := some 43) (v := ?_) (a' := ?_) #[true, true, true, true, true, true, true, true, true, true, true, true, true, true, true, true, true, true, true, true, true, true, true, true, false] rfl rfl (by kernel_rfl) (fun _ _ _ h => h) (Or.inl ⟨by rfl, ?_⟩) ?_ ?_
          rotate_left
          · intro w'
            go_simp
            with_reducible rfl
          rotate_left
          · simp only [Act.put, List.setIfInBounds_toArray, List.set_cons_zero, List.set_cons_succ, i64_w, i32_w]
            rfl
          refine pure_ (i := 24) (N := some 44) (v := ?_) (a' := ?_) #[true, true, true, true, true, true, true, true, true, true, true, true, true, true, true, true, true, true, true, true, true, true, true, true, true] rfl rfl (by kernel_rfl) (fun _ _ _ h => h) (Or.inl ⟨by rfl, ?_⟩) ?_ ?_
          rotate_left
          · intro w'
            go_simp
            with_reducible rfl
          rotate_left
          · simp only [Act.put, List.setIfInBounds_toArray, List.set_cons_zero, List.set_cons_succ, i64_w, i32_w]
            rfl
          refine done_ (by kernel_rfl) ?_
          have HB3 := Lib.hid (show Below wl.heap.size wl w3 from below_tr' HBI.out hb)
          clear hb hHeld h0 h1 h2 h3 h4 h5 h6
          have HKN := Lib.hid hk
          by_cases hq : q < 0
          · have HQ := Lib.hid hq
            go_wp2
            go_roundw
            case rel => exact ⟨t + 1, by omega, by go_num, by rw [HST.out, if_pos ⟨by rw [HYL.out]; exact HKN.out, HQ.out⟩], ⟨HB3.out⟩⟩
            case measure => simp [intOf]; omega
          · have HQ := Lib.hid hq
            go_wp2
            go_roundw
            case rel => exact ⟨t + 1, by omega, by go_num, by rw [HST.out, if_neg (fun e => absurd e.2 (by have := HQ.out; omega))], ⟨HB3.out⟩⟩
            case measure => simp [intOf]; omega
        · have h0 : wr.drew.cell? ⟨g, 1, none⟩ = some (.slice A n c) := (blk_cell HGW.out 1).trans rfl
          have HKN := Lib.hid hk
          have hki : ¬ (kk : Int) < (n : Int) := by omega
          generalize hfp : pkF ys j t = fp at *
          have HFP := Lib.hid hfp
          clear hfp
          go_wp2
          refine start_ (n := 25) (S := fun w' => w'.cell? ⟨g, 1, none⟩ = some (.slice A n c)) (ds := []) #[false, false, false, false, false, false, false, false, false, false, false, false, false, false, false, false, false, false, false, false, false, false, false, false, false] (by kernel_rfl) rfl rfl (h0) (fun hHeld => ?_)
          refine pure_ (i := 0) (N := some 20) (v := ?_) (a' := ?_) #[true, false, false, false, false, false, false, false, false, false, false, false, false, false, false, false, false, false, false, false, false, false, false, false, false] rfl rfl (by kernel_rfl) (fun _ _ _ h => h) (Or.inl ⟨by rfl, ?_⟩) ?_ ?_
          rotate_left
          · intro w'
            go_simp
            with_reducible rfl
          rotate_left
          · simp only [Act.put, List.setIfInBounds_toArray, List.set_cons_zero, List.set_cons_succ, i64_w, i32_w]
            rfl
          refine pure_ (i := 1) (N := some 21) (v := ?_) (a' := ?_) #[true, true, false, false, false, false, false, false, false, false, false, false, false, false, false, false, false, false, false, false, false, false, false, false, false] rfl rfl (by kernel_rfl) (fun _ _ _ h => h) (Or.inl ⟨by rfl, ?_⟩) ?_ ?_
          rotate_left
          · intro w'
            go_simp
            with_reducible rfl
          rotate_left
          · simp only [Act.put, List.setIfInBounds_toArray, List.set_cons_zero, List.set_cons_succ, i64_w, i32_w]
            rfl
          refine pure_ (i := 2) (N := some 22) (v := ?_) (a' := ?_) #[true, true, true, false, false, false, false, false, false, false, false, false, false, false, false, false, false, false, false, false, false, false, false, false, false] rfl rfl (by kernel_rfl) (fun _ _ _ h => h) (Or.inl ⟨by rfl, ?_⟩) ?_ ?_
          rotate_left
          · intro w'
            go_simp
            with_reducible rfl
          rotate_left
          · simp only [Act.put, List.setIfInBounds_toArray, List.set_cons_zero, List.set_cons_succ, i64_w, i32_w]
            rfl
          refine pure_ (i := 3) (N := some 23) (v := ?_) (a' := ?_) #[true, true, true, true, false, false, false, false, false, false, false, false, false, false, false, false, false, false, false, false, false, false, false, false, false] rfl rfl (by kernel_rfl) (fun _ _ _ h => h) (Or.inl ⟨by rfl, ?_⟩) ?_ ?_
          rotate_left
          · intro w'
            go_simp
            with_reducible rfl
          rotate_left
          · simp only [Act.put, List.setIfInBounds_toArray, List.set_cons_zero, List.set_cons_succ, i64_w, i32_w]
            rfl
          refine take_ (i := 4) (N := some 24) (v := ?_) (a' := ?_) #[true, true, true, true, true, false, false, false, false, false, false, false, false, false, false, false, false, false, false, false, false, false, false, false, false] rfl rfl (by kernel_rfl) (fun _ _ _ h => h) (Or.inl ⟨by rfl, ?_⟩) hHeld ?_ ?_
          rotate_left
          · intro w' s0
            go_simp
            with_reducible rfl
          rotate_left
          · simp only [Act.put, List.setIfInBounds_toArray, List.set_cons_zero, List.set_cons_succ, i64_w, i32_w]
            rfl
          refine pure_ (i := 5) (N := some 25) (v := ?_) (a' := ?_) #[true, true, true, true, true, true, false, false, false, false, false, false, false, false, false, false, false, false, false, false, false, false, false, false, false] rfl rfl (by kernel_rfl) (fun _ _ _ h => h) (Or.inl ⟨by rfl, ?_⟩) ?_ ?_
          rotate_left
          · intro w'
            go_simp
            with_reducible rfl
          rotate_left
          · simp only [Act.put, List.setIfInBounds_toArray, List.set_cons_zero, List.set_cons_succ, i64_w, i32_w]
            rfl
          refine pure_ (i := 6) (N := some 26) (v := ?_) (a' := ?_) #[true, true, true, true, true, true, true, false, false, false, false, false, false, false, false, false, false, false, false, false, false, false, false, false, false] rfl rfl (by kernel_rfl) (fun _ _ _ h => h) (Or.inl ⟨by rfl, ?_⟩) ?_ ?_
          rotate_left
          · intro w'
            go_simp
            with_reducible rfl
          rotate_left
          · simp only [Act.put, List.setIfInBounds_toArray, List.set_cons_zero, List.set_cons_succ, i64_w, i32_w]
            rfl
          refine pure_ (i := 7) (N := some 27) (v := ?_) (a' := ?_) #[true, true, true, true, true, true, true, true, false, false, false, false, false, false, false, false, false, false, false, false, false, false, false, false, false] rfl rfl (by kernel_rfl) (fun _ _ _ h => h) (Or.inl ⟨by rfl, ?_⟩) ?_ ?_
          rotate_left
          · intro w'
            go_simp
            with_reducible rfl
          rotate_left
          · simp only [Act.put, List.setIfInBounds_toArray, List.set_cons_zero, List.set_cons_succ, i64_w, i32_w]
            rfl
          refine pure_ (i := 8) (N := some 28) (v := undef) (a' := ?_) #[true, true, true, true, true, true, true, true, true, false, false, false, false, false, false, false, false, false, false, false, false, false, false, false, false] rfl rfl (by kernel_rfl) (fun _ _ _ h => h) (Or.inr ⟨by rfl, rfl⟩) ?_ ?_
          rotate_left
          · simp only [Act.put, List.setIfInBounds_toArray, List.set_cons_zero, List.set_cons_succ, i64_w, i32_w]
            rfl
          refine pure_ (i := 9) (N := some 29) (v := undef) (a' := ?_) #[true, true, true, true, true, true, true, true, true, true, false, false, false, false, false, false, false, false, false, false, false, false, false, false, false] rfl rfl (by kernel_rfl) (fun _ _ _ h => h) (Or.inr ⟨by rfl, rfl⟩) ?_ ?_
          rotate_left
          · simp only [Act.put, List.setIfInBounds_toArray, List.set_cons_zero, List.set_cons_succ, i64_w, i32_w]
            rfl
          refine pure_ (i := 10) (N := some 30) (v := undef) (a' := ?_) #[true, true, true, true, true, true, true, true, true, true, true, false, false, false, false, false, false, false, false, false, false, false, false, false, false] rfl rfl (by kernel_rfl) (fun _ _ _ h => h) (Or.inr ⟨by rfl, rfl⟩) ?_ ?_
          rotate_left
          · simp only [Act.put, List.setIfInBounds_toArray, List.set_cons_zero, List.set_cons_succ, i64_w, i32_w]
            rfl
          refine pure_ (i := 11) (N := some 31) (v := undef) (a' := ?_) #[true, true, true, true, true, true, true, true, true, true, true, true, false, false, false, false, false, false, false, false, false, false, false, false, false] rfl rfl (by kernel_rfl) (fun _ _ _ h => h) (Or.inr ⟨by rfl, rfl⟩) ?_ ?_
          rotate_left
          · simp only [Act.put, List.setIfInBounds_toArray, List.set_cons_zero, List.set_cons_succ, i64_w, i32_w]
            rfl
          refine pure_ (i := 12) (N := some 32) (v := undef) (a' := ?_) #[true, true, true, true, true, true, true, true, true, true, true, true, true, false, false, false, false, false, false, false, false, false, false, false, false] rfl rfl (by kernel_rfl) (fun _ _ _ h => h) (Or.inr ⟨by rfl, rfl⟩) ?_ ?_
          rotate_left
          · simp only [Act.put, List.setIfInBounds_toArray, List.set_cons_zero, List.set_cons_succ, i64_w, i32_w]
            rfl
          refine pure_ (i := 13) (N := some 33) (v := undef) (a' := ?_) #[true, true, true, true, true, true, true, true, true, true, true, true, true, true, false, false, false, false, false, false, false, false, false, false, false] rfl rfl (by kernel_rfl) (fun _ _ _ h => h) (Or.inr ⟨by rfl, rfl⟩) ?_ ?_
          rotate_left
          · simp only [Act.put, List.setIfInBounds_toArray, List.set_cons_zero, List.set_cons_succ, i64_w, i32_w]
            rfl
          refine pure_ (i := 14) (N := some 34) (v := undef) (a' := ?_) #[true, true, true, true, true, true, true, true, true, true, true, true, true, true, true, false, false, false, false, false, false, false, false, false, false] rfl rfl (by kernel_rfl) (fun _ _ _ h => h) (Or.inr ⟨by rfl, rfl⟩) ?_ ?_
          rotate_left
          · simp only [Act.put, List.setIfInBounds_toArray, List.set_cons_zero, List.set_cons_succ, i64_w, i32_w]
            rfl
          refine pure_ (i := 15) (N := some 35) (v := undef) (a' := ?_) #[true, true, true, true, true, true, true, true, true, true, true, true, true, true, true, true, false, false, false, false, false, false, false, false, false] rfl rfl (by kernel_rfl) (fun _ _ _ h => h) (Or.inr ⟨by rfl, rfl⟩) ?_ ?_
          rotate_left
          · simp only [Act.put, List.setIfInBounds_toArray, List.set_cons_zero, List.set_cons_succ, i64_w, i32_w]
            rfl
          refine pure_ (i := 16) (N := some 36) (v := undef) (a' := ?_) #[true, true, true, true, true, true, true, true, true, true, true, true, true, true, true, true, true, false, false, false, false, false, false, false, false] rfl rfl (by kernel_rfl) (fun _ _ _ h => h) (Or.inr ⟨by rfl, rfl⟩) ?_ ?_
          rotate_left
          · simp only [Act.put, List.setIfInBounds_toArray, List.set_cons_zero, List.set_cons_succ, i64_w, i32_w]
            rfl
          refine pure_ (i := 17) (N := some 37) (v := undef) (a' := ?_) #[true, true, true, true, true, true, true, true, true, true, true, true, true, true, true, true, true, true, false, false, false, false, false, false, false] rfl rfl (by kernel_rfl) (fun _ _ _ h => h) (Or.inr ⟨by rfl, rfl⟩) ?_ ?_
          rotate_left
          · simp only [Act.put, List.setIfInBounds_toArray, List.set_cons_zero, List.set_cons_succ, i64_w, i32_w]
            rfl
          refine pure_ (i := 18) (N := some 38) (v := undef) (a' := ?_) #[true, true, true, true, true, true, true, true, true, true, true, true, true, true, true, true, true, true, true, false, false, false, false, false, false] rfl rfl (by kernel_rfl) (fun _ _ _ h => h) (Or.inr ⟨by rfl, rfl⟩) ?_ ?_
          rotate_left
          · simp only [Act.put, List.setIfInBounds_toArray, List.set_cons_zero, List.set_cons_succ, i64_w, i32_w]
            rfl
          refine pure_ (i := 19) (N := some 39) (v := undef) (a' := ?_) #[true, true, true, true, true, true, true, true, true, true, true, true, true, true, true, true, true, true, true, true, false, false, false, false, false] rfl rfl (by kernel_rfl) (fun _ _ _ h => h) (Or.inr ⟨by rfl, rfl⟩) ?_ ?_
          rotate_left
          · simp only [Act.put, List.setIfInBounds_toArray, List.set_cons_zero, List.set_cons_succ, i64_w, i32_w]
            rfl
          refine pure_ (i := 20) (N := some 40) (v := undef) (a' := ?_) #[true, true, true, true, true, true, true, true, true, true, true, true, true, true, true, true, true, true, true, true, true, false, false, false, false] rfl rfl (by kernel_rfl) (fun _ _ _ h => h) (Or.inr ⟨by rfl, rfl⟩) ?_ ?_
          rotate_left
          · simp only [Act.put, List.setIfInBounds_toArray, List.set_cons_zero, List.set_cons_succ, i64_w, i32_w]
            rfl
          refine pure_ (i := 21) (N := some 41) (v := undef) (a' := ?_) #[true, true, true, true, true, true, true, true, true, true, true, true, true, true, true, true, true, true, true, true, true, true, false, false, false] rfl rfl (by kernel_rfl) (fun _ _ _ h => h) (Or.inr ⟨by rfl, rfl⟩) ?_ ?_
          rotate_left
          · simp only [Act.put, List.setIfInBounds_toArray, List.set_cons_zero, List.set_cons_succ, i64_w, i32_w]
            rfl
          refine pure_ (i := 22) (N := some 42) (v := undef) (a' := ?_) #[true, true, true, true, true, true, true, true, true, true, true, true, true, true, true, true, true, true, true, true, true, true, true, false, false] rfl rfl (by kernel_rfl) (fun _ _ _ h => h) (Or.inr ⟨by rfl, rfl⟩) ?_ ?_
          rotate_left
          · simp only [Act.put, List.setIfInBounds_toArray, List.set_cons_zero, List.set_cons_succ, i64_w, i32_w]
            rfl
          refine pure_ (i := 23) (N := some 43) (v := undef) (a' := ?_) #[true, true, true, true, true, true, true, true, true, true, true, true, true, true, true, true, true, true, true, true, true, true, true, true, false] rfl rfl (by kernel_rfl) (fun _ _ _ h => h) (Or.inr ⟨by rfl, rfl⟩) ?_ ?_
          rotate_left
          · simp only [Act.put, List.setIfInBounds_toArray, List.set_cons_zero, List.set_cons_succ, i64_w, i32_w]
            rfl
          refine pure_ (i := 24) (N := some 44) (v := ?_) (a' := ?_) #[true, true, true, true, true, true, true, true, true, true, true, true, true, true, true, true, true, true, true, true, true, true, true, true, true] rfl rfl (by kernel_rfl) (fun _ _ _ h => h) (Or.inl ⟨by rfl, ?_⟩) ?_ ?_
          rotate_left
          · intro w'
            go_simp
            with_reducible rfl
          rotate_left
          · simp only [Act.put, List.setIfInBounds_toArray, List.set_cons_zero, List.set_cons_succ, i64_w, i32_w]
            rfl
          refine done_ (by kernel_rfl) ?_
          go_wp2
          go_roundw
          case rel => exact ⟨t + 1, by omega, by go_num, by rw [HST.out, if_neg (fun e => absurd e.1 (by rw [HYL.out]; exact HKN.out))], ⟨below_dr HBI.out⟩⟩
          case measure => simp [intOf]; omega
      · obtain rfl : t = 2 := by omega
        have HPK := Lib.hid (pkF_lt ys j 2)
        have HBW := Lib.hid (below_lo HBL.out HBI.out)
        have hgw : wr.heap[g]? = some (.cells #[.bool true, .slice A n c, mv] 113 (0, 0)) := by
          have e1 := (HGR.out.block g (blk_lt HG.out) (fun e => hok g (HR.out.1 g e.symm) rfl)).trans HG.out
          have e2 := (HBL.out.block g (blk_lt e1)).trans e1
          exact (HBI.out.block g (blk_lt e2)).trans e2
        have HGW := Lib.hid hgw
        clear hgw
        obtain ⟨f, rfl⟩ : ∃ f', f = f' + 1 := ⟨f - 1, by omega⟩
        have HI2 := Lib.hid (show (if pkF ys j 2 = j then ys else downF f (swapL ys j (pkF ys j 2)) (pkF ys j 2)) = Rs from HI.out)
        generalize hp : pkF ys j 2 = p at *
        have HP := Lib.hid hp
        clear hp
        by_cases hpj : p = j
        · have HPJ := Lib.hid hpj
          have hpb : (p : Int) = (j : Int) := by omega
          clear hpj
          go_wp2
          exact ⟨rfl, _, results_none (by kernel_rfl) _ _ _, rfl, by have := HI2.out; rw [if_pos HPJ.out] at this; rw [← this]; exact Kd.R_below HYR.out HBW.out, grown_tr HGR.out (grown_below HBW.out)⟩
        · have HPJ := Lib.hid hpj
          have hpb : ¬ (p : Int) = (j : Int) := by omega
          have hpn : j < p ∧ p < n := by
            have h1 := HPK.out
            have h2 := HYL.out
            omega
          obtain ⟨hjp, hpn⟩ := hpn
          clear hpj
          have HSW := Lib.hid (swap_any g A n c mv ys wr base ok HGW.out HYL.out (Kd.R_below HYR.out HBW.out) hok j p (by omega) hpn hl)
          go_wp2_with fail
          refine HSW.out.mono ?_
          rintro e w4 ⟨rfl, hR4, hg4⟩
          have HR4 := Lib.hid hR4
          have HG4 := Lib.hid hg4
          clear hR4 hg4
          go_wp2
          go_roundw
          case rel => exact ⟨p, f, swapL ys j p, rfl, by omega, by omega, ⟨by rw [swapL_len]; exact HYL.out⟩, ⟨HR4.out⟩, ⟨grown_tr (grown_tr HGR.out (grown_below HBW.out)) HG4.out⟩, ⟨by have := HI2.out; rw [if_neg HPJ.out] at this; exact this⟩⟩
          case measure => simp [intOf]; omega
end Go.Proofs.YtafigkikblpbnaaGreat
namespace Go.Proofs.YtafigkikblpbnaaGreat
open Go.RowKit Go.Proofs.YtafigkikblpbnaaGreatW.PrintWords Go.Proofs.YtafigkikblpbnaaGreatW.PrintLast Go.Proofs.YtafigkikblpbnaaGreatW.PrintMore
set_option linter.unusedVariables false
set_option maxRecDepth 100000
set_option linter.unusedSimpArgs false
open PG (ordI)

/-- A queue at block g, its blocks in M: its items, its names, at most so many. -/
def IsQ (w : World) (base g : Nat) (M : Nat → Prop) (xs : List It) (S : ByteArray → Bool) (cnt : Nat) : Prop :=
  ∃ A c b, w.heap[g]? = some (.cells #[.bool true, .slice A xs.length c, .map (some b)] 113 (0, 0)) ∧ base ≤ g ∧ base ≤ b ∧ M g ∧ M b ∧ g ≠ b ∧ b < w.heap.size ∧ Kd.R PG.k40 39 w base (fun k => M k ∧ k ≠ g ∧ k ≠ b) (.slice A xs.length c) xs ∧ HasMap w b cnt S
theorem is_any (g : Nat) (u v : Value) (w : World) (hg : w.heap[g]? = some (.cells #[.bool true, u, v] 113 (0, 0))) :
    Calls Tryz.prog 44 #[.pointer (some ⟨g, 0, none⟩)] w fun e w' => e = .returned (.bool true) ∧ w = w' := by
  have h0 : w.cell? ⟨g, 0, none⟩ = some (.bool true) := (blk_cell hg 0).trans rfl
  clear hg
  go_enter Tryz.func44, Tryz.ntmps44
  go_wp2
  go_ret
  exact ⟨rfl, rfl⟩
theorem len_any (g : Nat) (A : Option Addr) (n c : Nat) (v : Value) (w : World) (hg : w.heap[g]? = some (.cells #[.bool true, .slice A n c, v] 113 (0, 0))) :
    Calls Tryz.prog 20 #[.pointer (some ⟨g, 0, none⟩)] w fun e w' => e = .returned (.int .i64 n) ∧ w = w' := by
  have h1 : w.cell? ⟨g, 1, none⟩ = some (.slice A n c) := (blk_cell hg 1).trans rfl
  have HG := Lib.hid hg
  clear hg
  go_enter Tryz.func20, Tryz.ntmps20
  go_wp2_with fail
  refine (is_any g _ _ _ HG.out).mono ?_
  rintro e w2 ⟨rfl, rfl⟩
  go_wp2
  go_ret
  exact ⟨rfl, rfl⟩
/-- What is boxed. -/
abbrev boxI (x : It) : Obj := .cells #[.string x.f0, .int .i64 x.f1, .int .i64 x.f2] 39 (0, 0)
theorem info36 : (Tryz.prog.info? 39).map (fun i => (i.zero, i.size, i.bytes)) = some (some (.agg #[.string ⟨#[]⟩, .int .i64 0, .int .i64 0]), 3, 32) := by kernel_rfl
theorem upF_len : ∀ (f : Nat) (xs : List It) (i : Nat), (upF f xs i).length = xs.length
  | 0, _, _ => rfl
  | f + 1, xs, i => by
    unfold upF
    split
    · split
      · rfl
      · rw [upF_len f, swapL_len]
    · rfl
theorem below_grown {base : Nat} {w W W2 : World} {row : Option Nat} (h : Below base w W) (hg : W.grownBy W2 row) (hr : ∀ k, row = some k → base ≤ k) (hbs : base ≤ W.heap.size) : Below base w W2 :=
  ⟨hg.os.trans h.os, hg.tape.trans h.tape, hg.output.trans h.output, Nat.le_trans h.size hg.size, fun k hk => (hg.block k (by omega) (fun e => by have := hr k e.symm; omega)).trans (h.block k hk)⟩
theorem grown_dr {a b : World} {row : Option Nat} (h : a.drew.grownBy b row) : a.grownBy b row := ⟨h.os, h.tape, h.output, h.size, h.block⟩
theorem Below.low_ {N base : Nat} {w W : World} (h : Below N w W) (hb : base ≤ N) : Below base w W := ⟨h.os, h.tape, h.output, h.size, fun k hk => h.block k (Nat.lt_of_lt_of_le hk hb)⟩
theorem HasMap.setCell {w : World} {b cnt : Nat} {S : ByteArray → Bool} (h : HasMap w b cnt S) {a : Addr} (hne : b ≠ a.block) (v : Value) : HasMap (w.setCell a v) b cnt S := by
  obtain ⟨D, hD, hS⟩ := h
  exact ⟨D, hD.setCell hne v, hS⟩
set_option maxHeartbeats 8000000 in
theorem put_new (g base cnt : Nat) (M : Nat → Prop) (xs : List It) (S : ByteArray → Bool) (w : World) (h : IsQ w base g M xs S cnt) (x : It) (hx : x.f0.size ≤ maxLen) (hS : S x.f0 = false) (hl : xs.length < 200) (hcnt : cnt < 1000000) (hbase : base ≤ w.heap.size) :
    Calls Tryz.prog 17 #[.pointer (some ⟨g, 0, none⟩), .agg #[.string x.f0, .int .i64 x.f1, .int .i64 x.f2]] w fun e w' => e = .returned (.int .i64 0) ∧ IsQ w' base g (fun k => M k ∨ w.heap.size ≤ k ∧ k < w'.heap.size) (upF xs.length (xs ++ [x]) xs.length) (fun t => decide (t = x.f0) || S t) (cnt + 1) ∧ Kept w w' M ∧ Below base w w' := by
  obtain ⟨A, c, b, hg, hbg, hbb, hMg, hMb, hgb, hbl, hR, hm⟩ := h
  have HG := Lib.hid hg
  have HM := Lib.hid hm
  have HSX := Lib.hid hS
  have HR := Lib.hid hR
  have HGB := Lib.hid (show g ≠ w.heap.size ∧ b ≠ w.heap.size from ⟨fun e => by have := blk_lt hg; omega, by omega⟩)
  clear hg hm hS hR
  go_enter Tryz.func17, Tryz.ntmps17
  go_wp2_with fail
  have HX1 := Lib.hid (show (w.alloc (boxI x)).heap[w.heap.size]? = some (boxI x) by show (w.heap.push _)[w.heap.size]? = _; simp)
  have HB1 := Lib.hid (show Below w.heap.size w (w.alloc (boxI x)) from below_alloc (Below.refl _ _) _)
  have HS1 := Lib.hid (show (w.alloc (boxI x)).heap.size = w.heap.size + 1 from World.size_alloc _ _)
  generalize w.alloc (boxI x) = w1 at *
  have HG1 := Lib.hid ((HB1.out.block g (blk_lt HG.out)).trans HG.out)
  have HM1 := Lib.hid (HM.out.kept (grown_below (row := none) HB1.out) (by simp))
  have HR1 := Lib.hid (Kd.R_below HR.out HB1.out)
  refine (is_any g _ _ w1 HG1.out).mono ?_
  rintro e w2 ⟨rfl, hw2⟩
  subst hw2
  go_wp2
  have h0 : w1.drew.cell? ⟨g, 2, none⟩ = some (.map (some b)) := (blk_cell HG1.out 2).trans rfl
  have h1 : w1.drew.cell? ⟨w.heap.size, 0, none⟩ = some (.string x.f0) := (blk_cell HX1.out 0).trans rfl
  have hlk : Sem.run Tryz.prog (Instr.lookup 111 (.map (some b)) (.string x.f0) false) w1.drew = .ok (.bool (S x.f0)) w1.drew := HasMap.lookup (w := w1.drew) HM1.out x.f0 hx
  rw [HSX.out] at hlk
  refine start_ (n := 8) (S := fun w' => w'.cell? ⟨g, 2, none⟩ = some (.map (some b)) ∧ w'.cell? ⟨w.heap.size, 0, none⟩ = some (.string x.f0)) (ds := [6]) #[false, false, false, false, false, false, false, false] (by kernel_rfl) rfl rfl ⟨h0, h1⟩ (fun hHeld => ?_)
  refine pure_ (i := 0) (N := some 10) (v := ?_) (a' := ?_) #[true, false, false, false, false, false, false, false] rfl rfl (by kernel_rfl) (fun _ _ _ h => h) (Or.inl ⟨by rfl, ?_⟩) ?_ ?_
  rotate_left
  · intro w'
    go_simp
    with_reducible rfl
  rotate_left
  · simp only [Act.put, List.setIfInBounds_toArray, List.set_cons_zero, List.set_cons_succ, i64_w, i32_w]
    rfl
  refine pure_ (i := 1) (N := some 11) (v := ?_) (a' := ?_) #[true, true, false, false, false, false, false, false] rfl rfl (by kernel_rfl) (fun _ _ _ h => h) (Or.inl ⟨by rfl, ?_⟩) ?_ ?_
  rotate_left
  · intro w'
    go_simp
    with_reducible rfl
  rotate_left
  · simp only [Act.put, List.setIfInBounds_toArray, List.set_cons_zero, List.set_cons_succ, i64_w, i32_w]
    rfl
  refine pure_ (i := 2) (N := some 12) (v := ?_) (a' := ?_) #[true, true, true, false, false, false, false, false] rfl rfl (by kernel_rfl) (fun _ _ _ h => h) (Or.inl ⟨by rfl, ?_⟩) ?_ ?_
  rotate_left
  · intro w'
    go_simp
    with_reducible rfl
  rotate_left
  · simp only [Act.put, List.setIfInBounds_toArray, List.set_cons_zero, List.set_cons_succ, i64_w, i32_w]
    rfl
  refine pure_ (i := 4) (N := some 14) (v := ?_) (a' := ?_) #[true, true, true, false, true, false, false, false] rfl rfl (by kernel_rfl) (fun _ _ _ h => h) (Or.inl ⟨by rfl, ?_⟩) ?_ ?_
  rotate_left
  · intro w'
    go_simp
    with_reducible rfl
  rotate_left
  · simp only [Act.put, List.setIfInBounds_toArray, List.set_cons_zero, List.set_cons_succ, i64_w, i32_w]
    rfl
  refine take_ (i := 3) (N := some 13) (v := ?_) (a' := ?_) #[true, true, true, true, true, false, false, false] rfl rfl (by kernel_rfl) (fun _ _ _ h => h) (Or.inl ⟨by rfl, ?_⟩) hHeld ?_ ?_
  rotate_left
  · rintro w' ⟨s0, s1⟩
    go_simp
    with_reducible rfl
  rotate_left
  · simp only [Act.put, List.setIfInBounds_toArray, List.set_cons_zero, List.set_cons_succ, i64_w, i32_w]
    rfl
  refine take_ (i := 5) (N := some 15) (v := ?_) (a' := ?_) #[true, true, true, true, true, true, false, false] rfl rfl (by kernel_rfl) (fun _ _ _ h => h) (Or.inl ⟨by rfl, ?_⟩) hHeld ?_ ?_
  rotate_left
  · rintro w' ⟨s0, s1⟩
    go_simp
    with_reducible rfl
  rotate_left
  · simp only [Act.put, List.setIfInBounds_toArray, List.set_cons_zero, List.set_cons_succ, i64_w, i32_w]
    rfl
  refine last_ (i := 6) (N := some 16) #[true, true, true, true, true, true, true, false] rfl rfl (by kernel_rfl) (by decide) (fun K hK => ?_)
  refine value_ (w1 := ?_) (v := ?_) (by rfl) rfl ?_ ?_
  rotate_left 2
  · go_simp
    constructor
    · rfl
    · rfl
  refine hK.out _ _ ?_
  clear hK K
  refine norm_ (a' := ?_) ?_ ?_
  rotate_left
  · show Act.put _ (some 16) _ = _
    simp only [Act.put, List.setIfInBounds_toArray, List.set_cons_zero, List.set_cons_succ, i64_w, i32_w]
    rfl
  refine pure_ (i := 7) (N := some 9) (v := ?_) (a' := ?_) #[true, true, true, true, true, true, true, true] rfl rfl (by kernel_rfl) (fun _ _ _ h => h) (Or.inl ⟨by rfl, ?_⟩) ?_ ?_
  rotate_left
  · intro w'
    go_simp
    with_reducible rfl
  rotate_left
  · simp only [Act.put, List.setIfInBounds_toArray, List.set_cons_zero, List.set_cons_succ, i64_w, i32_w]
    rfl
  refine done_ (by kernel_rfl) ?_
  have h2 : w1.drew.cell? ⟨g, 1, none⟩ = some (.slice A xs.length c) := (blk_cell HG1.out 1).trans rfl
  have hl2 : ¬ (200 : Int) ≤ (xs.length : Int) := by omega
  go_wp2
  clear h0 h1 h2 hlk
  have HGa := Lib.hid (show w1.drew.heap[g]? = _ from HG1.out)
  have HXa := Lib.hid (show w1.drew.heap[w.heap.size]? = _ from HX1.out)
  have HMa := Lib.hid (show HasMap w1.drew b cnt S from HM1.out)
  have HRa := Lib.hid (Kd.R_drew HR1.out)
  have HBa := Lib.hid (below_dr HB1.out)
  have HSa := Lib.hid (show w1.drew.heap.size = w.heap.size + 1 from HS1.out)
  generalize w1.drew = wa at *
  have h2 : wa.drew.cell? ⟨g, 1, none⟩ = some (.slice A xs.length c) := (blk_cell HGa.out 1).trans rfl
  have hx0 : wa.drew.cell? ⟨w.heap.size, 0, none⟩ = some (.string x.f0) := (blk_cell HXa.out 0).trans rfl
  have hx1 : wa.drew.cell? ⟨w.heap.size, 1, none⟩ = some (.int .i64 x.f1) := (blk_cell HXa.out 1).trans rfl
  have hx2 : wa.drew.cell? ⟨w.heap.size, 2, none⟩ = some (.int .i64 x.f2) := (blk_cell HXa.out 2).trans rfl
  have OKN := Lib.hid (show ∀ k, wa.drew.heap.size ≤ k → (M k ∨ w.heap.size ≤ k) ∧ k ≠ g ∧ k ≠ b from fun k hk => by
    have h1 := HSa.out
    have h2 := blk_lt HG.out
    have hk2 : wa.heap.size ≤ k := hk
    exact ⟨.inr (by omega), by omega, by omega⟩)
  refine start_ (n := 11) (S := fun w' => w'.cell? ⟨g, 1, none⟩ = some (.slice A xs.length c) ∧ w'.cell? ⟨w.heap.size, 0, none⟩ = some (.string x.f0) ∧ w'.cell? ⟨w.heap.size, 1, none⟩ = some (.int .i64 x.f1) ∧ w'.cell? ⟨w.heap.size, 2, none⟩ = some (.int .i64 x.f2)) (ds := [7, 10]) #[false, false, false, false, false, false, false, false, false, false, false] (by kernel_rfl) rfl rfl ⟨h2, hx0, hx1, hx2⟩ (fun hHeld => ?_)
  refine pure_ (i := 0) (N := some 24) (v := ?_) (a' := ?_) #[true, false, false, false, false, false, false, false, false, false, false] rfl rfl (by kernel_rfl) (fun _ _ _ h => h) (Or.inl ⟨by rfl, ?_⟩) ?_ ?_
  rotate_left
  · intro w'
    go_simp
    with_reducible rfl
  rotate_left
  · simp only [Act.put, List.setIfInBounds_toArray, List.set_cons_zero, List.set_cons_succ, i64_w, i32_w]
    rfl
  refine pure_ (i := 1) (N := some 25) (v := ?_) (a' := ?_) #[true, true, false, false, false, false, false, false, false, false, false] rfl rfl (by kernel_rfl) (fun _ _ _ h => h) (Or.inl ⟨by rfl, ?_⟩) ?_ ?_
  rotate_left
  · intro w'
    go_simp
    with_reducible rfl
  rotate_left
  · simp only [Act.put, List.setIfInBounds_toArray, List.set_cons_zero, List.set_cons_succ, i64_w, i32_w]
    rfl
  refine pure_ (i := 2) (N := some 26) (v := ?_) (a' := ?_) #[true, true, true, false, false, false, false, false, false, false, false] rfl rfl (by kernel_rfl) (fun _ _ _ h => h) (Or.inl ⟨by rfl, ?_⟩) ?_ ?_
  rotate_left
  · intro w'
    go_simp
    with_reducible rfl
  rotate_left
  · simp only [Act.put, List.setIfInBounds_toArray, List.set_cons_zero, List.set_cons_succ, i64_w, i32_w]
    rfl
  refine pure_ (i := 3) (N := some 27) (v := ?_) (a' := ?_) #[true, true, true, true, false, false, false, false, false, false, false] rfl rfl (by kernel_rfl) (fun _ _ _ h => h) (Or.inl ⟨by rfl, ?_⟩) ?_ ?_
  rotate_left
  · intro w'
    go_simp
    with_reducible rfl
  rotate_left
  · simp only [Act.put, List.setIfInBounds_toArray, List.set_cons_zero, List.set_cons_succ, i64_w, i32_w]
    rfl
  refine take_ (i := 4) (N := some 28) (v := ?_) (a' := ?_) #[true, true, true, true, true, false, false, false, false, false, false] rfl rfl (by kernel_rfl) (fun _ _ _ h => h) (Or.inl ⟨by rfl, ?_⟩) hHeld ?_ ?_
  rotate_left
  · rintro w' ⟨s0, s1, s2, s3⟩
    go_simp
    with_reducible rfl
  rotate_left
  · simp only [Act.put, List.setIfInBounds_toArray, List.set_cons_zero, List.set_cons_succ, i64_w, i32_w]
    rfl
  refine take_ (i := 5) (N := some 29) (v := ?_) (a' := ?_) #[true, true, true, true, true, true, false, false, false, false, false] rfl rfl (by kernel_rfl) (fun _ _ _ h => h) (Or.inl ⟨by rfl, ?_⟩) hHeld ?_ ?_
  rotate_left
  · rintro w' ⟨s0, s1, s2, s3⟩
    go_simp
    with_reducible rfl
  rotate_left
  · simp only [Act.put, List.setIfInBounds_toArray, List.set_cons_zero, List.set_cons_succ, i64_w, i32_w]
    rfl
  refine one_ (i := 6) (N := some 30) #[true, true, true, true, true, true, true, false, false, false, false] rfl rfl (by kernel_rfl) (by decide) (fun K hK => ?_)
  refine value_ (w1 := ?_) (v := ?_) (by rfl) rfl ?_ ?_
  rotate_left 2
  · go_simp
    constructor
    · rfl
    · rfl
  refine hK.out _ _ ⟨(World.cell?_alloc_lt _ _ _ (World.block_lt_of_cell? _ _ h2)).trans h2, (World.cell?_alloc_lt _ _ _ (World.block_lt_of_cell? _ _ hx0)).trans hx0, (World.cell?_alloc_lt _ _ _ (World.block_lt_of_cell? _ _ hx1)).trans hx1, (World.cell?_alloc_lt _ _ _ (World.block_lt_of_cell? _ _ hx2)).trans hx2⟩ (fun hHeld => ?_)
  clear hK K
  refine norm_ (a' := ?_) ?_ ?_
  rotate_left
  · show Act.put _ (some 30) _ = _
    simp only [Act.put, List.setIfInBounds_toArray, List.set_cons_zero, List.set_cons_succ, i64_w, i32_w]
    rfl
  refine last_ (i := 7) (N := some 31) #[true, true, true, true, true, true, true, true, false, false, false] rfl rfl (by kernel_rfl) (by decide) (fun K hK => ?_)
  refine Kd.R_append_step PG.k40 (w0 := w) base (by rfl) (.tmp 28) (.tmp 30) 34 39 (.agg #[.string ⟨#[]⟩, .int .i64 0, .int .i64 0]) 32 rfl Tryz.underlying34 info36 rfl (by decide) (by decide) (.slice A xs.length c) xs x [.string x.f0, .int .i64 x.f1, .int .i64 x.f2] (fun k => (M k ∨ w.heap.size ≤ k) ∧ k ≠ g ∧ k ≠ b) (fun _ => False) rfl rfl (PG.k40_mkM _ _ _ x) (fun _ hk => hk.elim) (fun k hk => OKN.out k hk) (Kd.R_mono (Kd.R_drew HRa.out) (fun k hk => ⟨.inl hk.1, hk.2.1, hk.2.2⟩)) (below_dr (Below.low_ HBa.out hbase)) (Nat.le_trans hbase HBa.out.size) (by omega) ?_
  intro v6 w6 ho6 hb6 hg6 hat6
  obtain ⟨A6, c6, hv6⟩ := Kd.R_slice ho6
  obtain ⟨n6, hn6⟩ : ∃ n6, n6 = (xs ++ [x]).length := ⟨_, rfl⟩
  rw [← hn6] at hv6
  subst hv6
  have HN6 := Lib.hid hn6
  clear hn6
  have HO6 := Lib.hid ho6
  have HB6 := Lib.hid hb6
  have HG6 := Lib.hid hg6
  clear ho6 hb6 hg6 hat6
  have hgg := (HG6.out.block g (blk_lt HGa.out) (fun e => HR.out.1 g e.symm |>.2.1 rfl)).trans HGa.out
  have HGG := Lib.hid hgg
  have hc6 : w6.cell? ⟨g, 1, none⟩ = some (.slice A xs.length c) := (blk_cell hgg 1).trans rfl
  have hf6 := blk_frozen hgg 1
  clear hgg
  refine hK.out _ _ ?_
  clear hK K
  refine norm_ (a' := ?_) ?_ ?_
  rotate_left
  · show Act.put _ (some 31) _ = _
    simp only [Act.put, List.setIfInBounds_toArray, List.set_cons_zero, List.set_cons_succ, i64_w, i32_w]
    rfl
  refine pure_ (i := 8) (N := some 32) (v := ?_) (a' := ?_) #[true, true, true, true, true, true, true, true, true, false, false] rfl rfl (by kernel_rfl) (fun _ _ _ h => h) (Or.inl ⟨by rfl, ?_⟩) ?_ ?_
  rotate_left
  · intro w'
    go_simp
    with_reducible rfl
  rotate_left
  · simp only [Act.put, List.setIfInBounds_toArray, List.set_cons_zero, List.set_cons_succ, i64_w, i32_w]
    rfl
  refine pure_ (i := 9) (N := some 33) (v := ?_) (a' := ?_) #[true, true, true, true, true, true, true, true, true, true, false] rfl rfl (by kernel_rfl) (fun _ _ _ h => h) (Or.inl ⟨by rfl, ?_⟩) ?_ ?_
  rotate_left
  · intro w'
    go_simp
    with_reducible rfl
  rotate_left
  · simp only [Act.put, List.setIfInBounds_toArray, List.set_cons_zero, List.set_cons_succ, i64_w, i32_w]
    rfl
  refine last_ (i := 10) (N := none) #[true, true, true, true, true, true, true, true, true, true, true] rfl rfl (by kernel_rfl) (by decide) (fun K hK => ?_)
  refine skip_ (w1 := ?_) (by rfl) rfl ?_ ?_
  rotate_left
  · go_simp
    rfl
  refine hK.out _ _ ?_
  clear hK K
  refine done_ (by kernel_rfl) ?_
  go_wp2
  have hw7 := Lib.hid (blk_set HGG.out 1 (.slice A6 n6 c6))
  have hr7 := Lib.hid (Kd.R_far (p := ⟨g, 1, none⟩) HO6.out (fun k hk => hk.2.1) (.slice A6 n6 c6))
  have hb7 := Lib.hid (Below.setCell HB6.out (p := ⟨g, 1, none⟩) hbg (.slice A6 n6 c6))
  have hxn : w.heap.size ≠ g := fun e => HGB.out.1 e.symm
  have hrow : ∀ r, (Value.slice A xs.length c).ownBlock = some r → r ≠ g ∧ r ≠ b ∧ r < w.heap.size := fun r e => ⟨(HR.out.1 r e).2.1, (HR.out.1 r e).2.2, Kd.R_lt HR.out r e⟩
  have hx6 : w6.heap[w.heap.size]? = some (boxI x) := (HG6.out.block _ (blk_lt HXa.out) (fun e => by have := (hrow _ e.symm).2.2; omega)).trans HXa.out
  have hx7 := Lib.hid (show (w6.setCell ⟨g, 1, none⟩ (.slice A6 n6 c6)).heap[w.heap.size]? = some (boxI x) by rw [Below.heap_setCell _ _ _ _ hxn]; exact hx6)
  have hm6 := HMa.out.kept (grown_dr HG6.out) (fun e => (hrow _ e.symm).2.1 rfl)
  have hm7 := Lib.hid (show HasMap (w6.setCell ⟨g, 1, none⟩ (.slice A6 n6 c6)) b cnt S from hm6.setCell (fun e => hgb e.symm) _)
  have hs7 := Lib.hid (show w.heap.size < (w6.setCell ⟨g, 1, none⟩ (.slice A6 n6 c6)).heap.size from blk_lt hx7.out)
  have hsz6 := Lib.hid (show wa.heap.size ≤ (w6.setCell ⟨g, 1, none⟩ (.slice A6 n6 c6)).heap.size by
    have e : (w6.setCell ⟨g, 1, none⟩ (.slice A6 n6 c6)).heap.size = w6.heap.size := by simp [World.setCell]
    rw [e]
    exact HG6.out.size)
  have hk7 := Lib.hid (show Kept w (w6.setCell ⟨g, 1, none⟩ (.slice A6 n6 c6)) M from
    (Kept.of_grown (grown_dr HG6.out) (Kept.of_below HBa.out M) (fun r e => .inl (HR.out.1 r e.symm.symm).1)).setCell (p := ⟨g, 1, none⟩) (.inl hMg) _)
  clear hx6 hm6
  generalize w6.setCell ⟨g, 1, none⟩ (.slice A6 n6 c6) = w7 at *
  have h0 : w7.drew.cell? ⟨g, 2, none⟩ = some (.map (some b)) := (blk_cell hw7.out 2).trans rfl
  have h1 : w7.drew.cell? ⟨w.heap.size, 0, none⟩ = some (.string x.f0) := (blk_cell hx7.out 0).trans rfl
  obtain ⟨w8, hrun8, hm8, hg8⟩ := HasMap.put (w := w7.drew) hm7.out (by unfold maxLen; omega) x.f0 hx
  have HM8 := Lib.hid hm8
  have HG8 := Lib.hid (show w7.grownBy w8 (some b) from ⟨hg8.os, hg8.tape, hg8.output, hg8.size, hg8.block⟩)
  clear hm8 hg8
  refine start_ (n := 7) (S := fun w' => w'.cell? ⟨g, 2, none⟩ = some (.map (some b)) ∧ w'.cell? ⟨w.heap.size, 0, none⟩ = some (.string x.f0)) (ds := [6]) #[false, false, false, false, false, false, false] (by kernel_rfl) rfl rfl ⟨h0, h1⟩ (fun hHeld => ?_)
  refine pure_ (i := 0) (N := some 34) (v := ?_) (a' := ?_) #[true, false, false, false, false, false, false] rfl rfl (by kernel_rfl) (fun _ _ _ h => h) (Or.inl ⟨by rfl, ?_⟩) ?_ ?_
  rotate_left
  · intro w'
    go_simp
    with_reducible rfl
  rotate_left
  · simp only [Act.put, List.setIfInBounds_toArray, List.set_cons_zero, List.set_cons_succ, i64_w, i32_w]
    rfl
  refine pure_ (i := 1) (N := some 35) (v := ?_) (a' := ?_) #[true, true, false, false, false, false, false] rfl rfl (by kernel_rfl) (fun _ _ _ h => h) (Or.inl ⟨by rfl, ?_⟩) ?_ ?_
  rotate_left
  · intro w'
    go_simp
    with_reducible rfl
  rotate_left
  · simp only [Act.put, List.setIfInBounds_toArray, List.set_cons_zero, List.set_cons_succ, i64_w, i32_w]
    rfl
  refine pure_ (i := 2) (N := some 36) (v := ?_) (a' := ?_) #[true, true, true, false, false, false, false] rfl rfl (by kernel_rfl) (fun _ _ _ h => h) (Or.inl ⟨by rfl, ?_⟩) ?_ ?_
  rotate_left
  · intro w'
    go_simp
    with_reducible rfl
  rotate_left
  · simp only [Act.put, List.setIfInBounds_toArray, List.set_cons_zero, List.set_cons_succ, i64_w, i32_w]
    rfl
  refine pure_ (i := 4) (N := some 38) (v := ?_) (a' := ?_) #[true, true, true, false, true, false, false] rfl rfl (by kernel_rfl) (fun _ _ _ h => h) (Or.inl ⟨by rfl, ?_⟩) ?_ ?_
  rotate_left
  · intro w'
    go_simp
    with_reducible rfl
  rotate_left
  · simp only [Act.put, List.setIfInBounds_toArray, List.set_cons_zero, List.set_cons_succ, i64_w, i32_w]
    rfl
  refine take_ (i := 3) (N := some 37) (v := ?_) (a' := ?_) #[true, true, true, true, true, false, false] rfl rfl (by kernel_rfl) (fun _ _ _ h => h) (Or.inl ⟨by rfl, ?_⟩) hHeld ?_ ?_
  rotate_left
  · rintro w' ⟨s0, s1⟩
    go_simp
    with_reducible rfl
  rotate_left
  · simp only [Act.put, List.setIfInBounds_toArray, List.set_cons_zero, List.set_cons_succ, i64_w, i32_w]
    rfl
  refine take_ (i := 5) (N := some 39) (v := ?_) (a' := ?_) #[true, true, true, true, true, true, false] rfl rfl (by kernel_rfl) (fun _ _ _ h => h) (Or.inl ⟨by rfl, ?_⟩) hHeld ?_ ?_
  rotate_left
  · rintro w' ⟨s0, s1⟩
    go_simp
    with_reducible rfl
  rotate_left
  · simp only [Act.put, List.setIfInBounds_toArray, List.set_cons_zero, List.set_cons_succ, i64_w, i32_w]
    rfl
  refine last_ (i := 6) (N := none) #[true, true, true, true, true, true, true] rfl rfl (by kernel_rfl) (by decide) (fun K hK => ?_)
  refine skip_ (w1 := ?_) (by rfl) rfl ?_ ?_
  rotate_left
  · go_simp
    rfl
  refine hK.out _ _ ?_
  clear hK K
  refine done_ (by kernel_rfl) ?_
  have hgw8 := (HG8.out.block g (blk_lt hw7.out) (fun e => by injection e with e; exact hgb e)).trans hw7.out
  have HW8 := Lib.hid (show w8.heap[g]? = some (.cells #[.bool true, .slice A6 n6 c6, .map (some b)] 113 (0, 0)) from hgw8)
  have h3 : w8.cell? ⟨g, 1, none⟩ = some (.slice A6 n6 c6) := (blk_cell HW8.out 1).trans rfl
  have hn6 : n6 = xs.length + 1 := by have := HN6.out; rw [List.length_append] at this; exact this
  have hn7 : xs.length < n6 := by omega
  have hn8 : n6 ≤ 1000000 := by omega
  have hn46 : (n6 : Int) - 1 = (xs.length : Int) := by omega
  have HR8 := Lib.hid (Kd.R_grown hr7.out HG8.out (fun k hk => by intro e; injection e with e; exact hk.2.2 e))
  have HUP := Lib.hid (up_any g A6 n6 c6 (.map (some b)) (xs ++ [x]) w8 base _ HW8.out HN6.out.symm HR8.out (fun k hk => hk.2.1) xs.length hn7 hn8)
  clear hgw8 hn6 hrun8 h0 h1
  go_wp2_with fail
  refine HUP.out.mono ?_
  rintro e w9 ⟨rfl, hR9, hg9⟩
  have HR9 := Lib.hid hR9
  have HG9 := Lib.hid hg9
  clear hR9 hg9
  go_wp2
  go_ret
  have hlen : (upF xs.length (xs ++ [x]) xs.length).length = n6 := by rw [upF_len]; exact HN6.out.symm
  have hown : ∀ r, (Value.slice A6 n6 c6).ownBlock = some r → (M r ∨ w.heap.size ≤ r) ∧ r ≠ g ∧ r ≠ b := fun r e => HR8.out.1 r e
  have hsz : base ≤ w7.heap.size := Nat.le_trans hbase (Nat.le_of_lt hs7.out)
  have hbb8 := below_grown hb7.out HG8.out (fun k e => by injection e with e; omega) hsz
  refine ⟨rfl, ⟨A6, c6, b, ?_, hbg, hbb, .inl hMg, .inl hMb, hgb, ?_, ?_, HM8.out.kept HG9.out (fun e => (hown _ e.symm).2.2 rfl)⟩, ?_, ?_⟩
  · rw [hlen]
    exact (HG9.out.block g (blk_lt HW8.out) (fun e => (hown _ e.symm).2.1 rfl)).trans HW8.out
  · exact Nat.lt_of_lt_of_le hbl (Nat.le_trans (Nat.le_of_lt hs7.out) (Nat.le_trans HG8.out.size HG9.out.size))
  · rw [hlen]
    exact Kd.R_mono (Kd.R_bound HR9.out) (fun k hk => ⟨hk.1.1.elim .inl (fun h => .inr ⟨h, hk.2.2.1⟩), hk.1.2⟩)
  · exact Kept.of_grown HG9.out (Kept.of_grown HG8.out hk7.out (fun k e => by injection e with e; subst e; exact .inl hMb)) (fun k e => (hown k e).1)
  · exact below_grown hbb8 HG9.out (fun k e => Kd.R_base HR8.out k e) (Nat.le_trans hsz HG8.out.size)
end Go.Proofs.YtafigkikblpbnaaGreat
namespace Go.Proofs.YtafigkikblpbnaaGreat
open Go.RowKit Go.Proofs.YtafigkikblpbnaaGreatW.PrintWords Go.Proofs.YtafigkikblpbnaaGreatW.PrintLast Go.Proofs.YtafigkikblpbnaaGreatW.PrintMore
set_option linter.unusedVariables false
set_option maxRecDepth 100000
set_option linter.unusedSimpArgs false

theorem new_blk (w : World) (o : Obj) : (w.alloc o).heap[w.heap.size]? = some o := by
  show (w.heap.push _)[w.heap.size]? = _
  simp
theorem downF_len : ∀ (f : Nat) (xs : List It) (i : Nat), (downF f xs i).length = xs.length
  | 0, _, _ => rfl
  | f + 1, xs, i => by
    unfold downF
    split
    · rfl
    · rw [downF_len f, swapL_len]
theorem set3_grown (w : World) (rb : Nat) (u v t : Value) : w.grownBy (((w.setCell ⟨rb, 0, none⟩ u).setCell ⟨rb, 1, none⟩ v).setCell ⟨rb, 2, none⟩ t) (some rb) :=
  ⟨rfl, rfl, rfl, by simp [World.setCell], fun k hk hne => by
    have h : k ≠ rb := fun e => hne (by rw [e])
    rw [Below.heap_setCell _ _ _ _ h, Below.heap_setCell _ _ _ _ h, Below.heap_setCell _ _ _ _ h]⟩
theorem set3_blk {w : World} {rb : Nat} {p q o : Value} (h : w.heap[rb]? = some (.cells #[p, q, o] 39 (0, 0))) (u v t : Value) :
    (((w.setCell ⟨rb, 0, none⟩ u).setCell ⟨rb, 1, none⟩ v).setCell ⟨rb, 2, none⟩ t).heap[rb]? = some (.cells #[u, v, t] 39 (0, 0)) := blk_set (blk_set (blk_set h 0 u) 1 v) 2 t
theorem HasMap.lt {w : World} {b cnt : Nat} {S : ByteArray → Bool} (h : HasMap w b cnt S) : b < w.heap.size := by
  obtain ⟨D, hD, _⟩ := h
  exact hD.lt
set_option maxHeartbeats 8000000 in
theorem pop_some (g base cnt : Nat) (M : Nat → Prop) (xs : List It) (S : ByteArray → Bool) (w : World) (h : IsQ w base g M xs S cnt) (h0 : 0 < xs.length) (hl : xs.length ≤ 1000) (x : It) (hx : xs.getD 0 PG.z40 = x) (hxs : x.f0.size ≤ maxLen) (hbase : base ≤ w.heap.size) :
    Calls Tryz.prog 18 #[.pointer (some ⟨g, 0, none⟩)] w fun e w' => e = .returned (.tuple #[.agg #[.string x.f0, .int .i64 x.f1, .int .i64 x.f2], .bool true]) ∧
      IsQ w' base g (fun k => M k ∨ w.heap.size ≤ k ∧ k < w'.heap.size) (downF (xs.length - 1 + 1) ((swapL xs 0 (xs.length - 1)).take (xs.length - 1)) 0) (fun t => !decide (t = x.f0) && S t) cnt ∧ Kept w w' M ∧ Below base w w' := by
  obtain ⟨A, c, b, hg, hbg, hbb, hMg, hMb, hgb, hbl, hR, hm⟩ := h
  obtain ⟨r, rfl⟩ := own_row hR rfl h0
  obtain ⟨cx, hcx, k1, k2, k3⟩ := cells28 hR 0 h0
  replace hR := Kd.R_mono (Kd.R_bound hR) (fun k hk => (⟨hk.1, hk.2.2.1⟩ : (M k ∧ k ≠ g ∧ k ≠ b) ∧ k < w.heap.size))
  obtain rfl : cx = x := hcx.trans hx
  generalize hn : xs.length = n at *
  have HN := Lib.hid hn
  have HG := Lib.hid hg
  have HM := Lib.hid hm
  have HR := Lib.hid hR
  have K1 := Lib.hid k1
  have K2 := Lib.hid k2
  have K3 := Lib.hid k3
  clear hg hm hR hcx hx k1 k2 k3 hn
  go_enter Tryz.func18, Tryz.ntmps18
  go_wp2_with fail
  have HX1 := Lib.hid (new_blk w (.cells #[.string ⟨#[]⟩, .int .i64 0, .int .i64 0] 39))
  have HB1 := Lib.hid (below_alloc (Below.refl w.heap.size w) (.cells #[.string ⟨#[]⟩, .int .i64 0, .int .i64 0] 39))
  have HS1 := Lib.hid (show (w.alloc (.cells #[.string ⟨#[]⟩, .int .i64 0, .int .i64 0] 39)).heap.size = w.heap.size + 1 from World.size_alloc _ _)
  generalize w.alloc (.cells #[.string ⟨#[]⟩, .int .i64 0, .int .i64 0] 39) = w1 at *
  have HG1 := Lib.hid ((HB1.out.block g (blk_lt HG.out)).trans HG.out)
  refine (len_any g (some ⟨r, 0, none⟩) n c _ w1 HG1.out).mono ?_
  rintro e w2 ⟨rfl, hw2⟩
  subst hw2
  have h1 : w1.cell? ⟨g, 1, none⟩ = some (.slice (some ⟨r, 0, none⟩) n c) := (blk_cell HG1.out 1).trans rfl
  have k1 := (HB1.out.cell (World.block_lt_of_cell? _ _ K1.out)).trans K1.out
  have k2 := (HB1.out.cell (World.block_lt_of_cell? _ _ K2.out)).trans K2.out
  have k3 := (HB1.out.cell (World.block_lt_of_cell? _ _ K3.out)).trans K3.out
  simp only [Nat.zero_mul, Nat.zero_add] at k1 k2 k3
  have hn0 : ¬ (n : Int) = 0 := by omega
  have hni : (0 : Int) < (n : Int) := by omega
  have HX2 := Lib.hid (new_blk w1 (boxI cx))
  have HB2 := Lib.hid (below_alloc (Below.refl w1.heap.size w1) (boxI cx))
  have HS2 := Lib.hid (show (w1.alloc (boxI cx)).heap.size = w1.heap.size + 1 from World.size_alloc _ _)
  have HG2 := Lib.hid ((HB2.out.block g (blk_lt HG1.out)).trans HG1.out)
  have h2 : (w1.alloc (boxI cx)).cell? ⟨g, 1, none⟩ = some (.slice (some ⟨r, 0, none⟩) n c) := (blk_cell HG2.out 1).trans rfl
  obtain ⟨m, hm⟩ : ∃ m : Nat, n = m + 1 := ⟨n - 1, by omega⟩
  have hnm : (n : Int) - 1 = (m : Int) := by omega
  have HNM := Lib.hid hm
  have hmn : m < n := by omega
  have hl6 : n ≤ 1000000 := by omega
  clear hm
  have HR2 := Lib.hid (Kd.R_below (Kd.R_below HR.out HB1.out) HB2.out)
  have HOK : ∀ k, ((M k ∧ k ≠ g ∧ k ≠ b) ∧ k < w.heap.size) → k ≠ g := fun k hk => hk.1.2.1
  go_wp2_with fail
  have HX1b := Lib.hid ((HB2.out.block _ (blk_lt HX1.out)).trans HX1.out)
  have HB12 := Lib.hid (below_lo HB1.out HB2.out)
  have HM2 := Lib.hid (HM.out.kept (grown_below (row := none) HB12.out) (by simp))
  generalize w1.alloc (boxI cx) = w2 at *
  generalize hxb : w1.heap.size = xb at *
  have HXB := Lib.hid hxb
  clear hxb h1 h2 k1 k2 k3
  refine (swap_any g (some ⟨r, 0, none⟩) n c (.map (some b)) xs w2 base _ HG2.out HN.out HR2.out HOK 0 m (by omega) hmn hl6).mono ?_
  rintro e w3 ⟨rfl, hR3, hg3⟩
  have HR3 := Lib.hid hR3
  have HG3 := Lib.hid hg3
  clear hR3 hg3
  have hrk : M r ∧ r ≠ g ∧ r ≠ b := (HR.out.1 r rfl).1
  have hrl : r < w.heap.size := Kd.R_lt HR.out r rfl
  have hw3 := Lib.hid ((HG3.out.block g (blk_lt HG2.out) (fun e => hrk.2.1 (Option.some.inj e).symm)).trans HG2.out)
  have h3 : w3.cell? ⟨g, 1, none⟩ = some (.slice (some ⟨r, 0, none⟩) n c) := (blk_cell hw3.out 1).trans rfl
  have hf3 := blk_frozen hw3.out 1
  obtain ⟨i0, hi0, _, _, _⟩ := info_parts info36
  have hnc : n ≤ c := (Kd.R_reads' HR.out).2.1
  have hcut := cut_to (P := Tryz.prog) 34 39 .i64 Tryz.underlying34 hi0 (some ⟨r, 0, none⟩) n c (m : Int) (by omega) (by omega) hnc
  simp only [Int.toNat_natCast] at hcut
  go_wp2_with fail
  have hrbg : w.heap.size ≠ g := fun e => by have := blk_lt HG.out; omega
  have hxbg : xb ≠ g := fun e => by have h1 := blk_lt HG.out; have h2 := HXB.out; have h3 := HS1.out; omega
  have hrbr : w.heap.size ≠ r := by omega
  have hxbr : xb ≠ r := by have h2 := HXB.out; have h3 := HS1.out; omega
  have hrbx : w.heap.size ≠ xb := by have h2 := HXB.out; have h3 := HS1.out; omega
  have hw4 := Lib.hid (blk_set hw3.out 1 (.slice (some ⟨r, 0, none⟩) m c))
  have HYL := Lib.hid (show ((swapL xs 0 m).take m).length = m by rw [List.length_take, swapL_len]; have := HN.out; omega)
  have HR4 := Lib.hid (Kd.R_far (p := ⟨g, 1, none⟩) (Kd.R_take HR3.out (m := m) (by rw [swapL_len]; have := HN.out; omega)) (fun k hk => hk.1.2.1) (.slice (some ⟨r, 0, none⟩) m c))
  have HRB4 := Lib.hid ((Below.heap_setCell w3 ⟨g, 1, none⟩ (.slice (some ⟨r, 0, none⟩) m c) _ hrbg).trans ((HG3.out.block _ (blk_lt HX1b.out) (fun e => hrbr (Option.some.inj e))).trans HX1b.out))
  have HXB4 := Lib.hid ((Below.heap_setCell w3 ⟨g, 1, none⟩ (.slice (some ⟨r, 0, none⟩) m c) _ hxbg).trans ((HG3.out.block _ (blk_lt HX2.out) (fun e => hxbr (Option.some.inj e))).trans HX2.out))
  have HM4 := Lib.hid (show HasMap (w3.setCell ⟨g, 1, none⟩ (.slice (some ⟨r, 0, none⟩) m c)) b cnt S from (HM2.out.kept HG3.out (fun e => hrk.2.2 (Option.some.inj e).symm)).setCell (fun e => hgb e.symm) _)
  have HK4 := Lib.hid (show Kept w (w3.setCell ⟨g, 1, none⟩ (.slice (some ⟨r, 0, none⟩) m c)) M from
    (Kept.of_grown HG3.out (Kept.of_below HB12.out M) (fun q e => by injection e with e; subst e; exact .inl hrk.1)).setCell (p := ⟨g, 1, none⟩) (.inl hMg) _)
  have HBB4 := Lib.hid (Below.setCell (below_grown (Below.low_ HB12.out hbase) HG3.out (fun k e => Kd.R_base HR2.out k e) (Nat.le_trans hbase HB12.out.size)) (p := ⟨g, 1, none⟩) hbg (.slice (some ⟨r, 0, none⟩) m c))
  have HS4 := Lib.hid (show w.heap.size ≤ (w3.setCell ⟨g, 1, none⟩ (.slice (some ⟨r, 0, none⟩) m c)).heap.size from Nat.le_of_lt (blk_lt HRB4.out))
  clear h3 hf3 hcut
  generalize w3.setCell ⟨g, 1, none⟩ (.slice (some ⟨r, 0, none⟩) m c) = w4 at *
  refine (down_any g (some ⟨r, 0, none⟩) m c (.map (some b)) _ w4 base _ hw4.out HYL.out HR4.out HOK (by omega)).mono ?_
  rintro e w5 ⟨rfl, hR5, hg5⟩
  have HR5 := Lib.hid hR5
  have HG5 := Lib.hid hg5
  clear hR5 hg5
  have HW5 := Lib.hid ((HG5.out.block g (blk_lt hw4.out) (fun e => hrk.2.1 (Option.some.inj e).symm)).trans hw4.out)
  have HRB5 := Lib.hid ((HG5.out.block _ (blk_lt HRB4.out) (fun e => hrbr (Option.some.inj e))).trans HRB4.out)
  have HXB5 := Lib.hid ((HG5.out.block _ (blk_lt HXB4.out) (fun e => hxbr (Option.some.inj e))).trans HXB4.out)
  have HM5 := Lib.hid (HM4.out.kept HG5.out (fun e => hrk.2.2 (Option.some.inj e).symm))
  go_wp2
  have h0 : w5.drew.cell? ⟨g, 2, none⟩ = some (.map (some b)) := (blk_cell HW5.out 2).trans rfl
  have h1 : w5.drew.cell? ⟨xb, 0, none⟩ = some (.string cx.f0) := (blk_cell HXB5.out 0).trans rfl
  obtain ⟨w6, hrun6, hm6, hg6⟩ := HasMap.del (w := w5.drew) HM5.out cx.f0 hxs 0
  have HM6 := Lib.hid hm6
  have HG6 := Lib.hid (grown_dr hg6)
  clear hm6 hg6
  refine start_ (n := 7) (S := fun w' => w'.cell? ⟨g, 2, none⟩ = some (.map (some b)) ∧ w'.cell? ⟨xb, 0, none⟩ = some (.string cx.f0)) (ds := [6]) #[false, false, false, false, false, false, false] (by kernel_rfl) rfl rfl ⟨h0, h1⟩ (fun hHeld => ?_)
  refine pure_ (i := 0) (N := some 36) (v := ?_) (a' := ?_) #[true, false, false, false, false, false, false] rfl rfl (by kernel_rfl) (fun _ _ _ h => h) (Or.inl ⟨by rfl, ?_⟩) ?_ ?_
  rotate_left
  · intro w'
    go_simp
    with_reducible rfl
  rotate_left
  · simp only [Act.put, List.setIfInBounds_toArray, List.set_cons_zero, List.set_cons_succ, i64_w, i32_w]
    rfl
  refine pure_ (i := 1) (N := some 37) (v := ?_) (a' := ?_) #[true, true, false, false, false, false, false] rfl rfl (by kernel_rfl) (fun _ _ _ h => h) (Or.inl ⟨by rfl, ?_⟩) ?_ ?_
  rotate_left
  · intro w'
    go_simp
    with_reducible rfl
  rotate_left
  · simp only [Act.put, List.setIfInBounds_toArray, List.set_cons_zero, List.set_cons_succ, i64_w, i32_w]
    rfl
  refine pure_ (i := 2) (N := some 38) (v := ?_) (a' := ?_) #[true, true, true, false, false, false, false] rfl rfl (by kernel_rfl) (fun _ _ _ h => h) (Or.inl ⟨by rfl, ?_⟩) ?_ ?_
  rotate_left
  · intro w'
    go_simp
    with_reducible rfl
  rotate_left
  · simp only [Act.put, List.setIfInBounds_toArray, List.set_cons_zero, List.set_cons_succ, i64_w, i32_w]
    rfl
  refine pure_ (i := 4) (N := some 40) (v := ?_) (a' := ?_) #[true, true, true, false, true, false, false] rfl rfl (by kernel_rfl) (fun _ _ _ h => h) (Or.inl ⟨by rfl, ?_⟩) ?_ ?_
  rotate_left
  · intro w'
    go_simp
    with_reducible rfl
  rotate_left
  · simp only [Act.put, List.setIfInBounds_toArray, List.set_cons_zero, List.set_cons_succ, i64_w, i32_w]
    rfl
  refine take_ (i := 3) (N := some 39) (v := ?_) (a' := ?_) #[true, true, true, true, true, false, false] rfl rfl (by kernel_rfl) (fun _ _ _ h => h) (Or.inl ⟨by rfl, ?_⟩) hHeld ?_ ?_
  rotate_left
  · rintro w' ⟨s0, s1⟩
    go_simp
    with_reducible rfl
  rotate_left
  · simp only [Act.put, List.setIfInBounds_toArray, List.set_cons_zero, List.set_cons_succ, i64_w, i32_w]
    rfl
  refine take_ (i := 5) (N := some 41) (v := ?_) (a' := ?_) #[true, true, true, true, true, true, false] rfl rfl (by kernel_rfl) (fun _ _ _ h => h) (Or.inl ⟨by rfl, ?_⟩) hHeld ?_ ?_
  rotate_left
  · rintro w' ⟨s0, s1⟩
    go_simp
    with_reducible rfl
  rotate_left
  · simp only [Act.put, List.setIfInBounds_toArray, List.set_cons_zero, List.set_cons_succ, i64_w, i32_w]
    rfl
  refine last_ (i := 6) (N := none) #[true, true, true, true, true, true, true] rfl rfl (by kernel_rfl) (by decide) (fun K hK => ?_)
  refine value_ (w1 := ?_) (v := ?_) (by rfl) rfl ?_ ?_
  rotate_left 2
  · go_simp
    constructor
    · rfl
    · rfl
  refine hK.out _ _ ?_
  clear hK K
  refine done_ (by kernel_rfl) ?_
  have hxbb : xb ≠ b := fun e => by have h1 := HM.out.lt; have h2 := HXB.out; have h3 := HS1.out; omega
  have hrbb : w.heap.size ≠ b := fun e => by have h1 := HM.out.lt; omega
  have HXB6 := Lib.hid ((HG6.out.block _ (blk_lt HXB5.out) (fun e => hxbb (Option.some.inj e))).trans HXB5.out)
  have HRB6 := Lib.hid ((HG6.out.block _ (blk_lt HRB5.out) (fun e => hrbb (Option.some.inj e))).trans HRB5.out)
  have HW6 := Lib.hid ((HG6.out.block g (blk_lt HW5.out) (fun e => hgb (Option.some.inj e))).trans HW5.out)
  have x0 : w6.cell? ⟨xb, 0, none⟩ = some (.string cx.f0) := (blk_cell HXB6.out 0).trans rfl
  have x1 : w6.cell? ⟨xb, 1, none⟩ = some (.int .i64 cx.f1) := (blk_cell HXB6.out 1).trans rfl
  have x2 : w6.cell? ⟨xb, 2, none⟩ = some (.int .i64 cx.f2) := (blk_cell HXB6.out 2).trans rfl
  have y0 : w6.cell? ⟨w.heap.size, 0, none⟩ = some (.string ⟨#[]⟩) := (blk_cell HRB6.out 0).trans rfl
  have y1 : w6.cell? ⟨w.heap.size, 1, none⟩ = some (.int .i64 0) := (blk_cell HRB6.out 1).trans rfl
  have y2 : w6.cell? ⟨w.heap.size, 2, none⟩ = some (.int .i64 0) := (blk_cell HRB6.out 2).trans rfl
  have z0 := blk_frozen HRB6.out 0
  have z1 := blk_frozen HRB6.out 1
  have z2 := blk_frozen HRB6.out 2
  clear hrun6 h0 h1
  go_wp2
  have hg7 := set3_grown w6 w.heap.size (.string cx.f0) (.int .i64 cx.f1) (.int .i64 cx.f2)
  have hb7 := set3_blk HRB6.out (.string cx.f0) (.int .i64 cx.f1) (.int .i64 cx.f2)
  have hlen : (downF (m + 1) ((swapL xs 0 m).take m) 0).length = m := by rw [downF_len]; exact HYL.out
  have hs6 : w.heap.size ≤ w6.heap.size := Nat.le_trans (Nat.le_of_lt (blk_lt HRB5.out)) HG6.out.size
  have hnm2 : n - 1 = m := by have := HNM.out; omega
  refine ⟨rfl, _, results_ct (p := 2) (u := 3) (by kernel_rfl) _ _ w.heap.size 39 _ (0, 0) _ rfl hb7 Tryz.underlying39 rfl (by kernel_rfl), rfl, ⟨some ⟨r, 0, none⟩, c, b, ?_, hbg, hbb, .inl hMg, .inl hMb, hgb, ?_, ?_, (HM6.out.kept hg7 (fun e => hrbb (Option.some.inj e).symm))⟩, ?_, ?_⟩
  · rw [hnm2, hlen]
    exact (hg7.block g (blk_lt HW6.out) (fun e => hrbg (Option.some.inj e).symm)).trans HW6.out
  · exact Nat.lt_of_lt_of_le hbl (Nat.le_trans hs6 hg7.size)
  · rw [hnm2, hlen]
    exact Kd.R_mono (Kd.R_grown (Kd.R_grown HR5.out HG6.out (fun k hk e => hk.1.2.2 (Option.some.inj e))) hg7 (fun k hk e => by have := Option.some.inj e; omega)) (fun k hk => ⟨.inl hk.1.1, hk.1.2⟩)
  · exact Kept.of_grown hg7 (Kept.of_grown HG6.out (Kept.of_grown HG5.out HK4.out (fun q e => by injection e with e; subst e; exact .inl hrk.1)) (fun q e => by injection e with e; subst e; exact .inl hMb)) (fun q e => by injection e with e; subst e; exact .inr (Nat.le_refl _))
  · have s4 := Nat.le_trans hbase HS4.out
    have b5 := below_grown HBB4.out HG5.out (fun k e => Kd.R_base HR4.out k e) s4
    have b6 := below_grown b5 HG6.out (fun k e => by injection e with e; omega) (Nat.le_trans s4 HG5.out.size)
    exact below_grown b6 hg7 (fun k e => by injection e with e; omega) (Nat.le_trans hbase hs6)
end Go.Proofs.YtafigkikblpbnaaGreat
namespace Go.Proofs.YtafigkikblpbnaaGreat
open Go.RowKit Go.Proofs.YtafigkikblpbnaaGreatW.PrintWords Go.Proofs.YtafigkikblpbnaaGreatW.PrintLast Go.Proofs.YtafigkikblpbnaaGreatW.PrintMore
set_option linter.unusedVariables false
set_option maxRecDepth 100000
set_option linter.unusedSimpArgs false

theorem len_q (g base cnt : Nat) (M : Nat → Prop) (xs : List It) (S : ByteArray → Bool) (w : World) (h : IsQ w base g M xs S cnt) :
    Calls Tryz.prog 20 #[.pointer (some ⟨g, 0, none⟩)] w fun e w' => e = .returned (.int .i64 xs.length) ∧ w = w' := by
  obtain ⟨A, c, b, hg, _⟩ := h
  exact len_any g A xs.length c _ w hg
theorem IsQ.below {w W : World} {base g cnt : Nat} {M : Nat → Prop} {xs : List It} {S : ByteArray → Bool} (h : IsQ w base g M xs S cnt) (hb : Below w.heap.size w W) : IsQ W base g M xs S cnt := by
  obtain ⟨A, c, b, hg, h1, h2, h3, h4, h5, h6, hR, hm⟩ := h
  exact ⟨A, c, b, (hb.block g (blk_lt hg)).trans hg, h1, h2, h3, h4, h5, Nat.lt_of_lt_of_le h6 hb.size, Kd.R_below hR hb, hm.kept (grown_below (row := none) hb) (by simp)⟩
theorem num_any (n : Int) (w : World) : Calls Tryz.prog 19 #[.int .i64 n] w fun e w' => e = .returned (.int .i64 n) ∧ w = w' := by
  go_enter Tryz.func19, Tryz.ntmps19
  go_wp2
  go_ret
  exact ⟨rfl, rfl⟩
theorem new_any (w : World) : Calls Tryz.prog 16 #[] w fun e w' => ∃ g, e = .returned (.pointer (some ⟨g, 0, none⟩)) ∧ IsQ w' w.heap.size g (fun k => w.heap.size ≤ k ∧ k < w'.heap.size) [] (fun _ => false) 0 ∧ Below w.heap.size w w' := by
  have hmm := @run_makeMap Tryz.prog
  go_enter Tryz.func16, Tryz.ntmps16
  go_wp2
  go_ret
  refine ⟨w.heap.size + 1, ?_, ⟨none, 0, w.heap.size, ?_, by omega, Nat.le_refl _, ⟨by omega, ?_⟩, ⟨Nat.le_refl _, ?_⟩, by omega, ?_, Kd.R_nil _ _ _ _ _, ?_⟩, ?_⟩
  · rfl
  · have e := new_blk (w.alloc (.map #[] 0)) (.cells #[.bool true, .slice none 0 0, .map (some w.heap.size)] 113)
    rw [World.size_alloc] at e
    exact e
  · rw [World.size_alloc, World.size_alloc]; omega
  · rw [World.size_alloc, World.size_alloc]; omega
  · rw [World.size_alloc, World.size_alloc]; omega
  · exact (HasMap.made w).kept (grown_below (row := none) (below_alloc (Below.refl _ _) _)) (by simp)
  · exact below_alloc (below_alloc (Below.refl _ _) _) _
abbrev itA : It := ⟨⟨#[97]⟩, 5, 0⟩
abbrev itB : It := ⟨⟨#[98]⟩, 3, 0⟩
theorem live_l1 : upF ([] : List It).length ([] ++ [itA]) ([] : List It).length = [itA] := rfl
theorem live_l2 : upF [itA].length ([itA] ++ [itB]) [itA].length = [itB, itA] := rfl
theorem live_l3 : downF ([itB, itA].length - 1 + 1) ((swapL [itB, itA] 0 ([itB, itA].length - 1)).take ([itB, itA].length - 1)) 0 = [itA] := rfl
set_option maxHeartbeats 4000000 in
theorem live_any (w : World) : Calls Tryz.prog 6 #[] w fun e w' => e = .returned (.bool true) ∧ Below w.heap.size w w' := by
  go_enter Tryz.func6, Tryz.ntmps6
  go_wp2_with fail
  refine (new_any w).mono ?_
  rintro e w1 ⟨g, rfl, hq1, hb1⟩
  have HB1 := Lib.hid hb1
  have HQ1 := Lib.hid hq1
  clear hb1 hq1
  go_wp2_with fail
  refine (put_new g w.heap.size 0 _ [] _ w1 HQ1.out itA (by decide) rfl (by decide) (by decide) HB1.out.size).mono ?_
  rintro e w2 ⟨rfl, hq2, _, hb2⟩
  rw [live_l1] at hq2
  have HB2 := Lib.hid (HB1.out.trans hb2)
  have HQ2 := Lib.hid hq2
  clear hb2 hq2
  go_wp2_with fail
  refine (put_new g w.heap.size 1 _ [itA] _ w2 HQ2.out itB (by decide) (by decide) (by decide) (by decide) HB2.out.size).mono ?_
  rintro e w3 ⟨rfl, hq3, _, hb3⟩
  rw [live_l2] at hq3
  have HB3 := Lib.hid (HB2.out.trans hb3)
  have HQ3 := Lib.hid hq3
  clear hb3 hq3
  go_wp2_with fail
  refine (pop_some g w.heap.size 2 _ [itB, itA] _ w3 HQ3.out (by decide) (by decide) itB rfl (by decide) HB3.out.size).mono ?_
  rintro e w4 ⟨rfl, hq4, _, hb4⟩
  rw [live_l3] at hq4
  have HB4 := Lib.hid (HB3.out.trans hb4)
  have HQ4 := Lib.hid hq4
  clear hb4 hq4
  have HB5 := Lib.hid (below_lo HB4.out (below_alloc (Below.refl w4.heap.size w4) (boxI itB)))
  have HQ5 := Lib.hid (HQ4.out.below (below_alloc (Below.refl w4.heap.size w4) (boxI itB)))
  have hc : (w4.alloc (boxI itB)).cell? ⟨w4.heap.size, 0, none⟩ = some (.string ⟨#[98]⟩) := (blk_cell (new_blk w4 (boxI itB)) 0).trans rfl
  go_wp2_with fail
  generalize w4.alloc (boxI itB) = w5 at *
  refine (num_any 0 w5).mono ?_
  rintro e w6 ⟨rfl, hw⟩
  subst hw
  go_wp2_with fail
  refine (num_any 0 w5).mono ?_
  rintro e w6 ⟨rfl, hw⟩
  subst hw
  go_wp2_with fail
  refine (len_q g w.heap.size 2 _ [itA] _ w5 HQ5.out).mono ?_
  rintro e w6 ⟨rfl, hw⟩
  subst hw
  go_wp2
  go_ret
  exact ⟨rfl, HB5.out⟩
end Go.Proofs.YtafigkikblpbnaaGreat
