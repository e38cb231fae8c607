/- Contracts of the package queue's functions: swap; no condition beyond each theorem its own. -/
import Derived.Test.YtdpcfamgmicboaeQueueA
import Derived.Test.YtdpcfamgmicboaePQx2
namespace Go.Proofs.Ytdpcfamgmicboae
open Go.RowKit Go.Proofs.YtdpcfamgmicboaeW.PrintWords Go.Proofs.YtdpcfamgmicboaeW.PrintLast Go.Proofs.YtdpcfamgmicboaeW.PrintMore
set_option linter.unusedVariables false
set_option linter.unusedSimpArgs false

abbrev It := PQ.S28
abbrev seg28 (y : It) : List Value := [.string y.f0, .int .i64 y.f1, .int .i64 y.f2]
theorem R_put28 {W : World} {base r n c : Nat} {ok : Nat → Prop} {xs : List It} (hR : Kd.R PQ.k28 36 W base ok (.slice (some ⟨r, 0, none⟩) n c) xs) (i : Nat) (hi : i < n) (y : It) :
    Kd.R PQ.k28 36 (W.setCells r (i * 3) (seg28 y)) base ok (.slice (some ⟨r, 0, none⟩) n c) (xs.set i y) ∧ W.grownBy (W.setCells r (i * 3) (seg28 y)) (some r) := by
  obtain ⟨cs, hcl, hM, hcc, _⟩ := Kd.R_elem hR PQ.z28 (i : Int) (by omega) (by omega)
  have h := Kd.R_seg hR (i : Int) (by omega) (by omega) (seg := seg28 y) (j := 0) (x' := y) (okp := fun _ => False) hcl hcc (show 0 + (seg28 y).length ≤ PQ.k28.sz from Nat.le_refl 3) (by
    have e : cs.take 0 ++ seg28 y ++ cs.drop (0 + (seg28 y).length) = seg28 y := by
      rw [List.take_zero, List.nil_append, List.drop_of_length_le (by rw [hcl]; exact Nat.le_refl _), List.append_nil]
    rw [e]
    exact PQ.k28_mkM _ _ (fun _ => False) y) (fun _ hk => hk.elim)
  exact h
theorem row28 {W : World} {base r n c : Nat} {ok : Nat → Prop} {xs : List It} (hR : Kd.R PQ.k28 36 W base ok (.slice (some ⟨r, 0, none⟩) n c) xs) (h0 : 0 < xs.length) :
    ∃ cur, W.heap[r]? = some (.cells cur 36 (0, 0)) ∧ cur.size = c * 3 := by
  obtain ⟨inner, ho⟩ := Kd.R_own hR
  rcases ho.2 with ⟨hv, _⟩ | ⟨r', cap, cur, hv, hb, hh, hl2, hm2, hcs, htk⟩
  · cases hv
  · injection hv with hA hn2 hc2
    injection hA with hA
    injection hA with hA
    subst hA
    subst hc2
    exact ⟨cur, hh, hcs⟩
theorem cells28 {W : World} {base r n c : Nat} {ok : Nat → Prop} {xs : List It} (hR : Kd.R PQ.k28 36 W base ok (.slice (some ⟨r, 0, none⟩) n c) xs) (i : Nat) (hi : i < n) :
    ∃ y : It, y = xs.getD i PQ.z28 ∧ W.cell? ⟨r, i * 3, none⟩ = some (.string y.f0) ∧ W.cell? ⟨r, i * 3 + 1, none⟩ = some (.int .i64 y.f1) ∧ W.cell? ⟨r, i * 3 + 2, none⟩ = some (.int .i64 y.f2) := by
  obtain ⟨cs, hcl, hM, hcc, _⟩ := Kd.R_elem hR PQ.z28 (i : Int) (by omega) (by omega)
  have e := PQ.k28_openM hM
  subst e
  rw [Int.toNat_natCast] at hcc
  exact ⟨xs.getD i PQ.z28, rfl, hcc 0 _ rfl, hcc 1 _ rfl, hcc 2 _ rfl⟩
theorem st36 {ρ : Operand → Value} {o : Oper} {p x : Operand} {r a : Nat} {cur : Array Value} {w : World} (y : It) (ho : o.op = .store 36 p x) (hp : ρ p = .pointer (some ⟨r, a, none⟩)) (hx : ρ x = .agg #[.string y.f0, .int .i64 y.f1, .int .i64 y.f2])
    (hh : w.heap[r]? = some (.cells cur 36 (0, 0))) (hfit : a + 3 ≤ cur.size) : Sem.run Try.prog (execOp ρ o) w = .ok .skip (w.setCells r a (seg28 y)) := by
  have h := run_store_run (P := Try.prog) 36 (.agg #[.string y.f0, .int .i64 y.f1, .int .i64 y.f2]) (seg28 y) hh rfl (by kernel_rfl) hfit (fun q hq => by
    rcases List.mem_cons.1 hq with rfl | hq
    · rfl
    · rcases List.mem_cons.1 hq with rfl | hq
      · rfl
      · rcases List.mem_cons.1 hq with rfl | hq
        · rfl
        · cases hq)
  unfold execOp
  rw [ho]
  simp only [hp, hx]
  rw [Sem.run_bind, h]
  rfl

theorem results_none {fn : Func} (h : fn.results = #[]) (tmps : Array Value) (P : Program) (w : World) : (results fn tmps).run P w = .ok (.tuple #[]) w := by
  simp [results, h]
def swapL (xs : List It) (i k : Nat) : List It := (xs.set i (xs.getD k PQ.z28)).set k (xs.getD i PQ.z28)
theorem swap_any (g : Nat) (A : Option Addr) (n c : Nat) (mv : Value) (xs : List It) (w : World) (base : Nat) (ok : Nat → Prop) (hg : w.heap[g]? = some (.cells #[.bool true, .slice A n c, mv] 46 (0, 0)))
    (hn : xs.length = n) (hR : Kd.R PQ.k28 36 w base ok (.slice A n c) xs) (hok : ∀ k, ok k → k ≠ g) (i k : Nat) (hi : i < n) (hk : k < n) (hl : n ≤ 1000000) :
    Calls Try.prog 15 #[.pointer (some ⟨g, 0, none⟩), .int .i64 i, .int .i64 k] w fun e w' => e = .returned (.tuple #[]) ∧ Kd.R PQ.k28 36 w' base ok (.slice A n c) (swapL xs i k) ∧ w.grownBy w' (Value.slice A n c).ownBlock := by
  go_enter Try.func15, Try.ntmps15
  go_wp2
  obtain ⟨inner, ho⟩ := Kd.R_own hR
  rcases ho.2 with ⟨_, e0⟩ | ⟨r, cap, cur, hv, hb, hh, hl2, hm2, hcs, htk⟩
  · omega
  injection hv with hA hn2 hc2
  subst hA
  subst hc2
  obtain ⟨cx, hx, h1, h2, h3⟩ := cells28 hR k hk
  obtain ⟨cy, hy, h4, h5, h6⟩ := cells28 hR i hi
  have h0 : w.drew.cell? ⟨g, 1, none⟩ = some (.slice (some ⟨r, 0, none⟩) n c) := (blk_cell hg 1).trans rfl
  have hR1 := Lib.hid (R_put28 (Kd.R_drew hR) i hi cx)
  have hR2 := Lib.hid (R_put28 hR1.out.1 k hk cy)
  have hcsz : cur.size = c * 3 := hcs
  have hcn : n ≤ c := by rw [hn] at hl2; exact hl2
  obtain ⟨cur1, hh1, hs1⟩ := row28 hR1.out.1 (by rw [List.length_set]; omega)
  have HX := Lib.hid hx
  have HY := Lib.hid hy
  clear hR htk hx hy ho hm2 hl2 hcs
  generalize hpk : k * 3 = pk at *
  generalize hpi : i * 3 = pi at *
  have hf1 : pi + 3 ≤ cur.size := by omega
  have hf2 : pk + 3 ≤ cur1.size := by omega
  have hki : (k : Int) < (n : Int) := by omega
  have hii : (i : Int) < (n : Int) := by omega
  have HHD := Lib.hid (show w.drew.heap[r]? = some (.cells cur 36 (0, 0)) from hh)
  have HH1 := Lib.hid hh1
  have HN := Lib.hid hn
  have HG := Lib.hid hg
  clear hh hh1 hn hg hs1 hcsz hcn hn2
  refine start_ (n := 28) (S := fun w' => w'.cell? ⟨g, 1, none⟩ = some (.slice (some ⟨r, 0, none⟩) n c) ∧ w'.cell? ⟨r, pk, none⟩ = some (.string cx.f0) ∧ w'.cell? ⟨r, pk + 1, none⟩ = some (.int .i64 cx.f1) ∧ w'.cell? ⟨r, pk + 2, none⟩ = some (.int .i64 cx.f2) ∧ w'.cell? ⟨r, pi, none⟩ = some (.string cy.f0) ∧ w'.cell? ⟨r, pi + 1, none⟩ = some (.int .i64 cy.f1) ∧ w'.cell? ⟨r, pi + 2, none⟩ = some (.int .i64 cy.f2)) (ds := [25, 27]) #[false, false, false, false, false, false, false, false, false, false, false, false, false, false, false, false, false, false, false, false, false, false, false, false, false, false, false, false] (by kernel_rfl) rfl rfl ⟨h0, h1, h2, h3, h4, h5, h6⟩ (fun hHeld => ?_)
  refine pure_ (i := 0) (N := some 6) (v := ?_) (a' := ?_) #[true, false, false, false, false, false, false, false, false, false, false, false, false, false, false, false, false, false, false, false, false, false, false, false, false, false, false, false] rfl rfl (by kernel_rfl) (fun _ _ _ h => h) (Or.inl ⟨by rfl, ?_⟩) ?_ ?_
  rotate_left
  · intro w'
    go_simp
    with_reducible rfl
  rotate_left
  · simp only [Act.put, List.setIfInBounds_toArray, List.set_cons_zero, List.set_cons_succ, i64_w, i32_w]
    rfl
  refine pure_ (i := 1) (N := some 7) (v := ?_) (a' := ?_) #[true, true, false, false, false, false, false, false, false, false, false, false, false, false, false, false, false, false, false, false, false, false, false, false, false, false, false, false] rfl rfl (by kernel_rfl) (fun _ _ _ h => h) (Or.inl ⟨by rfl, ?_⟩) ?_ ?_
  rotate_left
  · intro w'
    go_simp
    with_reducible rfl
  rotate_left
  · simp only [Act.put, List.setIfInBounds_toArray, List.set_cons_zero, List.set_cons_succ, i64_w, i32_w]
    rfl
  refine pure_ (i := 2) (N := some 8) (v := ?_) (a' := ?_) #[true, true, true, false, false, false, false, false, false, false, false, false, false, false, false, false, false, false, false, false, false, false, false, false, false, false, false, false] rfl rfl (by kernel_rfl) (fun _ _ _ h => h) (Or.inl ⟨by rfl, ?_⟩) ?_ ?_
  rotate_left
  · intro w'
    go_simp
    with_reducible rfl
  rotate_left
  · simp only [Act.put, List.setIfInBounds_toArray, List.set_cons_zero, List.set_cons_succ, i64_w, i32_w]
    rfl
  refine pure_ (i := 4) (N := some 10) (v := ?_) (a' := ?_) #[true, true, true, false, true, false, false, false, false, false, false, false, false, false, false, false, false, false, false, false, false, false, false, false, false, false, false, false] rfl rfl (by kernel_rfl) (fun _ _ _ h => h) (Or.inl ⟨by rfl, ?_⟩) ?_ ?_
  rotate_left
  · intro w'
    go_simp
    with_reducible rfl
  rotate_left
  · simp only [Act.put, List.setIfInBounds_toArray, List.set_cons_zero, List.set_cons_succ, i64_w, i32_w]
    rfl
  refine pure_ (i := 5) (N := some 11) (v := ?_) (a' := ?_) #[true, true, true, false, true, true, false, false, false, false, false, false, false, false, false, false, false, false, false, false, false, false, false, false, false, false, false, false] rfl rfl (by kernel_rfl) (fun _ _ _ h => h) (Or.inl ⟨by rfl, ?_⟩) ?_ ?_
  rotate_left
  · intro w'
    go_simp
    with_reducible rfl
  rotate_left
  · simp only [Act.put, List.setIfInBounds_toArray, List.set_cons_zero, List.set_cons_succ, i64_w, i32_w]
    rfl
  refine pure_ (i := 6) (N := some 12) (v := ?_) (a' := ?_) #[true, true, true, false, true, true, true, false, false, false, false, false, false, false, false, false, false, false, false, false, false, false, false, false, false, false, false, false] rfl rfl (by kernel_rfl) (fun _ _ _ h => h) (Or.inl ⟨by rfl, ?_⟩) ?_ ?_
  rotate_left
  · intro w'
    go_simp
    with_reducible rfl
  rotate_left
  · simp only [Act.put, List.setIfInBounds_toArray, List.set_cons_zero, List.set_cons_succ, i64_w, i32_w]
    rfl
  refine pure_ (i := 7) (N := some 13) (v := ?_) (a' := ?_) #[true, true, true, false, true, true, true, true, false, false, false, false, false, false, false, false, false, false, false, false, false, false, false, false, false, false, false, false] rfl rfl (by kernel_rfl) (fun _ _ _ h => h) (Or.inl ⟨by rfl, ?_⟩) ?_ ?_
  rotate_left
  · intro w'
    go_simp
    with_reducible rfl
  rotate_left
  · simp only [Act.put, List.setIfInBounds_toArray, List.set_cons_zero, List.set_cons_succ, i64_w, i32_w]
    rfl
  refine pure_ (i := 9) (N := some 15) (v := ?_) (a' := ?_) #[true, true, true, false, true, true, true, true, false, true, false, false, false, false, false, false, false, false, false, false, false, false, false, false, false, false, false, false] rfl rfl (by kernel_rfl) (fun _ _ _ h => h) (Or.inl ⟨by rfl, ?_⟩) ?_ ?_
  rotate_left
  · intro w'
    go_simp
    with_reducible rfl
  rotate_left
  · simp only [Act.put, List.setIfInBounds_toArray, List.set_cons_zero, List.set_cons_succ, i64_w, i32_w]
    rfl
  refine pure_ (i := 10) (N := some 16) (v := ?_) (a' := ?_) #[true, true, true, false, true, true, true, true, false, true, true, false, false, false, false, false, false, false, false, false, false, false, false, false, false, false, false, false] rfl rfl (by kernel_rfl) (fun _ _ _ h => h) (Or.inl ⟨by rfl, ?_⟩) ?_ ?_
  rotate_left
  · intro w'
    go_simp
    with_reducible rfl
  rotate_left
  · simp only [Act.put, List.setIfInBounds_toArray, List.set_cons_zero, List.set_cons_succ, i64_w, i32_w]
    rfl
  refine pure_ (i := 11) (N := some 17) (v := ?_) (a' := ?_) #[true, true, true, false, true, true, true, true, false, true, true, true, false, false, false, false, false, false, false, false, false, false, false, false, false, false, false, false] rfl rfl (by kernel_rfl) (fun _ _ _ h => h) (Or.inl ⟨by rfl, ?_⟩) ?_ ?_
  rotate_left
  · intro w'
    go_simp
    with_reducible rfl
  rotate_left
  · simp only [Act.put, List.setIfInBounds_toArray, List.set_cons_zero, List.set_cons_succ, i64_w, i32_w]
    rfl
  refine pure_ (i := 12) (N := some 18) (v := ?_) (a' := ?_) #[true, true, true, false, true, true, true, true, false, true, true, true, true, false, false, false, false, false, false, false, false, false, false, false, false, false, false, false] rfl rfl (by kernel_rfl) (fun _ _ _ h => h) (Or.inl ⟨by rfl, ?_⟩) ?_ ?_
  rotate_left
  · intro w'
    go_simp
    with_reducible rfl
  rotate_left
  · simp only [Act.put, List.setIfInBounds_toArray, List.set_cons_zero, List.set_cons_succ, i64_w, i32_w]
    rfl
  refine pure_ (i := 14) (N := some 20) (v := ?_) (a' := ?_) #[true, true, true, false, true, true, true, true, false, true, true, true, true, false, true, false, false, false, false, false, false, false, false, false, false, false, false, false] rfl rfl (by kernel_rfl) (fun _ _ _ h => h) (Or.inl ⟨by rfl, ?_⟩) ?_ ?_
  rotate_left
  · intro w'
    go_simp
    with_reducible rfl
  rotate_left
  · simp only [Act.put, List.setIfInBounds_toArray, List.set_cons_zero, List.set_cons_succ, i64_w, i32_w]
    rfl
  refine pure_ (i := 17) (N := some 23) (v := ?_) (a' := ?_) #[true, true, true, false, true, true, true, true, false, true, true, true, true, false, true, false, false, true, false, false, false, false, false, false, false, false, false, false] rfl rfl (by kernel_rfl) (fun _ _ _ h => h) (Or.inl ⟨by rfl, ?_⟩) ?_ ?_
  rotate_left
  · intro w'
    go_simp
    with_reducible rfl
  rotate_left
  · simp only [Act.put, List.setIfInBounds_toArray, List.set_cons_zero, List.set_cons_succ, i64_w, i32_w]
    rfl
  refine pure_ (i := 18) (N := some 24) (v := ?_) (a' := ?_) #[true, true, true, false, true, true, true, true, false, true, true, true, true, false, true, false, false, true, true, false, false, false, false, false, false, false, false, false] rfl rfl (by kernel_rfl) (fun _ _ _ h => h) (Or.inl ⟨by rfl, ?_⟩) ?_ ?_
  rotate_left
  · intro w'
    go_simp
    with_reducible rfl
  rotate_left
  · simp only [Act.put, List.setIfInBounds_toArray, List.set_cons_zero, List.set_cons_succ, i64_w, i32_w]
    rfl
  refine pure_ (i := 19) (N := some 25) (v := ?_) (a' := ?_) #[true, true, true, false, true, true, true, true, false, true, true, true, true, false, true, false, false, true, true, true, false, false, false, false, false, false, false, false] rfl rfl (by kernel_rfl) (fun _ _ _ h => h) (Or.inl ⟨by rfl, ?_⟩) ?_ ?_
  rotate_left
  · intro w'
    go_simp
    with_reducible rfl
  rotate_left
  · simp only [Act.put, List.setIfInBounds_toArray, List.set_cons_zero, List.set_cons_succ, i64_w, i32_w]
    rfl
  refine pure_ (i := 21) (N := some 27) (v := ?_) (a' := ?_) #[true, true, true, false, true, true, true, true, false, true, true, true, true, false, true, false, false, true, true, true, false, true, false, false, false, false, false, false] rfl rfl (by kernel_rfl) (fun _ _ _ h => h) (Or.inl ⟨by rfl, ?_⟩) ?_ ?_
  rotate_left
  · intro w'
    go_simp
    with_reducible rfl
  rotate_left
  · simp only [Act.put, List.setIfInBounds_toArray, List.set_cons_zero, List.set_cons_succ, i64_w, i32_w]
    rfl
  refine take_ (i := 3) (N := some 9) (v := ?_) (a' := ?_) #[true, true, true, true, true, true, true, true, false, true, true, true, true, false, true, false, false, true, true, true, false, true, false, false, false, false, false, false] rfl rfl (by kernel_rfl) (fun _ _ _ h => h) (Or.inl ⟨by rfl, ?_⟩) hHeld ?_ ?_
  rotate_left
  · rintro w' ⟨s0, s1, s2, s3, s4, s5, s6⟩
    go_simp
    with_reducible rfl
  rotate_left
  · simp only [Act.put, List.setIfInBounds_toArray, List.set_cons_zero, List.set_cons_succ, i64_w, i32_w]
    rfl
  refine take_ (i := 8) (N := some 14) (v := ?_) (a' := ?_) #[true, true, true, true, true, true, true, true, true, true, true, true, true, false, true, false, false, true, true, true, false, true, false, false, false, false, false, false] rfl rfl (by kernel_rfl) (fun _ _ _ h => h) (Or.inl ⟨by rfl, ?_⟩) hHeld ?_ ?_
  rotate_left
  · rintro w' ⟨s0, s1, s2, s3, s4, s5, s6⟩
    go_simp
    with_reducible rfl
  rotate_left
  · simp only [Act.put, List.setIfInBounds_toArray, List.set_cons_zero, List.set_cons_succ, i64_w, i32_w]
    rfl
  refine take_ (i := 13) (N := some 19) (v := ?_) (a' := ?_) #[true, true, true, true, true, true, true, true, true, true, true, true, true, true, true, false, false, true, true, true, false, true, false, false, false, false, false, false] rfl rfl (by kernel_rfl) (fun _ _ _ h => h) (Or.inl ⟨by rfl, ?_⟩) hHeld ?_ ?_
  rotate_left
  · rintro w' ⟨s0, s1, s2, s3, s4, s5, s6⟩
    go_simp
    with_reducible rfl
  rotate_left
  · simp only [Act.put, List.setIfInBounds_toArray, List.set_cons_zero, List.set_cons_succ, i64_w, i32_w]
    rfl
  refine pure_ (i := 15) (N := some 21) (v := ?_) (a' := ?_) #[true, true, true, true, true, true, true, true, true, true, true, true, true, true, true, true, false, true, true, true, false, true, false, false, false, false, false, false] rfl rfl (by kernel_rfl) (fun _ _ _ h => h) (Or.inl ⟨by rfl, ?_⟩) ?_ ?_
  rotate_left
  · intro w'
    go_simp
    with_reducible rfl
  rotate_left
  · simp only [Act.put, List.setIfInBounds_toArray, List.set_cons_zero, List.set_cons_succ, i64_w, i32_w]
    rfl
  refine take_ (i := 16) (N := some 22) (v := ?_) (a' := ?_) #[true, true, true, true, true, true, true, true, true, true, true, true, true, true, true, true, true, true, true, true, false, true, false, false, false, false, false, false] rfl rfl (by kernel_rfl) (fun _ _ _ h => h) (Or.inl ⟨by rfl, ?_⟩) hHeld ?_ ?_
  rotate_left
  · rintro w' ⟨s0, s1, s2, s3, s4, s5, s6⟩
    go_simp
    with_reducible rfl
  rotate_left
  · simp only [Act.put, List.setIfInBounds_toArray, List.set_cons_zero, List.set_cons_succ, i64_w, i32_w]
    rfl
  refine take_ (i := 20) (N := some 26) (v := ?_) (a' := ?_) #[true, true, true, true, true, true, true, true, true, true, true, true, true, true, true, true, true, true, true, true, true, true, false, false, false, false, false, false] rfl rfl (by kernel_rfl) (fun _ _ _ h => h) (Or.inl ⟨by rfl, ?_⟩) hHeld ?_ ?_
  rotate_left
  · rintro w' ⟨s0, s1, s2, s3, s4, s5, s6⟩
    go_simp
    with_reducible rfl
  rotate_left
  · simp only [Act.put, List.setIfInBounds_toArray, List.set_cons_zero, List.set_cons_succ, i64_w, i32_w]
    rfl
  refine pure_ (i := 22) (N := some 28) (v := ?_) (a' := ?_) #[true, true, true, true, true, true, true, true, true, true, true, true, true, true, true, true, true, true, true, true, true, true, true, false, false, false, false, false] rfl rfl (by kernel_rfl) (fun _ _ _ h => h) (Or.inl ⟨by rfl, ?_⟩) ?_ ?_
  rotate_left
  · intro w'
    go_simp
    with_reducible rfl
  rotate_left
  · simp only [Act.put, List.setIfInBounds_toArray, List.set_cons_zero, List.set_cons_succ, i64_w, i32_w]
    rfl
  refine take_ (i := 23) (N := some 29) (v := ?_) (a' := ?_) #[true, true, true, true, true, true, true, true, true, true, true, true, true, true, true, true, true, true, true, true, true, true, true, true, false, false, false, false] rfl rfl (by kernel_rfl) (fun _ _ _ h => h) (Or.inl ⟨by rfl, ?_⟩) hHeld ?_ ?_
  rotate_left
  · rintro w' ⟨s0, s1, s2, s3, s4, s5, s6⟩
    go_simp
    with_reducible rfl
  rotate_left
  · simp only [Act.put, List.setIfInBounds_toArray, List.set_cons_zero, List.set_cons_succ, i64_w, i32_w]
    rfl
  refine pure_ (i := 24) (N := some 30) (v := ?_) (a' := ?_) #[true, true, true, true, true, true, true, true, true, true, true, true, true, true, true, true, true, true, true, true, true, true, true, true, true, false, false, false] rfl rfl (by kernel_rfl) (fun _ _ _ h => h) (Or.inl ⟨by rfl, ?_⟩) ?_ ?_
  rotate_left
  · intro w'
    go_simp
    with_reducible rfl
  rotate_left
  · simp only [Act.put, List.setIfInBounds_toArray, List.set_cons_zero, List.set_cons_succ, i64_w, i32_w]
    rfl
  refine last_ (i := 25) (N := none) #[true, true, true, true, true, true, true, true, true, true, true, true, true, true, true, true, true, true, true, true, true, true, true, true, true, true, false, false] rfl rfl (by kernel_rfl) (by decide) (fun K hK => ?_)
  refine skip_ (w1 := ?_) (by rfl) rfl ?_ ?_
  rotate_left
  · refine st36 (p := .tmp 30) (x := .tmp 22) cx ?_ ?_ ?_ HHD.out hf1
    · rfl
    · rfl
    · rfl
  refine hK.out _ _ ?_
  clear hK K
  refine pure_ (i := 26) (N := some 31) (v := ?_) (a' := ?_) #[true, true, true, true, true, true, true, true, true, true, true, true, true, true, true, true, true, true, true, true, true, true, true, true, true, true, true, false] rfl rfl (by kernel_rfl) (fun _ _ _ h => h) (Or.inl ⟨by rfl, ?_⟩) ?_ ?_
  rotate_left
  · intro w'
    go_simp
    with_reducible rfl
  rotate_left
  · simp only [Act.put, List.setIfInBounds_toArray, List.set_cons_zero, List.set_cons_succ, i64_w, i32_w]
    rfl
  refine last_ (i := 27) (N := none) #[true, true, true, true, true, true, true, true, true, true, true, true, true, true, true, true, true, true, true, true, true, true, true, true, true, true, true, true] rfl rfl (by kernel_rfl) (by decide) (fun K hK => ?_)
  refine skip_ (w1 := ?_) (by rfl) rfl ?_ ?_
  rotate_left
  · refine st36 (p := .tmp 31) (x := .tmp 29) cy ?_ ?_ ?_ HH1.out hf2
    · rfl
    · rfl
    · rfl
  refine hK.out _ _ ?_
  clear hK K
  refine done_ (by kernel_rfl) ?_
  have hfin : Kd.R PQ.k28 36 ((w.drew.setCells r pi (seg28 cx)).setCells r pk (seg28 cy)) base ok (.slice (some ⟨r, 0, none⟩) n c) (swapL xs i k) := by
    unfold swapL
    rw [← HX.out, ← HY.out]
    exact hR2.out.1
  have hgr : w.grownBy ((w.drew.setCells r pi (seg28 cx)).setCells r pk (seg28 cy)) (some r) := by
    have g1 := hR1.out.2
    have g2 := hR2.out.2
    exact ⟨g2.os.trans g1.os, g2.tape.trans g1.tape, g2.output.trans g1.output, Nat.le_trans g1.size g2.size, fun q hq hne => (g2.block q (Nat.lt_of_lt_of_le hq g1.size) hne).trans (g1.block q hq hne)⟩
  exact ⟨rfl, _, results_none (by kernel_rfl) _ _ _, rfl, hfin, hgr⟩
end Go.Proofs.Ytdpcfamgmicboae
