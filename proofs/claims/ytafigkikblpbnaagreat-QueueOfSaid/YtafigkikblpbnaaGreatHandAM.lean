/- The document's copy of a state; no condition beyond each theorem its own. -/
import Derived.Lib.Hide
import Derived.Test.YtafigkikblpbnaaGreatJ04
namespace Go.Proofs.YtafigkikblpbnaaGreat.PG
open Go.RowKit Go.Proofs.YtafigkikblpbnaaGreatW.PrintWords Go.Proofs.YtafigkikblpbnaaGreatW.PrintLast Go.Proofs.YtafigkikblpbnaaGreatW.PrintMore
set_option linter.unusedVariables false
set_option linter.unusedSimpArgs false
set_option maxRecDepth 100000

theorem whole {w : World} {g : Nat} {e : TypeId} {cur : Array Value} {seg : List Value} (h : w.heap[g]? = some (.cells cur e (0, 0))) (hl : seg.length = cur.size) : (w.setCells g 0 seg).heap[g]? = some (.cells seg.toArray e (0, 0)) := by
  obtain ⟨cur', h1, h2, h3⟩ := setCells_row seg 0 w cur h (by omega)
  rw [h1]
  have : cur' = seg.toArray := by
    apply Array.toList_inj.1
    rw [h3, List.take_zero, List.nil_append, List.drop_of_length_le (by rw [Array.length_toList]; omega), List.append_nil]
  rw [this]
theorem run_box {P : Program} {ρ : Operand → Value} {o : Oper} {t e : TypeId} {p x : Operand} {g : Nat} {cur : Array Value} {w : World} (seg : List Value) (ho : o.op = .store t p x) (hp : ρ p = .pointer (some ⟨g, 0, none⟩)) (hx : ρ x = .agg seg.toArray)
    (hh : w.heap[g]? = some (.cells cur e (0, 0))) (hl : seg.length = cur.size) (ht : (P.info? t).map (·.size) = some seg.length) (h1 : ∀ q ∈ seg, q.oneCell' = true) : Sem.run P (execOp ρ o) w = .ok .skip (w.setCells g 0 seg) := by
  have h := run_store_run (P := P) (o := 0) t (.agg seg.toArray) seg hh (by simp [Value.cells]) ht (by omega) h1
  unfold execOp
  rw [ho]
  simp only [hp, hx]
  rw [Sem.run_bind, h]
  rfl
theorem below_cells {B g : Nat} {W w : World} (h : Below B W w) (hg : B ≤ g) (seg : List Value) : Below B W (w.setCells g 0 seg) := by
  obtain ⟨h1, h2, h3, h4⟩ := setCells_same g seg 0 w
  exact h.trans ⟨h1, h2, h3, by omega, fun k hk => setCells_far seg 0 k (by omega)⟩
/-- A struct's value is put into its block, whole. -/
theorem box_seq {P : Program} {ops : Array Oper} {rest : List Oper} {o : Oper} {a : Act} {Q : Exit → Act → World → Prop} {t e : TypeId} {p : Tmp} {x : Operand} {g : Nat} {cur : Array Value} {w : World} (hg : o.guard = none) (hN : o.dst = none) (seg : List Value) (ho : o.op = .store t (.tmp p) x) (hp : a.eval (.tmp p) = .pointer (some ⟨g, 0, none⟩)) (hx : a.eval x = .agg seg.toArray)
    (hh : w.heap[g]? = some (.cells cur e (0, 0))) (hl : seg.length = cur.size) (ht : (P.info? t).map (·.size) = some seg.length) (h1 : ∀ q ∈ seg, q.oneCell' = true) (h : wpList P ops Q rest a (w.setCells g 0 seg)) : wpList P ops Q (o :: rest) a w := by
  refine wpList_plain hg fun K hK => ?_
  unfold Oper.wp
  rw [run_box seg ho hp hx hh hl ht h1]
  show K (a.put o.dst undef) _
  rw [hN]
  exact hK _ _ h
theorem lit_N {α : Type} (d : Kd α) (e base : Nat) (w : World) (ok : Nat → Prop) (hok : ok w.heap.size) (hb : base ≤ w.heap.size) : Kd.N d e (w.alloc (.cells #[] e)) base ok (.slice (some ⟨w.heap.size, 0, none⟩) 0 0) [] := by
  refine Kd.R_N ⟨fun k hk => ?_, [], ⟨by simp, .inr ⟨w.heap.size, 0, #[], rfl, hb, heap_alloc_new w _, Nat.le_refl _, by decide, by simp, by simp⟩⟩, Reps.none _ _⟩
  simp [Value.ownBlock] at hk
  exact hk ▸ hok
/-- append([]T{}, l...), behind 'at_builtin': a list of its own that reads alike. -/
theorem app_copy {P : Program} {ops : Array Oper} {rest : List Oper} {o : Oper} {a : Act} {Q : Exit → Act → World → Prop} {α : Type} (d : Kd α) {W w : World} {b : Nat} {A : Option Addr} {c : Nat} {ys : List α} (hgd : o.guard = none) (s x : Operand) (t e : TypeId) (z : Value) (bytes : Nat)
    (ho : o.op = .call { callee := .builtin .append, args := #[s, x], argTypes := #[t, t] })
    (ht : P.underlying t = some (.slice e)) (hinfo : (P.info? e).map (fun i => (i.zero, i.size, i.bytes)) = some (some z, d.sz, bytes)) (hz : z.cells.size = d.sz) (hs0 : 0 < d.sz) (hb0 : 0 < bytes)
    (g : Nat) (hs : a.eval s = .slice (some ⟨g, 0, none⟩) 0 0) (hg : g = w.heap.size) (hx : a.eval x = .slice A ys.length c) (HF : Kd.F d w (fun k => k ≠ b ∧ k ≠ b + 1) A ys.length ys) (HB : Below b W w) (hbs : b + 1 < w.heap.size) (hl : ys.length * bytes ≤ 140737488355328)
    (h : ∀ B c1 w1, Kd.F d w1 (fun k => k ≠ b ∧ k ≠ b + 1) B ys.length ys → ys.length ≤ c1 → Below b W w1 → (∀ k, k < w.heap.size → w1.heap[k]? = w.heap[k]?) → wpList P ops Q rest (a.put o.dst (.slice B ys.length c1)) w1) :
    wpList P ops Q (o :: rest) a (w.alloc (.cells #[] e)) := by
  subst hg
  have hsz : (w.alloc (.cells #[] e)).heap.size = w.heap.size + 1 := by show (w.heap.push _).size = _; rw [Array.size_push]
  refine Kd.N_append_rows d (w0 := W) b hgd s x t e z bytes ho ht hinfo hz hs0 hb0 _ [] ys A _ c (fun k => k ≠ b ∧ k ≠ b + 1) (fun k => (k ≠ b ∧ k ≠ b + 1) ∧ k < w.heap.size) hs hx (lit_N d e b w _ ⟨by omega, by omega⟩ (by omega)) (Kd.F_step (Kd.F_bound HF) (fun k hk hlt => Below.heap_alloc w _ k hlt)) (fun k hk => ⟨hk.1, by simp only [Value.ownBlock, ne_eq, Option.some.injEq]; omega⟩) (fun k hk => ⟨by omega, by omega⟩) (HB.trans ⟨rfl, rfl, rfl, by rw [hsz]; omega, fun k hk => Below.heap_alloc w _ k (by omega)⟩) (by omega) (by simpa using hl) ?_
  intro v1 w1 hN hb hg hat
  obtain ⟨B, c1, rfl⟩ := Kd.N_slice hN
  have hR := Kd.N_reads' hN
  exact h B c1 w1 (Kd.N_F hN) hR.2.1 hb (fun k hk => (hg.block k (by omega) (by simp only [Value.ownBlock, ne_eq, Option.some.injEq]; omega)).trans (Below.heap_alloc w _ k hk))
/-- A copy under way: the state's block, the answer's block, and the rows, apart from them. -/
structure CW (W w : World) (b : Nat) (s : S31) (A2 A3 A4 A5 A6 A7 A8 : Option Addr) (c2 c3 c4 c5 c6 c7 c8 : Nat) : Prop where
  hy : w.heap[b]? = some (.cells #[.int .i64 s.f0, .int .u64 s.f1, .slice A2 s.f2.length c2, .slice A3 s.f3.length c3, .slice A4 s.f4.length c4, .slice A5 s.f5.length c5, .slice A6 s.f6.length c6, .slice A7 s.f7.length c7, .slice A8 s.f8.length c8, .int .i64 s.f9] 31 (0, 0))
  hz : w.heap[b + 1]? = some (.cells #[.int .i64 0, .int .u64 0, .slice none 0 0, .slice none 0 0, .slice none 0 0, .slice none 0 0, .slice none 0 0, .slice none 0 0, .slice none 0 0, .int .i64 0] 31 (0, 0))
  hb : Below b W w
  g2 : Kd.F k97 w (fun k => k ≠ b ∧ k ≠ b + 1) A2 s.f2.length s.f2
  l2 : s.f2.length ≤ c2
  g3 : Kd.F k59 w (fun k => k ≠ b ∧ k ≠ b + 1) A3 s.f3.length s.f3
  l3 : s.f3.length ≤ c3
  g4 : Kd.F k108 w (fun k => k ≠ b ∧ k ≠ b + 1) A4 s.f4.length s.f4
  l4 : s.f4.length ≤ c4
  g5 : Kd.F k73 w (fun k => k ≠ b ∧ k ≠ b + 1) A5 s.f5.length s.f5
  l5 : s.f5.length ≤ c5
  g6 : Kd.F k100 w (fun k => k ≠ b ∧ k ≠ b + 1) A6 s.f6.length s.f6
  l6 : s.f6.length ≤ c6
  g7 : Kd.F k61 w (fun k => k ≠ b ∧ k ≠ b + 1) A7 s.f7.length s.f7
  l7 : s.f7.length ≤ c7
  g8 : Kd.F (Kd.int .i64) w (fun k => k ≠ b ∧ k ≠ b + 1) A8 s.f8.length s.f8
  l8 : s.f8.length ≤ c8
theorem CW.keepz {W w : World} {b : Nat} {s : S31} {A2 A3 A4 A5 A6 A7 A8 : Option Addr} {c2 c3 c4 c5 c6 c7 c8 : Nat} (h : CW W w b s A2 A3 A4 A5 A6 A7 A8 c2 c3 c4 c5 c6 c7 c8) (seg : List Value) : Rs (w.setCells (b + 1) 0 seg) s A2 A3 A4 A5 A6 A7 A8 c2 c3 c4 c5 c6 c7 c8 :=
  ⟨Kd.F_now (Kd.F_step h.g2 (fun k hk hlt => setCells_far seg 0 k hk.2)), h.l2, Kd.F_now (Kd.F_step h.g3 (fun k hk hlt => setCells_far seg 0 k hk.2)), h.l3, Kd.F_now (Kd.F_step h.g4 (fun k hk hlt => setCells_far seg 0 k hk.2)), h.l4, Kd.F_now (Kd.F_step h.g5 (fun k hk hlt => setCells_far seg 0 k hk.2)), h.l5, Kd.F_now (Kd.F_step h.g6 (fun k hk hlt => setCells_far seg 0 k hk.2)), h.l6, Kd.F_now (Kd.F_step h.g7 (fun k hk hlt => setCells_far seg 0 k hk.2)), h.l7, Kd.F_now (Kd.F_step h.g8 (fun k hk hlt => setCells_far seg 0 k hk.2)), h.l8⟩
theorem CW.start {W w : World} {s : S31} {A2 A3 A4 A5 A6 A7 A8 : Option Addr} {c2 c3 c4 c5 c6 c7 c8 : Nat} (h : Rs W s A2 A3 A4 A5 A6 A7 A8 c2 c3 c4 c5 c6 c7 c8) (hy : w.heap[W.heap.size]? = some (.cells #[.int .i64 s.f0, .int .u64 s.f1, .slice A2 s.f2.length c2, .slice A3 s.f3.length c3, .slice A4 s.f4.length c4, .slice A5 s.f5.length c5, .slice A6 s.f6.length c6, .slice A7 s.f7.length c7, .slice A8 s.f8.length c8, .int .i64 s.f9] 31 (0, 0))) (hz : w.heap[W.heap.size + 1]? = some (.cells #[.int .i64 0, .int .u64 0, .slice none 0 0, .slice none 0 0, .slice none 0 0, .slice none 0 0, .slice none 0 0, .slice none 0 0, .slice none 0 0, .int .i64 0] 31 (0, 0))) (hb : Below W.heap.size W w) : CW W w W.heap.size s A2 A3 A4 A5 A6 A7 A8 c2 c3 c4 c5 c6 c7 c8 :=
  ⟨hy, hz, hb, Kd.F_step (Kd.F_mono (Kd.C_F k97_heap h.g2) (fun k hk => ⟨by omega, by omega⟩)) (fun k _ hk => hb.block k hk), h.l2, Kd.F_step (Kd.F_mono (Kd.C_F k59_heap h.g3) (fun k hk => ⟨by omega, by omega⟩)) (fun k _ hk => hb.block k hk), h.l3, Kd.F_step (Kd.F_mono (Kd.C_F k108_heap h.g4) (fun k hk => ⟨by omega, by omega⟩)) (fun k _ hk => hb.block k hk), h.l4, Kd.F_step (Kd.F_mono (Kd.C_F k73_heap h.g5) (fun k hk => ⟨by omega, by omega⟩)) (fun k _ hk => hb.block k hk), h.l5, Kd.F_step (Kd.F_mono (Kd.C_F k100_heap h.g6) (fun k hk => ⟨by omega, by omega⟩)) (fun k _ hk => hb.block k hk), h.l6, Kd.F_step (Kd.F_mono (Kd.C_F k61_heap h.g7) (fun k hk => ⟨by omega, by omega⟩)) (fun k _ hk => hb.block k hk), h.l7, Kd.F_step (Kd.F_mono (Kd.C_F (Kd.heap_int .i64) h.g8) (fun k hk => ⟨by omega, by omega⟩)) (fun k _ hk => hb.block k hk), h.l8⟩
theorem CW.put2 {W w x : World} {b : Nat} {s : S31} {A2 A3 A4 A5 A6 A7 A8 : Option Addr} {c2 c3 c4 c5 c6 c7 c8 : Nat} (h : CW W w b s A2 A3 A4 A5 A6 A7 A8 c2 c3 c4 c5 c6 c7 c8) (B : Option Addr) (c : Nat) (hF : Kd.F k97 x (fun k => k ≠ b ∧ k ≠ b + 1) B s.f2.length s.f2) (hl : s.f2.length ≤ c) (hb : Below b W x) (hx : ∀ k, k < w.heap.size → x.heap[k]? = w.heap[k]?) : CW W (x.setCell ⟨b, 2, none⟩ (.slice B s.f2.length c)) b s B A3 A4 A5 A6 A7 A8 c c3 c4 c5 c6 c7 c8 :=
  have hk : ∀ k, k ≠ b → k < w.heap.size → (x.setCell ⟨b, 2, none⟩ (.slice B s.f2.length c)).heap[k]? = w.heap[k]? := fun k hk hlt => (Below.heap_setCell _ _ _ _ hk).trans (hx k hlt)
  ⟨blk_put ((hx _ (blk_lt h.hy)).trans h.hy) 2 _ rfl, (hk _ (by omega) (blk_lt h.hz)).trans h.hz, hb.setCell (Nat.le_refl _) _, Kd.F_step hF (fun k hk hlt => Below.heap_setCell _ _ _ _ hk.1), hl, Kd.F_step h.g3 (fun k h1 h2 => hk k h1.1 h2), h.l3, Kd.F_step h.g4 (fun k h1 h2 => hk k h1.1 h2), h.l4, Kd.F_step h.g5 (fun k h1 h2 => hk k h1.1 h2), h.l5, Kd.F_step h.g6 (fun k h1 h2 => hk k h1.1 h2), h.l6, Kd.F_step h.g7 (fun k h1 h2 => hk k h1.1 h2), h.l7, Kd.F_step h.g8 (fun k h1 h2 => hk k h1.1 h2), h.l8⟩
theorem CW.put3 {W w x : World} {b : Nat} {s : S31} {A2 A3 A4 A5 A6 A7 A8 : Option Addr} {c2 c3 c4 c5 c6 c7 c8 : Nat} (h : CW W w b s A2 A3 A4 A5 A6 A7 A8 c2 c3 c4 c5 c6 c7 c8) (B : Option Addr) (c : Nat) (hF : Kd.F k59 x (fun k => k ≠ b ∧ k ≠ b + 1) B s.f3.length s.f3) (hl : s.f3.length ≤ c) (hb : Below b W x) (hx : ∀ k, k < w.heap.size → x.heap[k]? = w.heap[k]?) : CW W (x.setCell ⟨b, 3, none⟩ (.slice B s.f3.length c)) b s A2 B A4 A5 A6 A7 A8 c2 c c4 c5 c6 c7 c8 :=
  have hk : ∀ k, k ≠ b → k < w.heap.size → (x.setCell ⟨b, 3, none⟩ (.slice B s.f3.length c)).heap[k]? = w.heap[k]? := fun k hk hlt => (Below.heap_setCell _ _ _ _ hk).trans (hx k hlt)
  ⟨blk_put ((hx _ (blk_lt h.hy)).trans h.hy) 3 _ rfl, (hk _ (by omega) (blk_lt h.hz)).trans h.hz, hb.setCell (Nat.le_refl _) _, Kd.F_step h.g2 (fun k h1 h2 => hk k h1.1 h2), h.l2, Kd.F_step hF (fun k hk hlt => Below.heap_setCell _ _ _ _ hk.1), hl, Kd.F_step h.g4 (fun k h1 h2 => hk k h1.1 h2), h.l4, Kd.F_step h.g5 (fun k h1 h2 => hk k h1.1 h2), h.l5, Kd.F_step h.g6 (fun k h1 h2 => hk k h1.1 h2), h.l6, Kd.F_step h.g7 (fun k h1 h2 => hk k h1.1 h2), h.l7, Kd.F_step h.g8 (fun k h1 h2 => hk k h1.1 h2), h.l8⟩
theorem CW.put4 {W w x : World} {b : Nat} {s : S31} {A2 A3 A4 A5 A6 A7 A8 : Option Addr} {c2 c3 c4 c5 c6 c7 c8 : Nat} (h : CW W w b s A2 A3 A4 A5 A6 A7 A8 c2 c3 c4 c5 c6 c7 c8) (B : Option Addr) (c : Nat) (hF : Kd.F k108 x (fun k => k ≠ b ∧ k ≠ b + 1) B s.f4.length s.f4) (hl : s.f4.length ≤ c) (hb : Below b W x) (hx : ∀ k, k < w.heap.size → x.heap[k]? = w.heap[k]?) : CW W (x.setCell ⟨b, 4, none⟩ (.slice B s.f4.length c)) b s A2 A3 B A5 A6 A7 A8 c2 c3 c c5 c6 c7 c8 :=
  have hk : ∀ k, k ≠ b → k < w.heap.size → (x.setCell ⟨b, 4, none⟩ (.slice B s.f4.length c)).heap[k]? = w.heap[k]? := fun k hk hlt => (Below.heap_setCell _ _ _ _ hk).trans (hx k hlt)
  ⟨blk_put ((hx _ (blk_lt h.hy)).trans h.hy) 4 _ rfl, (hk _ (by omega) (blk_lt h.hz)).trans h.hz, hb.setCell (Nat.le_refl _) _, Kd.F_step h.g2 (fun k h1 h2 => hk k h1.1 h2), h.l2, Kd.F_step h.g3 (fun k h1 h2 => hk k h1.1 h2), h.l3, Kd.F_step hF (fun k hk hlt => Below.heap_setCell _ _ _ _ hk.1), hl, Kd.F_step h.g5 (fun k h1 h2 => hk k h1.1 h2), h.l5, Kd.F_step h.g6 (fun k h1 h2 => hk k h1.1 h2), h.l6, Kd.F_step h.g7 (fun k h1 h2 => hk k h1.1 h2), h.l7, Kd.F_step h.g8 (fun k h1 h2 => hk k h1.1 h2), h.l8⟩
theorem CW.put5 {W w x : World} {b : Nat} {s : S31} {A2 A3 A4 A5 A6 A7 A8 : Option Addr} {c2 c3 c4 c5 c6 c7 c8 : Nat} (h : CW W w b s A2 A3 A4 A5 A6 A7 A8 c2 c3 c4 c5 c6 c7 c8) (B : Option Addr) (c : Nat) (hF : Kd.F k73 x (fun k => k ≠ b ∧ k ≠ b + 1) B s.f5.length s.f5) (hl : s.f5.length ≤ c) (hb : Below b W x) (hx : ∀ k, k < w.heap.size → x.heap[k]? = w.heap[k]?) : CW W (x.setCell ⟨b, 5, none⟩ (.slice B s.f5.length c)) b s A2 A3 A4 B A6 A7 A8 c2 c3 c4 c c6 c7 c8 :=
  have hk : ∀ k, k ≠ b → k < w.heap.size → (x.setCell ⟨b, 5, none⟩ (.slice B s.f5.length c)).heap[k]? = w.heap[k]? := fun k hk hlt => (Below.heap_setCell _ _ _ _ hk).trans (hx k hlt)
  ⟨blk_put ((hx _ (blk_lt h.hy)).trans h.hy) 5 _ rfl, (hk _ (by omega) (blk_lt h.hz)).trans h.hz, hb.setCell (Nat.le_refl _) _, Kd.F_step h.g2 (fun k h1 h2 => hk k h1.1 h2), h.l2, Kd.F_step h.g3 (fun k h1 h2 => hk k h1.1 h2), h.l3, Kd.F_step h.g4 (fun k h1 h2 => hk k h1.1 h2), h.l4, Kd.F_step hF (fun k hk hlt => Below.heap_setCell _ _ _ _ hk.1), hl, Kd.F_step h.g6 (fun k h1 h2 => hk k h1.1 h2), h.l6, Kd.F_step h.g7 (fun k h1 h2 => hk k h1.1 h2), h.l7, Kd.F_step h.g8 (fun k h1 h2 => hk k h1.1 h2), h.l8⟩
theorem CW.put6 {W w x : World} {b : Nat} {s : S31} {A2 A3 A4 A5 A6 A7 A8 : Option Addr} {c2 c3 c4 c5 c6 c7 c8 : Nat} (h : CW W w b s A2 A3 A4 A5 A6 A7 A8 c2 c3 c4 c5 c6 c7 c8) (B : Option Addr) (c : Nat) (hF : Kd.F k100 x (fun k => k ≠ b ∧ k ≠ b + 1) B s.f6.length s.f6) (hl : s.f6.length ≤ c) (hb : Below b W x) (hx : ∀ k, k < w.heap.size → x.heap[k]? = w.heap[k]?) : CW W (x.setCell ⟨b, 6, none⟩ (.slice B s.f6.length c)) b s A2 A3 A4 A5 B A7 A8 c2 c3 c4 c5 c c7 c8 :=
  have hk : ∀ k, k ≠ b → k < w.heap.size → (x.setCell ⟨b, 6, none⟩ (.slice B s.f6.length c)).heap[k]? = w.heap[k]? := fun k hk hlt => (Below.heap_setCell _ _ _ _ hk).trans (hx k hlt)
  ⟨blk_put ((hx _ (blk_lt h.hy)).trans h.hy) 6 _ rfl, (hk _ (by omega) (blk_lt h.hz)).trans h.hz, hb.setCell (Nat.le_refl _) _, Kd.F_step h.g2 (fun k h1 h2 => hk k h1.1 h2), h.l2, Kd.F_step h.g3 (fun k h1 h2 => hk k h1.1 h2), h.l3, Kd.F_step h.g4 (fun k h1 h2 => hk k h1.1 h2), h.l4, Kd.F_step h.g5 (fun k h1 h2 => hk k h1.1 h2), h.l5, Kd.F_step hF (fun k hk hlt => Below.heap_setCell _ _ _ _ hk.1), hl, Kd.F_step h.g7 (fun k h1 h2 => hk k h1.1 h2), h.l7, Kd.F_step h.g8 (fun k h1 h2 => hk k h1.1 h2), h.l8⟩
theorem CW.put7 {W w x : World} {b : Nat} {s : S31} {A2 A3 A4 A5 A6 A7 A8 : Option Addr} {c2 c3 c4 c5 c6 c7 c8 : Nat} (h : CW W w b s A2 A3 A4 A5 A6 A7 A8 c2 c3 c4 c5 c6 c7 c8) (B : Option Addr) (c : Nat) (hF : Kd.F k61 x (fun k => k ≠ b ∧ k ≠ b + 1) B s.f7.length s.f7) (hl : s.f7.length ≤ c) (hb : Below b W x) (hx : ∀ k, k < w.heap.size → x.heap[k]? = w.heap[k]?) : CW W (x.setCell ⟨b, 7, none⟩ (.slice B s.f7.length c)) b s A2 A3 A4 A5 A6 B A8 c2 c3 c4 c5 c6 c c8 :=
  have hk : ∀ k, k ≠ b → k < w.heap.size → (x.setCell ⟨b, 7, none⟩ (.slice B s.f7.length c)).heap[k]? = w.heap[k]? := fun k hk hlt => (Below.heap_setCell _ _ _ _ hk).trans (hx k hlt)
  ⟨blk_put ((hx _ (blk_lt h.hy)).trans h.hy) 7 _ rfl, (hk _ (by omega) (blk_lt h.hz)).trans h.hz, hb.setCell (Nat.le_refl _) _, Kd.F_step h.g2 (fun k h1 h2 => hk k h1.1 h2), h.l2, Kd.F_step h.g3 (fun k h1 h2 => hk k h1.1 h2), h.l3, Kd.F_step h.g4 (fun k h1 h2 => hk k h1.1 h2), h.l4, Kd.F_step h.g5 (fun k h1 h2 => hk k h1.1 h2), h.l5, Kd.F_step h.g6 (fun k h1 h2 => hk k h1.1 h2), h.l6, Kd.F_step hF (fun k hk hlt => Below.heap_setCell _ _ _ _ hk.1), hl, Kd.F_step h.g8 (fun k h1 h2 => hk k h1.1 h2), h.l8⟩
theorem CW.put8 {W w x : World} {b : Nat} {s : S31} {A2 A3 A4 A5 A6 A7 A8 : Option Addr} {c2 c3 c4 c5 c6 c7 c8 : Nat} (h : CW W w b s A2 A3 A4 A5 A6 A7 A8 c2 c3 c4 c5 c6 c7 c8) (B : Option Addr) (c : Nat) (hF : Kd.F (Kd.int .i64) x (fun k => k ≠ b ∧ k ≠ b + 1) B s.f8.length s.f8) (hl : s.f8.length ≤ c) (hb : Below b W x) (hx : ∀ k, k < w.heap.size → x.heap[k]? = w.heap[k]?) : CW W (x.setCell ⟨b, 8, none⟩ (.slice B s.f8.length c)) b s A2 A3 A4 A5 A6 A7 B c2 c3 c4 c5 c6 c7 c :=
  have hk : ∀ k, k ≠ b → k < w.heap.size → (x.setCell ⟨b, 8, none⟩ (.slice B s.f8.length c)).heap[k]? = w.heap[k]? := fun k hk hlt => (Below.heap_setCell _ _ _ _ hk).trans (hx k hlt)
  ⟨blk_put ((hx _ (blk_lt h.hy)).trans h.hy) 8 _ rfl, (hk _ (by omega) (blk_lt h.hz)).trans h.hz, hb.setCell (Nat.le_refl _) _, Kd.F_step h.g2 (fun k h1 h2 => hk k h1.1 h2), h.l2, Kd.F_step h.g3 (fun k h1 h2 => hk k h1.1 h2), h.l3, Kd.F_step h.g4 (fun k h1 h2 => hk k h1.1 h2), h.l4, Kd.F_step h.g5 (fun k h1 h2 => hk k h1.1 h2), h.l5, Kd.F_step h.g6 (fun k h1 h2 => hk k h1.1 h2), h.l6, Kd.F_step h.g7 (fun k h1 h2 => hk k h1.1 h2), h.l7, Kd.F_step hF (fun k hk hlt => Below.heap_setCell _ _ _ _ hk.1), hl⟩
/-- It answers a state that reads alike, in lists of its own. -/
def RCo (s : S31) (W : World) (e : Ending) (w' : World) : Prop := ∃ (B2 : Option Addr) (B3 : Option Addr) (B4 : Option Addr) (B5 : Option Addr) (B6 : Option Addr) (B7 : Option Addr) (B8 : Option Addr) (d2 : Nat) (d3 : Nat) (d4 : Nat) (d5 : Nat) (d6 : Nat) (d7 : Nat) (d8 : Nat), e = .returned (.agg #[.int .i64 s.f0, .int .u64 s.f1, .slice B2 s.f2.length d2, .slice B3 s.f3.length d3, .slice B4 s.f4.length d4, .slice B5 s.f5.length d5, .slice B6 s.f6.length d6, .slice B7 s.f7.length d7, .slice B8 s.f8.length d8, .int .i64 s.f9]) ∧ Rs w' s B2 B3 B4 B5 B6 B7 B8 d2 d3 d4 d5 d6 d7 d8 ∧ Below W.heap.size W w'
set_option maxHeartbeats 8000000 in
theorem Copy_any (s : S31) (A2 A3 A4 A5 A6 A7 A8 : Option Addr) (c2 c3 c4 c5 c6 c7 c8 : Nat) (W : World) (hs : Rs W s A2 A3 A4 A5 A6 A7 A8 c2 c3 c4 c5 c6 c7 c8) (hn : s.f2.length ≤ 1000 ∧ s.f3.length ≤ 1000 ∧ s.f4.length ≤ 1000 ∧ s.f5.length ≤ 1000 ∧ s.f6.length ≤ 1000 ∧ s.f7.length ≤ 1000 ∧ s.f8.length ≤ 1000) : Calls Tryz.prog 28 #[.agg #[.int .i64 s.f0, .int .u64 s.f1, .slice A2 s.f2.length c2, .slice A3 s.f3.length c3, .slice A4 s.f4.length c4, .slice A5 s.f5.length c5, .slice A6 s.f6.length c6, .slice A7 s.f7.length c7, .slice A8 s.f8.length c8, .int .i64 s.f9]] W (RCo s W) := by
  obtain ⟨n2, n3, n4, n5, n6, n7, n8⟩ := hn
  have hz1 : (W.alloc (.cells #[.int .i64 s.f0, .int .u64 s.f1, .slice A2 s.f2.length c2, .slice A3 s.f3.length c3, .slice A4 s.f4.length c4, .slice A5 s.f5.length c5, .slice A6 s.f6.length c6, .slice A7 s.f7.length c7, .slice A8 s.f8.length c8, .int .i64 s.f9] 31 (0, 0))).heap.size = W.heap.size + 1 := by show (W.heap.push _).size = _; rw [Array.size_push]
  obtain ⟨w1, hw1⟩ : ∃ w1, (W.alloc (.cells #[.int .i64 s.f0, .int .u64 s.f1, .slice A2 s.f2.length c2, .slice A3 s.f3.length c3, .slice A4 s.f4.length c4, .slice A5 s.f5.length c5, .slice A6 s.f6.length c6, .slice A7 s.f7.length c7, .slice A8 s.f8.length c8, .int .i64 s.f9] 31 (0, 0))).alloc (.cells #[.int .i64 0, .int .u64 0, .slice none 0 0, .slice none 0 0, .slice none 0 0, .slice none 0 0, .slice none 0 0, .slice none 0 0, .slice none 0 0, .int .i64 0] 31 (0, 0)) = w1 := ⟨_, rfl⟩
  have HB := Lib.hid (show Below W.heap.size W w1 by rw [← hw1]; exact below_alloc (below_alloc (Below.refl _ _) _) _)
  have HY := Lib.hid (show w1.heap[W.heap.size]? = some (.cells #[.int .i64 s.f0, .int .u64 s.f1, .slice A2 s.f2.length c2, .slice A3 s.f3.length c3, .slice A4 s.f4.length c4, .slice A5 s.f5.length c5, .slice A6 s.f6.length c6, .slice A7 s.f7.length c7, .slice A8 s.f8.length c8, .int .i64 s.f9] 31 (0, 0)) by rw [← hw1]; exact blk_alloc (new_blk W _) _)
  have HZ := Lib.hid (show w1.heap[W.heap.size + 1]? = some (.cells #[.int .i64 0, .int .u64 0, .slice none 0 0, .slice none 0 0, .slice none 0 0, .slice none 0 0, .slice none 0 0, .slice none 0 0, .slice none 0 0, .int .i64 0] 31 (0, 0)) by have h_ := new_blk (W.alloc (.cells #[.int .i64 s.f0, .int .u64 s.f1, .slice A2 s.f2.length c2, .slice A3 s.f3.length c3, .slice A4 s.f4.length c4, .slice A5 s.f5.length c5, .slice A6 s.f6.length c6, .slice A7 s.f7.length c7, .slice A8 s.f8.length c8, .int .i64 s.f9] 31 (0, 0))) (.cells #[.int .i64 0, .int .u64 0, .slice none 0 0, .slice none 0 0, .slice none 0 0, .slice none 0 0, .slice none 0 0, .slice none 0 0, .slice none 0 0, .int .i64 0] 31 (0, 0)); rw [hz1] at h_; rw [← hw1]; exact h_)
  have HC := Lib.hid (CW.start hs HY.out HZ.out HB.out)
  have HW := Lib.hid hw1
  have HG := Lib.hid (show W.heap.size + 1 + 1 = w1.heap.size by rw [← hw1]; show _ = (Array.push _ _).size; rw [Array.size_push, hz1])
  clear hw1 hs hz1 HB
  have p2 : (((W.alloc (.cells #[.int .i64 s.f0, .int .u64 s.f1, .slice A2 s.f2.length c2, .slice A3 s.f3.length c3, .slice A4 s.f4.length c4, .slice A5 s.f5.length c5, .slice A6 s.f6.length c6, .slice A7 s.f7.length c7, .slice A8 s.f8.length c8, .int .i64 s.f9] 31 (0, 0))).alloc (.cells #[.int .i64 0, .int .u64 0, .slice none 0 0, .slice none 0 0, .slice none 0 0, .slice none 0 0, .slice none 0 0, .slice none 0 0, .slice none 0 0, .int .i64 0] 31 (0, 0))).alloc (.cells #[] 97)).cell? ⟨W.heap.size, 2, none⟩ = some (.slice A2 s.f2.length c2) := by rw [HW.out]; exact (blk_cell (blk_alloc HY.out _) 2).trans rfl
  clear HY HZ
  go_enter Tryz.func28, Tryz.ntmps28
  go_wp2_with (first
    | ((with_reducible refine gate_builtin (b := .append) (xs := #[.tmp 3, .tmp 5]) rfl ?_)
       at_builtin
       rw [HW.out]
       refine app_copy k97 rfl (.tmp 3) (.tmp 5) 23 97 (.agg #[(.string ⟨#[]⟩), (.int .i64 0), (.int .i64 0), (.string ⟨#[]⟩), (.slice none 0 0), (.int .i64 0)]) 80 rfl Tryz.underlying23 info97 rfl (by decide) (by omega) _ rfl HG.out rfl HC.out.g2 HC.out.hb (blk_lt HC.out.hz) (by omega) ?_
       intro B2 d2 x2 hF hl hb hx
       clear HW HG p2
       have q2 : x2.cell? ⟨W.heap.size, 2, none⟩ = some (.slice A2 s.f2.length c2) := (blk_cell ((hx _ (blk_lt HC.out.hy)).trans HC.out.hy) 2).trans rfl
       have r2 := blk_frozen ((hx _ (blk_lt HC.out.hy)).trans HC.out.hy) 2
       have HC' := Lib.hid (HC.out.put2 B2 d2 hF hl hb hx)
       clear hF hl hb hx HC
       obtain ⟨w2, hw2⟩ : ∃ w_, x2.setCell ⟨W.heap.size, 2, none⟩ (.slice B2 s.f2.length d2) = w_ := ⟨_, rfl⟩
       have HC := Lib.hid (hw2 ▸ HC'.out)
       clear HC'
       have p3 : ((x2.setCell ⟨W.heap.size, 2, none⟩ (.slice B2 s.f2.length d2)).alloc (.cells #[] 59)).cell? ⟨W.heap.size, 3, none⟩ = some (.slice A3 s.f3.length c3) := by rw [hw2]; exact (blk_cell (blk_alloc HC.out.hy _) 3).trans rfl
       have HG := Lib.hid (show x2.heap.size = w2.heap.size by rw [← hw2]; simp [World.setCell])
       have HW := Lib.hid hw2
       clear hw2)
    | ((with_reducible refine gate_builtin (b := .append) (xs := #[.tmp 8, .tmp 10]) rfl ?_)
       at_builtin
       rw [HW.out]
       refine app_copy k59 rfl (.tmp 8) (.tmp 10) 24 59 (.agg #[(.string ⟨#[]⟩), (.slice none 0 0)]) 40 rfl Tryz.underlying24 info59 rfl (by decide) (by omega) _ rfl HG.out rfl HC.out.g3 HC.out.hb (blk_lt HC.out.hz) (by omega) ?_
       intro B3 d3 x3 hF hl hb hx
       clear HW HG p3 q2 r2
       have q3 : x3.cell? ⟨W.heap.size, 3, none⟩ = some (.slice A3 s.f3.length c3) := (blk_cell ((hx _ (blk_lt HC.out.hy)).trans HC.out.hy) 3).trans rfl
       have r3 := blk_frozen ((hx _ (blk_lt HC.out.hy)).trans HC.out.hy) 3
       have HC' := Lib.hid (HC.out.put3 B3 d3 hF hl hb hx)
       clear hF hl hb hx HC
       obtain ⟨w3, hw3⟩ : ∃ w_, x3.setCell ⟨W.heap.size, 3, none⟩ (.slice B3 s.f3.length d3) = w_ := ⟨_, rfl⟩
       have HC := Lib.hid (hw3 ▸ HC'.out)
       clear HC'
       have p4 : ((x3.setCell ⟨W.heap.size, 3, none⟩ (.slice B3 s.f3.length d3)).alloc (.cells #[] 108)).cell? ⟨W.heap.size, 4, none⟩ = some (.slice A4 s.f4.length c4) := by rw [hw3]; exact (blk_cell (blk_alloc HC.out.hy _) 4).trans rfl
       have HG := Lib.hid (show x3.heap.size = w3.heap.size by rw [← hw3]; simp [World.setCell])
       have HW := Lib.hid hw3
       clear hw3)
    | ((with_reducible refine gate_builtin (b := .append) (xs := #[.tmp 13, .tmp 15]) rfl ?_)
       at_builtin
       rw [HW.out]
       refine app_copy k108 rfl (.tmp 13) (.tmp 15) 25 108 (.agg #[(.string ⟨#[]⟩), (.int .i64 0), (.bool false)]) 32 rfl Tryz.underlying25 info108 rfl (by decide) (by omega) _ rfl HG.out rfl HC.out.g4 HC.out.hb (blk_lt HC.out.hz) (by omega) ?_
       intro B4 d4 x4 hF hl hb hx
       clear HW HG p4 q3 r3
       have q4 : x4.cell? ⟨W.heap.size, 4, none⟩ = some (.slice A4 s.f4.length c4) := (blk_cell ((hx _ (blk_lt HC.out.hy)).trans HC.out.hy) 4).trans rfl
       have r4 := blk_frozen ((hx _ (blk_lt HC.out.hy)).trans HC.out.hy) 4
       have HC' := Lib.hid (HC.out.put4 B4 d4 hF hl hb hx)
       clear hF hl hb hx HC
       obtain ⟨w4, hw4⟩ : ∃ w_, x4.setCell ⟨W.heap.size, 4, none⟩ (.slice B4 s.f4.length d4) = w_ := ⟨_, rfl⟩
       have HC := Lib.hid (hw4 ▸ HC'.out)
       clear HC'
       have p5 : ((x4.setCell ⟨W.heap.size, 4, none⟩ (.slice B4 s.f4.length d4)).alloc (.cells #[] 73)).cell? ⟨W.heap.size, 5, none⟩ = some (.slice A5 s.f5.length c5) := by rw [hw4]; exact (blk_cell (blk_alloc HC.out.hy _) 5).trans rfl
       have HG := Lib.hid (show x4.heap.size = w4.heap.size by rw [← hw4]; simp [World.setCell])
       have HW := Lib.hid hw4
       clear hw4)
    | ((with_reducible refine gate_builtin (b := .append) (xs := #[.tmp 18, .tmp 20]) rfl ?_)
       at_builtin
       rw [HW.out]
       refine app_copy k73 rfl (.tmp 18) (.tmp 20) 26 73 (.agg #[(.string ⟨#[]⟩), (.string ⟨#[]⟩), (.string ⟨#[]⟩), (.string ⟨#[]⟩), (.int .i64 0), (.int .i64 0)]) 80 rfl Tryz.underlying26 info73 rfl (by decide) (by omega) _ rfl HG.out rfl HC.out.g5 HC.out.hb (blk_lt HC.out.hz) (by omega) ?_
       intro B5 d5 x5 hF hl hb hx
       clear HW HG p5 q4 r4
       have q5 : x5.cell? ⟨W.heap.size, 5, none⟩ = some (.slice A5 s.f5.length c5) := (blk_cell ((hx _ (blk_lt HC.out.hy)).trans HC.out.hy) 5).trans rfl
       have r5 := blk_frozen ((hx _ (blk_lt HC.out.hy)).trans HC.out.hy) 5
       have HC' := Lib.hid (HC.out.put5 B5 d5 hF hl hb hx)
       clear hF hl hb hx HC
       obtain ⟨w5, hw5⟩ : ∃ w_, x5.setCell ⟨W.heap.size, 5, none⟩ (.slice B5 s.f5.length d5) = w_ := ⟨_, rfl⟩
       have HC := Lib.hid (hw5 ▸ HC'.out)
       clear HC'
       have p6 : ((x5.setCell ⟨W.heap.size, 5, none⟩ (.slice B5 s.f5.length d5)).alloc (.cells #[] 100)).cell? ⟨W.heap.size, 6, none⟩ = some (.slice A6 s.f6.length c6) := by rw [hw5]; exact (blk_cell (blk_alloc HC.out.hy _) 6).trans rfl
       have HG := Lib.hid (show x5.heap.size = w5.heap.size by rw [← hw5]; simp [World.setCell])
       have HW := Lib.hid hw5
       clear hw5)
    | ((with_reducible refine gate_builtin (b := .append) (xs := #[.tmp 23, .tmp 25]) rfl ?_)
       at_builtin
       rw [HW.out]
       refine app_copy k100 rfl (.tmp 23) (.tmp 25) 27 100 (.agg #[(.string ⟨#[]⟩), (.int .i64 0), (.string ⟨#[]⟩), (.int .i64 0), (.int .i64 0), (.slice none 0 0), (.bool false)]) 88 rfl Tryz.underlying27 info100 rfl (by decide) (by omega) _ rfl HG.out rfl HC.out.g6 HC.out.hb (blk_lt HC.out.hz) (by omega) ?_
       intro B6 d6 x6 hF hl hb hx
       clear HW HG p6 q5 r5
       have q6 : x6.cell? ⟨W.heap.size, 6, none⟩ = some (.slice A6 s.f6.length c6) := (blk_cell ((hx _ (blk_lt HC.out.hy)).trans HC.out.hy) 6).trans rfl
       have r6 := blk_frozen ((hx _ (blk_lt HC.out.hy)).trans HC.out.hy) 6
       have HC' := Lib.hid (HC.out.put6 B6 d6 hF hl hb hx)
       clear hF hl hb hx HC
       obtain ⟨w6, hw6⟩ : ∃ w_, x6.setCell ⟨W.heap.size, 6, none⟩ (.slice B6 s.f6.length d6) = w_ := ⟨_, rfl⟩
       have HC := Lib.hid (hw6 ▸ HC'.out)
       clear HC'
       have p7 : ((x6.setCell ⟨W.heap.size, 6, none⟩ (.slice B6 s.f6.length d6)).alloc (.cells #[] 61)).cell? ⟨W.heap.size, 7, none⟩ = some (.slice A7 s.f7.length c7) := by rw [hw6]; exact (blk_cell (blk_alloc HC.out.hy _) 7).trans rfl
       have HG := Lib.hid (show x6.heap.size = w6.heap.size by rw [← hw6]; simp [World.setCell])
       have HW := Lib.hid hw6
       clear hw6)
    | ((with_reducible refine gate_builtin (b := .append) (xs := #[.tmp 28, .tmp 30]) rfl ?_)
       at_builtin
       rw [HW.out]
       refine app_copy k61 rfl (.tmp 28) (.tmp 30) 28 61 (.agg #[(.string ⟨#[]⟩), (.int .i64 0), (.int .u64 0), (.slice none 0 0)]) 56 rfl Tryz.underlying28 info61 rfl (by decide) (by omega) _ rfl HG.out rfl HC.out.g7 HC.out.hb (blk_lt HC.out.hz) (by omega) ?_
       intro B7 d7 x7 hF hl hb hx
       clear HW HG p7 q6 r6
       have q7 : x7.cell? ⟨W.heap.size, 7, none⟩ = some (.slice A7 s.f7.length c7) := (blk_cell ((hx _ (blk_lt HC.out.hy)).trans HC.out.hy) 7).trans rfl
       have r7 := blk_frozen ((hx _ (blk_lt HC.out.hy)).trans HC.out.hy) 7
       have HC' := Lib.hid (HC.out.put7 B7 d7 hF hl hb hx)
       clear hF hl hb hx HC
       obtain ⟨w7, hw7⟩ : ∃ w_, x7.setCell ⟨W.heap.size, 7, none⟩ (.slice B7 s.f7.length d7) = w_ := ⟨_, rfl⟩
       have HC := Lib.hid (hw7 ▸ HC'.out)
       clear HC'
       have p8 : ((x7.setCell ⟨W.heap.size, 7, none⟩ (.slice B7 s.f7.length d7)).alloc (.cells #[] 3)).cell? ⟨W.heap.size, 8, none⟩ = some (.slice A8 s.f8.length c8) := by rw [hw7]; exact (blk_cell (blk_alloc HC.out.hy _) 8).trans rfl
       have HG := Lib.hid (show x7.heap.size = w7.heap.size by rw [← hw7]; simp [World.setCell])
       have HW := Lib.hid hw7
       clear hw7)
    | ((with_reducible refine gate_builtin (b := .append) (xs := #[.tmp 33, .tmp 35]) rfl ?_)
       at_builtin
       rw [HW.out]
       refine app_copy (Kd.int .i64) rfl (.tmp 33) (.tmp 35) 29 3 (.int .i64 0) 8 rfl Tryz.underlying29 info3 rfl (by decide) (by omega) _ rfl HG.out rfl HC.out.g8 HC.out.hb (blk_lt HC.out.hz) (by omega) ?_
       intro B8 d8 x8 hF hl hb hx
       clear HW HG p8 q7 r7
       have q8 : x8.cell? ⟨W.heap.size, 8, none⟩ = some (.slice A8 s.f8.length c8) := (blk_cell ((hx _ (blk_lt HC.out.hy)).trans HC.out.hy) 8).trans rfl
       have r8 := blk_frozen ((hx _ (blk_lt HC.out.hy)).trans HC.out.hy) 8
       have HC' := Lib.hid (HC.out.put8 B8 d8 hF hl hb hx)
       clear hF hl hb hx HC
       obtain ⟨w8, hw8⟩ : ∃ w_, x8.setCell ⟨W.heap.size, 8, none⟩ (.slice B8 s.f8.length d8) = w_ := ⟨_, rfl⟩
       have HC := Lib.hid (hw8 ▸ HC'.out)
       clear HC'
       have p0 : (x8.setCell ⟨W.heap.size, 8, none⟩ (.slice B8 s.f8.length d8)).cell? ⟨W.heap.size, 0, none⟩ = some (.int .i64 s.f0) := by rw [hw8]; exact (blk_cell HC.out.hy 0).trans rfl
       have p1 : (x8.setCell ⟨W.heap.size, 8, none⟩ (.slice B8 s.f8.length d8)).cell? ⟨W.heap.size, 1, none⟩ = some (.int .u64 s.f1) := by rw [hw8]; exact (blk_cell HC.out.hy 1).trans rfl
       have p2 : (x8.setCell ⟨W.heap.size, 8, none⟩ (.slice B8 s.f8.length d8)).cell? ⟨W.heap.size, 2, none⟩ = some (.slice B2 s.f2.length d2) := by rw [hw8]; exact (blk_cell HC.out.hy 2).trans rfl
       have p3 : (x8.setCell ⟨W.heap.size, 8, none⟩ (.slice B8 s.f8.length d8)).cell? ⟨W.heap.size, 3, none⟩ = some (.slice B3 s.f3.length d3) := by rw [hw8]; exact (blk_cell HC.out.hy 3).trans rfl
       have p4 : (x8.setCell ⟨W.heap.size, 8, none⟩ (.slice B8 s.f8.length d8)).cell? ⟨W.heap.size, 4, none⟩ = some (.slice B4 s.f4.length d4) := by rw [hw8]; exact (blk_cell HC.out.hy 4).trans rfl
       have p5 : (x8.setCell ⟨W.heap.size, 8, none⟩ (.slice B8 s.f8.length d8)).cell? ⟨W.heap.size, 5, none⟩ = some (.slice B5 s.f5.length d5) := by rw [hw8]; exact (blk_cell HC.out.hy 5).trans rfl
       have p6 : (x8.setCell ⟨W.heap.size, 8, none⟩ (.slice B8 s.f8.length d8)).cell? ⟨W.heap.size, 6, none⟩ = some (.slice B6 s.f6.length d6) := by rw [hw8]; exact (blk_cell HC.out.hy 6).trans rfl
       have p7 : (x8.setCell ⟨W.heap.size, 8, none⟩ (.slice B8 s.f8.length d8)).cell? ⟨W.heap.size, 7, none⟩ = some (.slice B7 s.f7.length d7) := by rw [hw8]; exact (blk_cell HC.out.hy 7).trans rfl
       have p8 : (x8.setCell ⟨W.heap.size, 8, none⟩ (.slice B8 s.f8.length d8)).cell? ⟨W.heap.size, 8, none⟩ = some (.slice B8 s.f8.length d8) := by rw [hw8]; exact (blk_cell HC.out.hy 8).trans rfl
       have p9 : (x8.setCell ⟨W.heap.size, 8, none⟩ (.slice B8 s.f8.length d8)).cell? ⟨W.heap.size, 9, none⟩ = some (.int .i64 s.f9) := by rw [hw8]; exact (blk_cell HC.out.hy 9).trans rfl
       have HG := Lib.hid (show x8.heap.size = w8.heap.size by rw [← hw8]; simp [World.setCell])
       have HW := Lib.hid hw8
       clear hw8)
    | ((with_reducible refine gate_store (p := 2) rfl ?_)
       rw [HW.out]
       refine box_seq rfl rfl [.int .i64 s.f0, .int .u64 s.f1, .slice B2 s.f2.length d2, .slice B3 s.f3.length d3, .slice B4 s.f4.length d4, .slice B5 s.f5.length d5, .slice B6 s.f6.length d6, .slice B7 s.f7.length d7, .slice B8 s.f8.length d8, .int .i64 s.f9] rfl rfl rfl HC.out.hz rfl (by kernel_rfl) (by simp [Value.oneCell']) ?_
       clear HW HG q8 r8 p0 p1 p2 p3 p4 p5 p6 p7 p8 p9))
  have HE := Lib.hid (whole (seg := [.int .i64 s.f0, .int .u64 s.f1, .slice B2 s.f2.length d2, .slice B3 s.f3.length d3, .slice B4 s.f4.length d4, .slice B5 s.f5.length d5, .slice B6 s.f6.length d6, .slice B7 s.f7.length d7, .slice B8 s.f8.length d8, .int .i64 s.f9]) HC.out.hz rfl)
  have HR := Lib.hid (HC.out.keepz [.int .i64 s.f0, .int .u64 s.f1, .slice B2 s.f2.length d2, .slice B3 s.f3.length d3, .slice B4 s.f4.length d4, .slice B5 s.f5.length d5, .slice B6 s.f6.length d6, .slice B7 s.f7.length d7, .slice B8 s.f8.length d8, .int .i64 s.f9])
  refine bodyPost_ret (results_single (r := .cell 2 31) (by kernel_rfl) (.cell (W.heap.size + 1) 31 _ (0, 0) _ rfl HE.out Tryz.underlying31 rfl (by kernel_rfl) .nil)) rfl ?_
  exact ⟨B2, B3, B4, B5, B6, B7, B8, d2, d3, d4, d5, d6, d7, d8, rfl, HR.out, below_cells HC.out.hb (by omega) _⟩
end Go.Proofs.YtafigkikblpbnaaGreat.PG
