/- An event's bytes: the reading answers. Certificates that may be: the functions answer. Milestones that may be. Where a name stands; no condition beyond each theorem its own. -/
import Derived.Test.YtafigkikblpbnaaGreatJ06
import Derived.Laws.ResultCell
import Derived.Test.YtafigkikblpbnaaGreatJ05
import Derived.Test.YtafigkikblpbnaaGreatJ04
namespace Go.Proofs.YtafigkikblpbnaaGreat.PG
open Go.RowKit Go.Proofs.YtafigkikblpbnaaGreatW.PrintWords Go.Proofs.YtafigkikblpbnaaGreatW.PrintLast Go.Proofs.YtafigkikblpbnaaGreatW.PrintMore
set_option linter.unusedVariables false
set_option linter.unusedSimpArgs false
set_option maxRecDepth 100000

/-- It answers an event and a number; nothing that was there is turned. -/
def GotE (w : World) (e : Ending) (w' : World) : Prop :=
  ∃ (a b r : Int) (s u : ByteArray), e = .returned (.tuple #[.agg #[.int .i64 a, .int .i64 b, .string s, .string u], .int .i64 r]) ∧ s.size ≤ 140737488351232 ∧ u.size ≤ 140737488351232 ∧ Below w.heap.size w w'
theorem copy_any (xs : List Int) (A : Option Addr) (c : Nat) (w : World) (hC : (Kd.int .u8).C w A xs.length xs) (hc : xs.length ≤ c) (hx : xs.length ≤ 140737488351232) :
    Calls Tryz.prog 141 #[.slice A xs.length c] w fun e w' => ∃ (A' : Option Addr) (c' : Nat), e = .returned (.slice A' xs.length c') ∧ xs.length ≤ c' ∧ (Kd.int .u8).C w' A' xs.length xs ∧ Below w.heap.size w w' := by
  refine (hanaperref01_Copy.calls A c xs xs w hC hc (by
    unfold hanaperref01_Copy.f
    rw [Option.bind_some, if_pos (by rw [List.length_nil]; omega)]
    rfl)).mono ?_
  rintro e w' ⟨v, rfl, hR, hb⟩
  obtain ⟨A', c', rfl, hl', hC'⟩ := Kd.R_reads hR
  exact ⟨A', c', rfl, hl', hC', hb⟩
theorem results4_tmp {fn : Func} {p u : Tmp} (h : fn.results = #[.cell p 90, .tmp u]) (tmps : Array Value) (w : World) (b : Nat) (cs : Array Value) (hp : tmps.getD p undef = .pointer (some ⟨b, 0, none⟩)) (hb : w.heap[b]? = some (.cells cs 90 (0, 0))) (hs : cs.size = 4) :
    (results fn tmps).run Tryz.prog w = .ok (.tuple #[.agg cs, tmps.getD u undef]) w := by
  rw [results_cell_tmp h, hp]
  have h1 : (asAddr (.pointer (some ⟨b, 0, none⟩))).run Tryz.prog w = .ok ⟨b, 0, none⟩ w := rfl
  rw [h1]
  simp only [Result.andThen_ok]
  rw [run_loadVar_row w b 90 90 cs (0, 0) _ hb Tryz.underlying90 rfl (by rw [hs]; kernel_rfl)]
  rfl
theorem Rdr.below {w w1 : World} {p : Nat} {f : Bool} (h : Rdr w p f) (hb : Below w.heap.size w w1) : Rdr w1 p f := by
  obtain ⟨A, xs, c, hb3, hC3, hc3, hf3, hx3⟩ := h
  exact ⟨A, xs, c, (hb.block p (blk_lt hb3)).trans hb3, Kd.C_below hC3 hb, hc3, hf3, hx3⟩
theorem store90_facts {w : World} {q : Nat} (v0 v1 v2 v3 : Value) (h : w.heap[q]? = some (.cells #[.int .i64 0, .int .i64 0, .string ⟨#[]⟩, .string ⟨#[]⟩] 90 (0, 0))) :
    (w).cell? ⟨q, 0, none⟩ = some (.int .i64 0) ∧ (w).frozen? ⟨q, 0, none⟩ = false ∧ ((w).setCell ⟨q, 0, none⟩ v0).cell? ⟨q, 1, none⟩ = some (.int .i64 0) ∧ ((w).setCell ⟨q, 0, none⟩ v0).frozen? ⟨q, 1, none⟩ = false ∧ (((w).setCell ⟨q, 0, none⟩ v0).setCell ⟨q, 1, none⟩ v1).cell? ⟨q, 2, none⟩ = some (.string ⟨#[]⟩) ∧ (((w).setCell ⟨q, 0, none⟩ v0).setCell ⟨q, 1, none⟩ v1).frozen? ⟨q, 2, none⟩ = false ∧ ((((w).setCell ⟨q, 0, none⟩ v0).setCell ⟨q, 1, none⟩ v1).setCell ⟨q, 2, none⟩ v2).cell? ⟨q, 3, none⟩ = some (.string ⟨#[]⟩) ∧ ((((w).setCell ⟨q, 0, none⟩ v0).setCell ⟨q, 1, none⟩ v1).setCell ⟨q, 2, none⟩ v2).frozen? ⟨q, 3, none⟩ = false ∧ (((((w).setCell ⟨q, 0, none⟩ v0).setCell ⟨q, 1, none⟩ v1).setCell ⟨q, 2, none⟩ v2).setCell ⟨q, 3, none⟩ v3).heap[q]? = some (.cells #[v0, v1, v2, v3] 90 (0, 0)) := by
  have h1 := blk_set h 0 v0
  have h2 := blk_set h1 1 v1
  have h3 := blk_set h2 2 v2
  have h4 := blk_set h3 3 v3
  exact ⟨(blk_cell h 0).trans rfl, blk_frozen h 0, (blk_cell h1 1).trans rfl, blk_frozen h1 1, (blk_cell h2 2).trans rfl, blk_frozen h2 2, (blk_cell h3 3).trans rfl, blk_frozen h3 3, h4⟩
theorem grown_set_far {w w1 : World} {row : Option Nat} {q j : Nat} {v : Value} (h : w.grownBy w1 row) (hq : w.heap.size ≤ q) : w.grownBy (w1.setCell ⟨q, j, none⟩ v) row :=
  ⟨h.os, h.tape, h.output, Nat.le_trans h.size (Nat.le_of_eq (by simp [World.setCell])), fun i hi hne => (Below.heap_setCell w1 ⟨q, j, none⟩ v i (Nat.ne_of_lt (Nat.lt_of_lt_of_le hi hq))).trans (h.block i hi hne)⟩
theorem nb90 {v0 v1 v2 v3 : Value} (h0 : ∀ x, v0 ≠ .int .u8 x) (h1 : ∀ x, v1 ≠ .int .u8 x) (h2 : ∀ x, v2 ≠ .int .u8 x) (h3 : ∀ x, v3 ≠ .int .u8 x) : ∀ (i : Nat) (x : Int), (#[v0, v1, v2, v3] : Array Value)[i]? ≠ some (Value.int .u8 x)
  | 0, x, h => h0 x (Option.some.inj h)
  | 1, x, h => h1 x (Option.some.inj h)
  | 2, x, h => h2 x (Option.some.inj h)
  | 3, x, h => h3 x (Option.some.inj h)
  | (n + 4), x, h => by simp at h
theorem Rdr.put90 {w : World} {p q j : Nat} {f : Bool} {cs : Array Value} {v : Value} (h : Rdr w p f) (hq : w.heap[q]? = some (.cells cs 90 (0, 0))) (hne : q ≠ p) (hcs : ∀ (i : Nat) (x : Int), cs[i]? ≠ some (Value.int .u8 x)) : Rdr (w.setCell ⟨q, j, none⟩ v) p f := by
  obtain ⟨A, xs, c, hb3, hC3, hc3, hf3, hx3⟩ := h
  refine ⟨A, xs, c, (Below.heap_setCell w ⟨q, j, none⟩ v p (fun e => hne e.symm)).trans hb3, ?_, hc3, hf3, hx3⟩
  refine Kd.C_keep 0 hC3 (keep_grown (grown_set w q j v)) (fun ad he hp e => ?_)
  subst he
  obtain ⟨ad1, x, e1, hx⟩ := u8_first hC3 hp
  obtain rfl := Option.some.inj e1
  unfold World.cell? at hx
  rw [e, hq] at hx
  simp only at hx
  split at hx
  · cases hx
  · exact hcs _ _ hx
theorem Rdr.put4 {w : World} {p q : Nat} {f : Bool} {a b : Int} {s u : ByteArray} (h : Rdr w p f) (hq : w.heap[q]? = some (.cells #[.int .i64 0, .int .i64 0, .string ⟨#[]⟩, .string ⟨#[]⟩] 90 (0, 0))) (hne : q ≠ p) :
    Rdr ((((w.setCell ⟨q, 0, none⟩ (.int .i64 a)).setCell ⟨q, 1, none⟩ (.int .i64 b)).setCell ⟨q, 2, none⟩ (.string s)).setCell ⟨q, 3, none⟩ (.string u)) p f := by
  have b1 := blk_set hq 0 (.int .i64 a)
  have b2 := blk_set b1 1 (.int .i64 b)
  have b3 := blk_set b2 2 (.string s)
  have n0 := nb90 (v0 := .int .i64 0) (v1 := .int .i64 0) (v2 := .string ⟨#[]⟩) (v3 := .string ⟨#[]⟩) (fun x e => by cases e) (fun x e => by cases e) (fun x e => by cases e) (fun x e => by cases e)
  have n1 := nb90 (v0 := .int .i64 a) (v1 := .int .i64 0) (v2 := .string ⟨#[]⟩) (v3 := .string ⟨#[]⟩) (fun x e => by cases e) (fun x e => by cases e) (fun x e => by cases e) (fun x e => by cases e)
  have n2 := nb90 (v0 := .int .i64 a) (v1 := .int .i64 b) (v2 := .string ⟨#[]⟩) (v3 := .string ⟨#[]⟩) (fun x e => by cases e) (fun x e => by cases e) (fun x e => by cases e) (fun x e => by cases e)
  have n3 := nb90 (v0 := .int .i64 a) (v1 := .int .i64 b) (v2 := .string s) (v3 := .string ⟨#[]⟩) (fun x e => by cases e) (fun x e => by cases e) (fun x e => by cases e) (fun x e => by cases e)
  exact (((h.put90 hq hne n0).put90 b1 hne n1).put90 b2 hne n2).put90 b3 hne n3
theorem below_of_grown {w w1 : World} {p : Nat} (h : w.grownBy w1 (some p)) (hp : w.heap.size ≤ p) : Below w.heap.size w w1 :=
  ⟨h.os, h.tape, h.output, h.size, fun k hk => h.block k hk (fun e => by injection e with e; omega)⟩
set_option maxHeartbeats 4000000 in
theorem Get23_any (xs : List Int) (A : Option Addr) (c : Nat) (W : World) (hC : (Kd.int .u8).C W A xs.length xs) (hc : xs.length ≤ c) (hx : xs.length ≤ 140737488351232) : Calls Tryz.prog 116 #[.slice A xs.length c] W (GotE W) := by
  have HCO := fun w (h : Below W.heap.size W w) => Lib.hid (copy_any xs A c w (Kd.C_below hC h) hc hx)
  clear hC
  go_enter Tryz.func116, Tryz.ntmps116
  go_wp2_with fail
  have hb1 : Below W.heap.size W (W.alloc (.cells #[.int .i64 0, .int .i64 0, .string ⟨#[]⟩, .string ⟨#[]⟩] 90 (0, 0))) := below_alloc (Below.refl _ _) _
  have hy1 := new_blk W (.cells #[.int .i64 0, .int .i64 0, .string ⟨#[]⟩, .string ⟨#[]⟩] 90 (0, 0))
  generalize W.alloc (.cells #[.int .i64 0, .int .i64 0, .string ⟨#[]⟩, .string ⟨#[]⟩] 90 (0, 0)) = W1 at *
  refine (HCO _ hb1).out.mono ?_
  rintro e w2 ⟨A', c', rfl, hl', hC', hb2⟩
  have hb12 := below_tr hb1 hb2
  have hy2 := (hb2.block W.heap.size (blk_lt hy1)).trans hy1
  have hp := blk_lt hy2
  have hb3 := below_alloc (Below.refl w2.heap.size w2) (.cells #[.slice A' xs.length c', .bool false] 196 (0, 0))
  have hr3 : Rdr (w2.alloc (.cells #[.slice A' xs.length c', .bool false] 196 (0, 0))) w2.heap.size false := ⟨A', xs, c', new_blk w2 _, Kd.C_below hC' hb3, hl', Kd.far_C 0 hC' (Nat.le_refl _), hx⟩
  have hy3 := (hb3.block W.heap.size hp).trans hy2
  have hb13 := below_tr hb12 hb3
  have HT := Lib.hid (take_any w2.heap.size 1 false _ hr3)
  have HY3 := Lib.hid hy3
  have HB13 := Lib.hid hb13
  have HP := Lib.hid hp
  clear hb1 hy1 hb2 hb12 hy2 hb3 hr3 hy3 hb13 hl' hC' hp HCO
  go_wp2_with fail
  refine HT.out.mono ?_
  rintro e w4 ⟨A4, c4, ys4, f4, rfl, hl4, hC4, hf4, hr4, hn4, hg4, hy4⟩
  have hne : W.heap.size ≠ w2.heap.size := Nat.ne_of_lt HP.out
  have hsz : (w2.alloc (.cells #[.slice A' xs.length c', .bool false] 196 (0, 0))).heap.size = w2.heap.size + 1 := by show (w2.heap.push _).size = _; rw [Array.size_push]
  have HY4 := Lib.hid ((hg4.block W.heap.size (by rw [hsz]; have := HP.out; omega) (fun e => hne (Option.some.inj e))).trans HY3.out)
  obtain ⟨vb, hb4⟩ := hr4.blk
  have HG4 := Lib.hid (show W.grownBy w4 (some w2.heap.size) from grown_tr (grown_below HB13.out) hg4)
  have HPS := Lib.hid (show w2.heap.size < w4.heap.size from blk_lt hb4)
  have HP2 := Lib.hid hsz
  generalize w2.heap.size = p at *
  clear hsz hg4
  have q1 : w4.cell? ⟨p, 1, none⟩ = some (.bool f4) := (blk_cell hb4 1).trans rfl
  cases f4
  · have hy : ys4.length = 1 := by have := hn4 rfl; omega
    obtain ⟨ad, x, rfl, hx0⟩ := u8_first hC4 (by omega)
    have hadp : ad.block ≠ p := by have := hf4 ad rfl (by omega); rw [HP2.out] at this; omega
    rw [hy]
    have HCNT := fun w' (h : w'.cell? ad = some (.int .u8 x) ∧ Aside0 (∃ f, Rdr w' p f) ∧ Aside0 (w4.grownBy w' (some p))) => Lib.hid (h.2.1.out.elim fun f hr => count_any_ p f 1099511627776 (by omega) w' hr)
    have HKEEP := Lib.hid (show ∀ w1 w2 : World, (w1.cell? ad = some (.int .u8 x) ∧ Aside0 (∃ f, Rdr w1 p f) ∧ Aside0 (w4.grownBy w1 (some p))) → (∃ f, Rdr w2 p f) → w1.grownBy w2 (some p) → (w2.cell? ad = some (.int .u8 x) ∧ Aside0 (∃ f, Rdr w2 p f) ∧ Aside0 (w4.grownBy w2 (some p))) from
      fun w1 w2 h hr hg => ⟨keep_cell (keep_grown hg) h.1 hadp, ⟨hr⟩, ⟨grown_tr h.2.2.out hg⟩⟩)
    have HS0 := Lib.hid (show (w4.drew.cell? ad = some (.int .u8 x) ∧ Aside0 (∃ f, Rdr w4.drew p f) ∧ Aside0 (w4.grownBy w4.drew (some p))) from ⟨hx0, ⟨⟨false, hr4⟩⟩, ⟨⟨rfl, rfl, rfl, Nat.le_refl _, fun _ _ _ => rfl⟩⟩⟩)
    have HKALL := Lib.hid (show ∀ (w1 : World) (o : Obj), (w1.cell? ad = some (.int .u8 x) ∧ Aside0 (∃ f, Rdr w1 p f) ∧ Aside0 (w4.grownBy w1 (some p))) → ((w1.alloc o).cell? ad = some (.int .u8 x) ∧ Aside0 (∃ f, Rdr (w1.alloc o) p f) ∧ Aside0 (w4.grownBy (w1.alloc o) (some p))) from fun w1 o h => ⟨keep_cell (keep_grown (grown_below (below_alloc (Below.refl _ _) o))) h.1 hadp, ⟨h.2.1.out.elim fun f hr => ⟨f, hr.below (below_alloc (Below.refl _ _) o)⟩⟩, ⟨grown_tr h.2.2.out (grown_below (below_alloc (Below.refl _ _) o))⟩⟩)
    clear hC4 hf4 hn4 hr4 hl4
    have hne' : W.heap.size ≠ p := hne
    have hpn : p ≠ w4.heap.size := Nat.ne_of_lt HPS.out
    have HSTW := Lib.hid (show ∀ (w5 : World) (v : Int), (w4.alloc (.cells #[.int .i64 0, .int .i64 0, .string ⟨#[]⟩, .string ⟨#[]⟩] 90 (0, 0))).drew.grownBy w5 (some p) → (w5).cell? ⟨w4.heap.size, 0, none⟩ = some (.int .i64 0) ∧ (w5).frozen? ⟨w4.heap.size, 0, none⟩ = false ∧ ((w5).setCell ⟨w4.heap.size, 0, none⟩ (.int .i64 (IntKind.i64.wrap x))).cell? ⟨w4.heap.size, 1, none⟩ = some (.int .i64 0) ∧ ((w5).setCell ⟨w4.heap.size, 0, none⟩ (.int .i64 (IntKind.i64.wrap x))).frozen? ⟨w4.heap.size, 1, none⟩ = false ∧ (((w5).setCell ⟨w4.heap.size, 0, none⟩ (.int .i64 (IntKind.i64.wrap x))).setCell ⟨w4.heap.size, 1, none⟩ (.int .i64 v)).cell? ⟨w4.heap.size, 2, none⟩ = some (.string ⟨#[]⟩) ∧ (((w5).setCell ⟨w4.heap.size, 0, none⟩ (.int .i64 (IntKind.i64.wrap x))).setCell ⟨w4.heap.size, 1, none⟩ (.int .i64 v)).frozen? ⟨w4.heap.size, 2, none⟩ = false ∧ ((((w5).setCell ⟨w4.heap.size, 0, none⟩ (.int .i64 (IntKind.i64.wrap x))).setCell ⟨w4.heap.size, 1, none⟩ (.int .i64 v)).setCell ⟨w4.heap.size, 2, none⟩ (.string ⟨#[]⟩)).cell? ⟨w4.heap.size, 3, none⟩ = some (.string ⟨#[]⟩) ∧ ((((w5).setCell ⟨w4.heap.size, 0, none⟩ (.int .i64 (IntKind.i64.wrap x))).setCell ⟨w4.heap.size, 1, none⟩ (.int .i64 v)).setCell ⟨w4.heap.size, 2, none⟩ (.string ⟨#[]⟩)).frozen? ⟨w4.heap.size, 3, none⟩ = false ∧ (((((w5).setCell ⟨w4.heap.size, 0, none⟩ (.int .i64 (IntKind.i64.wrap x))).setCell ⟨w4.heap.size, 1, none⟩ (.int .i64 v)).setCell ⟨w4.heap.size, 2, none⟩ (.string ⟨#[]⟩)).setCell ⟨w4.heap.size, 3, none⟩ (.string ⟨#[]⟩)).heap[w4.heap.size]? = some (.cells #[.int .i64 (IntKind.i64.wrap x), .int .i64 v, .string ⟨#[]⟩, .string ⟨#[]⟩] 90 (0, 0)) from fun w5 v hg => store90_facts _ _ _ _ ((hg.block w4.heap.size (by show w4.heap.size < (w4.heap.push _).size; rw [Array.size_push]; omega) (fun e => hpn (Option.some.inj e).symm)).trans (new_blk w4 (.cells #[.int .i64 0, .int .i64 0, .string ⟨#[]⟩, .string ⟨#[]⟩] 90 (0, 0)))))
    have HS1 := Lib.hid (show ((w4.alloc (.cells #[.int .i64 0, .int .i64 0, .string ⟨#[]⟩, .string ⟨#[]⟩] 90 (0, 0))).drew.cell? ad = some (.int .u8 x) ∧ Aside0 (∃ f, Rdr (w4.alloc (.cells #[.int .i64 0, .int .i64 0, .string ⟨#[]⟩, .string ⟨#[]⟩] 90 (0, 0))).drew p f) ∧ Aside0 (w4.grownBy (w4.alloc (.cells #[.int .i64 0, .int .i64 0, .string ⟨#[]⟩, .string ⟨#[]⟩] 90 (0, 0))).drew (some p))) from HKALL.out w4.drew (.cells #[.int .i64 0, .int .i64 0, .string ⟨#[]⟩, .string ⟨#[]⟩] 90 (0, 0)) HS0.out)
    have hadq : ad.block ≠ w4.heap.size := Nat.ne_of_lt (World.block_lt_of_cell? w4 ad hx0)
    have HSET := Lib.hid (show ∀ (w5 : World) (v : Int), (w5.cell? ad = some (.int .u8 x) ∧ Aside0 (∃ f, Rdr w5 p f) ∧ Aside0 (w4.grownBy w5 (some p))) → (w4.alloc (.cells #[.int .i64 0, .int .i64 0, .string ⟨#[]⟩, .string ⟨#[]⟩] 90 (0, 0))).drew.grownBy w5 (some p) → (((((w5.setCell ⟨w4.heap.size, 0, none⟩ (.int .i64 (IntKind.i64.wrap x))).setCell ⟨w4.heap.size, 1, none⟩ (.int .i64 v)).setCell ⟨w4.heap.size, 2, none⟩ (.string ⟨#[]⟩)).setCell ⟨w4.heap.size, 3, none⟩ (.string ⟨#[]⟩)).cell? ad = some (.int .u8 x) ∧ Aside0 (∃ f, Rdr ((((w5.setCell ⟨w4.heap.size, 0, none⟩ (.int .i64 (IntKind.i64.wrap x))).setCell ⟨w4.heap.size, 1, none⟩ (.int .i64 v)).setCell ⟨w4.heap.size, 2, none⟩ (.string ⟨#[]⟩)).setCell ⟨w4.heap.size, 3, none⟩ (.string ⟨#[]⟩)) p f) ∧ Aside0 (w4.grownBy ((((w5.setCell ⟨w4.heap.size, 0, none⟩ (.int .i64 (IntKind.i64.wrap x))).setCell ⟨w4.heap.size, 1, none⟩ (.int .i64 v)).setCell ⟨w4.heap.size, 2, none⟩ (.string ⟨#[]⟩)).setCell ⟨w4.heap.size, 3, none⟩ (.string ⟨#[]⟩)) (some p))) from fun w5 v h hg => by
      have hq := (hg.block w4.heap.size (by show w4.heap.size < (w4.heap.push _).size; rw [Array.size_push]; omega) (fun e => hpn (Option.some.inj e).symm)).trans (new_blk w4 (.cells #[.int .i64 0, .int .i64 0, .string ⟨#[]⟩, .string ⟨#[]⟩] 90 (0, 0)))
      refine ⟨?_, ⟨h.2.1.out.elim fun f hr => ⟨f, hr.put4 hq (fun e => hpn e.symm)⟩⟩, ⟨grown_set_far (grown_set_far (grown_set_far (grown_set_far h.2.2.out (Nat.le_refl _)) (Nat.le_refl _)) (Nat.le_refl _)) (Nat.le_refl _)⟩⟩
      exact keep_cell (keep_grown (grown_set _ _ _ _)) (keep_cell (keep_grown (grown_set _ _ _ _)) (keep_cell (keep_grown (grown_set _ _ _ _)) (keep_cell (keep_grown (grown_set _ _ _ _)) h.1 hadq) hadq) hadq) hadq)
    go_wp2_with fail
    go_region_held3 (fun w' => w'.cell? ad = some (.int .u8 x) ∧ Aside0 (∃ f, Rdr w' p f) ∧ Aside0 (w4.grownBy w' (some p))) (first | assumption | with_reducible exact HS0.out | with_reducible exact HS1.out | with_reducible exact HKALL.out _ _ HS0.out | with_reducible exact HKALL.out _ _ HS5.out | with_reducible exact HS6.out | with_reducible exact HKEEP.out _ _ (by assumption) ⟨_, hr5⟩ hg5) (first | (go_at_call 143; refine (HCNT _ (by assumption)).out.mono ?_; rintro e w5 ⟨v, f5, rfl, h1, h2, hr5, hg5⟩; have HS5 := Lib.hid (HKEEP.out _ _ (by assumption) ⟨_, hr5⟩ hg5); try (obtain ⟨u0, uf0, u1, uf1, u2, uf2, u3, uf3, uE⟩ := HSTW.out w5 v (by with_reducible exact hg5); have HUE := Lib.hid uE; have HS6 := Lib.hid (HSET.out w5 v HS5.out (by with_reducible exact hg5)); clear uE)))
    · have hr6_ := Lib.hid (HKALL.out _ (.cells #[.int .i64 (IntKind.i64.wrap x), .int .i64 v, .string ⟨#[]⟩, .string ⟨#[]⟩] 90 (0, 0)) HS5.out).2.1.out
      have HG6 := Lib.hid (show W.grownBy (w5.alloc (.cells #[.int .i64 (IntKind.i64.wrap x), .int .i64 v, .string ⟨#[]⟩, .string ⟨#[]⟩] 90 (0, 0))) (some p) from grown_tr HG4.out (HKALL.out _ (.cells #[.int .i64 (IntKind.i64.wrap x), .int .i64 v, .string ⟨#[]⟩, .string ⟨#[]⟩] 90 (0, 0)) HS5.out).2.2.out)
      have HQ6 := Lib.hid (show (w5.alloc (.cells #[.int .i64 (IntKind.i64.wrap x), .int .i64 v, .string ⟨#[]⟩, .string ⟨#[]⟩] 90 (0, 0))).heap[w5.heap.size]? = some (.cells #[.int .i64 (IntKind.i64.wrap x), .int .i64 v, .string ⟨#[]⟩, .string ⟨#[]⟩] 90 (0, 0)) from new_blk w5 _)
      have HY6 := Lib.hid (show (w5.alloc (.cells #[.int .i64 (IntKind.i64.wrap x), .int .i64 v, .string ⟨#[]⟩, .string ⟨#[]⟩] 90 (0, 0))).heap[W.heap.size]? = some (.cells #[.int .i64 0, .int .i64 0, .string ⟨#[]⟩, .string ⟨#[]⟩] 90 (0, 0)) from (((HKALL.out _ (.cells #[.int .i64 (IntKind.i64.wrap x), .int .i64 v, .string ⟨#[]⟩, .string ⟨#[]⟩] 90 (0, 0)) HS5.out).2.2.out).block W.heap.size (blk_lt HY4.out) (fun e => hne' (Option.some.inj e))).trans HY4.out)
      have hqb : w5.heap.size ≠ W.heap.size := fun e => by have h1 := HS5.out.2.2.out.size; have h2 := blk_lt HY4.out; omega
      have hqW : W.heap.size ≤ w5.heap.size := by have h1 := HS5.out.2.2.out.size; have h2 := blk_lt HY4.out; omega
      have hqp : w5.heap.size ≠ p := fun e => by have h1 := HS5.out.2.2.out.size; have h2 := HPS.out; omega
      have hbp : W.heap.size ≠ p := hne'
      obtain ⟨f6, hr6⟩ := hr6_.out
      generalize w5.alloc (.cells #[.int .i64 (IntKind.i64.wrap x), .int .i64 v, .string ⟨#[]⟩, .string ⟨#[]⟩] 90 (0, 0)) = W6 at *
      generalize w5.heap.size = q at *
      generalize IntKind.i64.wrap x = a at *
      have HT6 := Lib.hid (text_any_ p f6 16 (by omega) W6 hr6)
      clear hr6
      go_wp2_with fail
      refine HT6.out.mono ?_
      rintro e w7 ⟨A7, c7, ys7, f7, rfl, hl7, hC7, hr7, hg7, hy7⟩
      have hcv := Kd.C_string (P := Tryz.prog) (dst := 9) (c := c7) Tryz.underlying49 Tryz.underlying5 Tryz.underlying9 hC7
      have hz7 : (strOfNums ys7).size ≤ 140737488351232 := by rw [strOfNums_size]; exact hy7
      have hq7 := (hg7.block q (blk_lt HQ6.out) (fun e => hqp (Option.some.inj e))).trans HQ6.out
      have g7 : w7.cell? ⟨q, 2, none⟩ = some (.string ⟨#[]⟩) := (blk_cell hq7 2).trans rfl
      have gf7 := blk_frozen hq7 2
      have HQ8 := Lib.hid (show (w7.setCell ⟨q, 2, none⟩ (.string (strOfNums ys7))).heap[q]? = some (.cells #[.int .i64 a, .int .i64 v, .string (strOfNums ys7), .string ⟨#[]⟩] 90 (0, 0)) from blk_set hq7 2 _)
      have HR8 := Lib.hid (hr7.put90 (j := 2) (v := .string (strOfNums ys7)) hq7 hqp (nb90 (v0 := .int .i64 a) (v1 := .int .i64 v) (v2 := .string ⟨#[]⟩) (v3 := .string ⟨#[]⟩) (fun x e => by cases e) (fun x e => by cases e) (fun x e => by cases e) (fun x e => by cases e)))
      have HY8 := Lib.hid (show (w7.setCell ⟨q, 2, none⟩ (.string (strOfNums ys7))).heap[W.heap.size]? = some (.cells #[.int .i64 0, .int .i64 0, .string ⟨#[]⟩, .string ⟨#[]⟩] 90 (0, 0)) from (Below.heap_setCell w7 ⟨q, 2, none⟩ _ W.heap.size (fun e => hqb e.symm)).trans ((hg7.block W.heap.size (blk_lt HY6.out) (fun e => hbp (Option.some.inj e))).trans HY6.out))
      have HW8 := Lib.hid (show W.grownBy (w7.setCell ⟨q, 2, none⟩ (.string (strOfNums ys7))) (some p) from grown_set_far (grown_tr HG6.out hg7) hqW)
      generalize strOfNums ys7 = s7 at *
      clear hC7 hr7 hg7 hq7 hl7
      have HT8 := Lib.hid (text_any_ p f7 16 (by omega) _ HR8.out)
      go_wp2_with fail
      refine HT8.out.mono ?_
      rintro e w9 ⟨A9, c9, ys9, f9, rfl, hl9, hC9, hr9, hg9, hy9⟩
      have hcv9 := Kd.C_string (P := Tryz.prog) (dst := 9) (c := c9) Tryz.underlying49 Tryz.underlying5 Tryz.underlying9 hC9
      have hz9 : (strOfNums ys9).size ≤ 140737488351232 := by rw [strOfNums_size]; exact hy9
      have hq9 := (hg9.block q (blk_lt HQ8.out) (fun e => hqp (Option.some.inj e))).trans HQ8.out
      have g9 : w9.cell? ⟨q, 3, none⟩ = some (.string ⟨#[]⟩) := (blk_cell hq9 3).trans rfl
      have gf9 := blk_frozen hq9 3
      have HQ10 := Lib.hid (show (w9.setCell ⟨q, 3, none⟩ (.string (strOfNums ys9))).heap[q]? = some (.cells #[.int .i64 a, .int .i64 v, .string s7, .string (strOfNums ys9)] 90 (0, 0)) from blk_set hq9 3 _)
      have HR10 := Lib.hid (hr9.put90 (j := 3) (v := .string (strOfNums ys9)) hq9 hqp (nb90 (v0 := .int .i64 a) (v1 := .int .i64 v) (v2 := .string s7) (v3 := .string ⟨#[]⟩) (fun x e => by cases e) (fun x e => by cases e) (fun x e => by cases e) (fun x e => by cases e)))
      have HY10 := Lib.hid (show (w9.setCell ⟨q, 3, none⟩ (.string (strOfNums ys9))).heap[W.heap.size]? = some (.cells #[.int .i64 0, .int .i64 0, .string ⟨#[]⟩, .string ⟨#[]⟩] 90 (0, 0)) from (Below.heap_setCell w9 ⟨q, 3, none⟩ _ W.heap.size (fun e => hqb e.symm)).trans ((hg9.block W.heap.size (blk_lt HY8.out) (fun e => hbp (Option.some.inj e))).trans HY8.out))
      have HW10 := Lib.hid (show W.grownBy (w9.setCell ⟨q, 3, none⟩ (.string (strOfNums ys9))) (some p) from grown_set_far (grown_tr HW8.out hg9) hqW)
      generalize strOfNums ys9 = s9 at *
      clear hC9 hr9 hg9 hq9 hl9
      obtain ⟨A10, xs10, c10, hb10, hC10, hc10, _, _⟩ := HR10.out
      have p0 : (w9.setCell ⟨q, 3, none⟩ (.string s9)).cell? ⟨p, 0, none⟩ = some (.slice A10 xs10.length c10) := (blk_cell hb10 0).trans rfl
      have p1 : (w9.setCell ⟨q, 3, none⟩ (.string s9)).cell? ⟨p, 1, none⟩ = some (.bool f9) := (blk_cell hb10 1).trans rfl
      have t0 : (w9.setCell ⟨q, 3, none⟩ (.string s9)).cell? ⟨q, 0, none⟩ = some (.int .i64 a) := (blk_cell HQ10.out 0).trans rfl
      have t1 : (w9.setCell ⟨q, 3, none⟩ (.string s9)).cell? ⟨q, 1, none⟩ = some (.int .i64 v) := (blk_cell HQ10.out 1).trans rfl
      have t2 : (w9.setCell ⟨q, 3, none⟩ (.string s9)).cell? ⟨q, 2, none⟩ = some (.string s7) := (blk_cell HQ10.out 2).trans rfl
      have t3 : (w9.setCell ⟨q, 3, none⟩ (.string s9)).cell? ⟨q, 3, none⟩ = some (.string s9) := (blk_cell HQ10.out 3).trans rfl
      clear hb10 hC10 hc10
      have HBW := Lib.hid (show Below W.heap.size W (w9.setCell ⟨q, 3, none⟩ (.string s9)) from below_of_grown HW10.out (Nat.le_of_lt HP.out))
      cases f9
      rotate_left
      · skip
        have k0 : (w9.setCell ⟨q, 3, none⟩ (.string s9)).cell? ⟨W.heap.size, 0, none⟩ = some (.int .i64 0) := (blk_cell HY10.out 0).trans rfl
        have kf0 := blk_frozen HY10.out 0
        have kb0 := Lib.hid (blk_set HY10.out 0 (.int .i64 0))
        have k1 : ((w9.setCell ⟨q, 3, none⟩ (.string s9)).setCell ⟨W.heap.size, 0, none⟩ (.int .i64 0)).cell? ⟨W.heap.size, 1, none⟩ = some (.int .i64 0) := (blk_cell kb0.out 1).trans rfl
        have kf1 := blk_frozen kb0.out 1
        have kb1 := Lib.hid (blk_set kb0.out 1 (.int .i64 0))
        have k2 : (((w9.setCell ⟨q, 3, none⟩ (.string s9)).setCell ⟨W.heap.size, 0, none⟩ (.int .i64 0)).setCell ⟨W.heap.size, 1, none⟩ (.int .i64 0)).cell? ⟨W.heap.size, 2, none⟩ = some (.string ⟨#[]⟩) := (blk_cell kb1.out 2).trans rfl
        have kf2 := blk_frozen kb1.out 2
        have kb2 := Lib.hid (blk_set kb1.out 2 (.string ⟨#[]⟩))
        have k3 : ((((w9.setCell ⟨q, 3, none⟩ (.string s9)).setCell ⟨W.heap.size, 0, none⟩ (.int .i64 0)).setCell ⟨W.heap.size, 1, none⟩ (.int .i64 0)).setCell ⟨W.heap.size, 2, none⟩ (.string ⟨#[]⟩)).cell? ⟨W.heap.size, 3, none⟩ = some (.string ⟨#[]⟩) := (blk_cell kb2.out 3).trans rfl
        have kf3 := blk_frozen kb2.out 3
        have kb3 := Lib.hid (blk_set kb2.out 3 (.string ⟨#[]⟩))
        go_wp2
        refine bodyPost_ret (results4_tmp (p := 2) (u := 3) (by kernel_rfl) _ _ W.heap.size _ rfl kb3.out rfl) rfl ?_
        exact ⟨0, 0, 2, ⟨#[]⟩, ⟨#[]⟩, rfl, Nat.zero_le _, Nat.zero_le _, (below_set (j := 3) (v := .string ⟨#[]⟩) (below_set (j := 2) (v := .string ⟨#[]⟩) (below_set (j := 1) (v := .int .i64 0) (below_set (j := 0) (v := .int .i64 0) HBW.out (Nat.le_refl _)) (Nat.le_refl _)) (Nat.le_refl _)) (Nat.le_refl _))⟩
      by_cases hl0' : 0 < xs10.length
      · have hl0 : (0 : Int) < (xs10.length : Int) := by omega
        have k0 : (w9.setCell ⟨q, 3, none⟩ (.string s9)).cell? ⟨W.heap.size, 0, none⟩ = some (.int .i64 0) := (blk_cell HY10.out 0).trans rfl
        have kf0 := blk_frozen HY10.out 0
        have kb0 := Lib.hid (blk_set HY10.out 0 (.int .i64 0))
        have k1 : ((w9.setCell ⟨q, 3, none⟩ (.string s9)).setCell ⟨W.heap.size, 0, none⟩ (.int .i64 0)).cell? ⟨W.heap.size, 1, none⟩ = some (.int .i64 0) := (blk_cell kb0.out 1).trans rfl
        have kf1 := blk_frozen kb0.out 1
        have kb1 := Lib.hid (blk_set kb0.out 1 (.int .i64 0))
        have k2 : (((w9.setCell ⟨q, 3, none⟩ (.string s9)).setCell ⟨W.heap.size, 0, none⟩ (.int .i64 0)).setCell ⟨W.heap.size, 1, none⟩ (.int .i64 0)).cell? ⟨W.heap.size, 2, none⟩ = some (.string ⟨#[]⟩) := (blk_cell kb1.out 2).trans rfl
        have kf2 := blk_frozen kb1.out 2
        have kb2 := Lib.hid (blk_set kb1.out 2 (.string ⟨#[]⟩))
        have k3 : ((((w9.setCell ⟨q, 3, none⟩ (.string s9)).setCell ⟨W.heap.size, 0, none⟩ (.int .i64 0)).setCell ⟨W.heap.size, 1, none⟩ (.int .i64 0)).setCell ⟨W.heap.size, 2, none⟩ (.string ⟨#[]⟩)).cell? ⟨W.heap.size, 3, none⟩ = some (.string ⟨#[]⟩) := (blk_cell kb2.out 3).trans rfl
        have kf3 := blk_frozen kb2.out 3
        have kb3 := Lib.hid (blk_set kb2.out 3 (.string ⟨#[]⟩))
        go_wp2
        refine bodyPost_ret (results4_tmp (p := 2) (u := 3) (by kernel_rfl) _ _ W.heap.size _ rfl kb3.out rfl) rfl ?_
        exact ⟨0, 0, 2, ⟨#[]⟩, ⟨#[]⟩, rfl, Nat.zero_le _, Nat.zero_le _, (below_set (j := 3) (v := .string ⟨#[]⟩) (below_set (j := 2) (v := .string ⟨#[]⟩) (below_set (j := 1) (v := .int .i64 0) (below_set (j := 0) (v := .int .i64 0) HBW.out (Nat.le_refl _)) (Nat.le_refl _)) (Nat.le_refl _)) (Nat.le_refl _))⟩
      · have hl0 : ¬ (0 : Int) < (xs10.length : Int) := by omega
        have HM := Lib.hid (May23_any a v s7 s9 hz7 hz9 (w9.setCell ⟨q, 3, none⟩ (.string s9)))
        go_wp2_with fail
        refine HM.out.mono ?_
        rintro e w11 ⟨b, rfl, hb⟩
        have HY11 := Lib.hid ((hb.block W.heap.size (blk_lt HY10.out)).trans HY10.out)
        have HQ11 := Lib.hid ((hb.block q (blk_lt HQ10.out)).trans HQ10.out)
        have HBW11 := Lib.hid (below_tr HBW.out hb)
        clear hb p0 p1 t0 t1 t2 t3
        have t0 : w11.cell? ⟨q, 0, none⟩ = some (.int .i64 a) := (blk_cell HQ11.out 0).trans rfl
        have t1 : w11.cell? ⟨q, 1, none⟩ = some (.int .i64 v) := (blk_cell HQ11.out 1).trans rfl
        have t2 : w11.cell? ⟨q, 2, none⟩ = some (.string s7) := (blk_cell HQ11.out 2).trans rfl
        have t3 : w11.cell? ⟨q, 3, none⟩ = some (.string s9) := (blk_cell HQ11.out 3).trans rfl
        cases b
        · skip
          have k0 : (w11).cell? ⟨W.heap.size, 0, none⟩ = some (.int .i64 0) := (blk_cell HY11.out 0).trans rfl
          have kf0 := blk_frozen HY11.out 0
          have kb0 := Lib.hid (blk_set HY11.out 0 (.int .i64 0))
          have k1 : ((w11).setCell ⟨W.heap.size, 0, none⟩ (.int .i64 0)).cell? ⟨W.heap.size, 1, none⟩ = some (.int .i64 0) := (blk_cell kb0.out 1).trans rfl
          have kf1 := blk_frozen kb0.out 1
          have kb1 := Lib.hid (blk_set kb0.out 1 (.int .i64 0))
          have k2 : (((w11).setCell ⟨W.heap.size, 0, none⟩ (.int .i64 0)).setCell ⟨W.heap.size, 1, none⟩ (.int .i64 0)).cell? ⟨W.heap.size, 2, none⟩ = some (.string ⟨#[]⟩) := (blk_cell kb1.out 2).trans rfl
          have kf2 := blk_frozen kb1.out 2
          have kb2 := Lib.hid (blk_set kb1.out 2 (.string ⟨#[]⟩))
          have k3 : ((((w11).setCell ⟨W.heap.size, 0, none⟩ (.int .i64 0)).setCell ⟨W.heap.size, 1, none⟩ (.int .i64 0)).setCell ⟨W.heap.size, 2, none⟩ (.string ⟨#[]⟩)).cell? ⟨W.heap.size, 3, none⟩ = some (.string ⟨#[]⟩) := (blk_cell kb2.out 3).trans rfl
          have kf3 := blk_frozen kb2.out 3
          have kb3 := Lib.hid (blk_set kb2.out 3 (.string ⟨#[]⟩))
          go_wp2
          refine bodyPost_ret (results4_tmp (p := 2) (u := 3) (by kernel_rfl) _ _ W.heap.size _ rfl kb3.out rfl) rfl ?_
          exact ⟨0, 0, 2, ⟨#[]⟩, ⟨#[]⟩, rfl, Nat.zero_le _, Nat.zero_le _, (below_set (j := 3) (v := .string ⟨#[]⟩) (below_set (j := 2) (v := .string ⟨#[]⟩) (below_set (j := 1) (v := .int .i64 0) (below_set (j := 0) (v := .int .i64 0) HBW11.out (Nat.le_refl _)) (Nat.le_refl _)) (Nat.le_refl _)) (Nat.le_refl _))⟩
        · skip
          have k0 : (w11).cell? ⟨W.heap.size, 0, none⟩ = some (.int .i64 0) := (blk_cell HY11.out 0).trans rfl
          have kf0 := blk_frozen HY11.out 0
          have kb0 := Lib.hid (blk_set HY11.out 0 (.int .i64 a))
          have k1 : ((w11).setCell ⟨W.heap.size, 0, none⟩ (.int .i64 a)).cell? ⟨W.heap.size, 1, none⟩ = some (.int .i64 0) := (blk_cell kb0.out 1).trans rfl
          have kf1 := blk_frozen kb0.out 1
          have kb1 := Lib.hid (blk_set kb0.out 1 (.int .i64 v))
          have k2 : (((w11).setCell ⟨W.heap.size, 0, none⟩ (.int .i64 a)).setCell ⟨W.heap.size, 1, none⟩ (.int .i64 v)).cell? ⟨W.heap.size, 2, none⟩ = some (.string ⟨#[]⟩) := (blk_cell kb1.out 2).trans rfl
          have kf2 := blk_frozen kb1.out 2
          have kb2 := Lib.hid (blk_set kb1.out 2 (.string s7))
          have k3 : ((((w11).setCell ⟨W.heap.size, 0, none⟩ (.int .i64 a)).setCell ⟨W.heap.size, 1, none⟩ (.int .i64 v)).setCell ⟨W.heap.size, 2, none⟩ (.string s7)).cell? ⟨W.heap.size, 3, none⟩ = some (.string ⟨#[]⟩) := (blk_cell kb2.out 3).trans rfl
          have kf3 := blk_frozen kb2.out 3
          have kb3 := Lib.hid (blk_set kb2.out 3 (.string s9))
          go_wp2
          refine bodyPost_ret (results4_tmp (p := 2) (u := 3) (by kernel_rfl) _ _ W.heap.size _ rfl kb3.out rfl) rfl ?_
          exact ⟨a, v, 0, s7, s9, rfl, hz7, hz9, (below_set (j := 3) (v := .string s9) (below_set (j := 2) (v := .string s7) (below_set (j := 1) (v := .int .i64 v) (below_set (j := 0) (v := .int .i64 a) HBW11.out (Nat.le_refl _)) (Nat.le_refl _)) (Nat.le_refl _)) (Nat.le_refl _))⟩
    · have hr6_ := Lib.hid (HS6.out).2.1.out
      have HG6 := Lib.hid (show W.grownBy (((((w5.setCell ⟨w4.heap.size, 0, none⟩ (.int .i64 (IntKind.i64.wrap x))).setCell ⟨w4.heap.size, 1, none⟩ (.int .i64 v)).setCell ⟨w4.heap.size, 2, none⟩ (.string ⟨#[]⟩)).setCell ⟨w4.heap.size, 3, none⟩ (.string ⟨#[]⟩))) (some p) from grown_tr HG4.out (HS6.out).2.2.out)
      have HQ6 := Lib.hid (show (((((w5.setCell ⟨w4.heap.size, 0, none⟩ (.int .i64 (IntKind.i64.wrap x))).setCell ⟨w4.heap.size, 1, none⟩ (.int .i64 v)).setCell ⟨w4.heap.size, 2, none⟩ (.string ⟨#[]⟩)).setCell ⟨w4.heap.size, 3, none⟩ (.string ⟨#[]⟩))).heap[w4.heap.size]? = some (.cells #[.int .i64 (IntKind.i64.wrap x), .int .i64 v, .string ⟨#[]⟩, .string ⟨#[]⟩] 90 (0, 0)) from HUE.out)
      have HY6 := Lib.hid (show (((((w5.setCell ⟨w4.heap.size, 0, none⟩ (.int .i64 (IntKind.i64.wrap x))).setCell ⟨w4.heap.size, 1, none⟩ (.int .i64 v)).setCell ⟨w4.heap.size, 2, none⟩ (.string ⟨#[]⟩)).setCell ⟨w4.heap.size, 3, none⟩ (.string ⟨#[]⟩))).heap[W.heap.size]? = some (.cells #[.int .i64 0, .int .i64 0, .string ⟨#[]⟩, .string ⟨#[]⟩] 90 (0, 0)) from (((HS6.out).2.2.out).block W.heap.size (blk_lt HY4.out) (fun e => hne' (Option.some.inj e))).trans HY4.out)
      have hqb : w4.heap.size ≠ W.heap.size := fun e => by have h2 := blk_lt HY4.out; omega
      have hqW : W.heap.size ≤ w4.heap.size := by have h2 := blk_lt HY4.out; omega
      have hqp : w4.heap.size ≠ p := fun e => by have h2 := HPS.out; omega
      have hbp : W.heap.size ≠ p := hne'
      obtain ⟨f6, hr6⟩ := hr6_.out
      generalize ((((w5.setCell ⟨w4.heap.size, 0, none⟩ (.int .i64 (IntKind.i64.wrap x))).setCell ⟨w4.heap.size, 1, none⟩ (.int .i64 v)).setCell ⟨w4.heap.size, 2, none⟩ (.string ⟨#[]⟩)).setCell ⟨w4.heap.size, 3, none⟩ (.string ⟨#[]⟩)) = W6 at *
      generalize w4.heap.size = q at *
      generalize IntKind.i64.wrap x = a at *
      have HT6 := Lib.hid (text_any_ p f6 16 (by omega) W6 hr6)
      clear hr6
      go_wp2_with fail
      refine HT6.out.mono ?_
      rintro e w7 ⟨A7, c7, ys7, f7, rfl, hl7, hC7, hr7, hg7, hy7⟩
      have hcv := Kd.C_string (P := Tryz.prog) (dst := 9) (c := c7) Tryz.underlying49 Tryz.underlying5 Tryz.underlying9 hC7
      have hz7 : (strOfNums ys7).size ≤ 140737488351232 := by rw [strOfNums_size]; exact hy7
      have hq7 := (hg7.block q (blk_lt HQ6.out) (fun e => hqp (Option.some.inj e))).trans HQ6.out
      have g7 : w7.cell? ⟨q, 2, none⟩ = some (.string ⟨#[]⟩) := (blk_cell hq7 2).trans rfl
      have gf7 := blk_frozen hq7 2
      have HQ8 := Lib.hid (show (w7.setCell ⟨q, 2, none⟩ (.string (strOfNums ys7))).heap[q]? = some (.cells #[.int .i64 a, .int .i64 v, .string (strOfNums ys7), .string ⟨#[]⟩] 90 (0, 0)) from blk_set hq7 2 _)
      have HR8 := Lib.hid (hr7.put90 (j := 2) (v := .string (strOfNums ys7)) hq7 hqp (nb90 (v0 := .int .i64 a) (v1 := .int .i64 v) (v2 := .string ⟨#[]⟩) (v3 := .string ⟨#[]⟩) (fun x e => by cases e) (fun x e => by cases e) (fun x e => by cases e) (fun x e => by cases e)))
      have HY8 := Lib.hid (show (w7.setCell ⟨q, 2, none⟩ (.string (strOfNums ys7))).heap[W.heap.size]? = some (.cells #[.int .i64 0, .int .i64 0, .string ⟨#[]⟩, .string ⟨#[]⟩] 90 (0, 0)) from (Below.heap_setCell w7 ⟨q, 2, none⟩ _ W.heap.size (fun e => hqb e.symm)).trans ((hg7.block W.heap.size (blk_lt HY6.out) (fun e => hbp (Option.some.inj e))).trans HY6.out))
      have HW8 := Lib.hid (show W.grownBy (w7.setCell ⟨q, 2, none⟩ (.string (strOfNums ys7))) (some p) from grown_set_far (grown_tr HG6.out hg7) hqW)
      generalize strOfNums ys7 = s7 at *
      clear hC7 hr7 hg7 hq7 hl7
      have HT8 := Lib.hid (text_any_ p f7 16 (by omega) _ HR8.out)
      go_wp2_with fail
      refine HT8.out.mono ?_
      rintro e w9 ⟨A9, c9, ys9, f9, rfl, hl9, hC9, hr9, hg9, hy9⟩
      have hcv9 := Kd.C_string (P := Tryz.prog) (dst := 9) (c := c9) Tryz.underlying49 Tryz.underlying5 Tryz.underlying9 hC9
      have hz9 : (strOfNums ys9).size ≤ 140737488351232 := by rw [strOfNums_size]; exact hy9
      have hq9 := (hg9.block q (blk_lt HQ8.out) (fun e => hqp (Option.some.inj e))).trans HQ8.out
      have g9 : w9.cell? ⟨q, 3, none⟩ = some (.string ⟨#[]⟩) := (blk_cell hq9 3).trans rfl
      have gf9 := blk_frozen hq9 3
      have HQ10 := Lib.hid (show (w9.setCell ⟨q, 3, none⟩ (.string (strOfNums ys9))).heap[q]? = some (.cells #[.int .i64 a, .int .i64 v, .string s7, .string (strOfNums ys9)] 90 (0, 0)) from blk_set hq9 3 _)
      have HR10 := Lib.hid (hr9.put90 (j := 3) (v := .string (strOfNums ys9)) hq9 hqp (nb90 (v0 := .int .i64 a) (v1 := .int .i64 v) (v2 := .string s7) (v3 := .string ⟨#[]⟩) (fun x e => by cases e) (fun x e => by cases e) (fun x e => by cases e) (fun x e => by cases e)))
      have HY10 := Lib.hid (show (w9.setCell ⟨q, 3, none⟩ (.string (strOfNums ys9))).heap[W.heap.size]? = some (.cells #[.int .i64 0, .int .i64 0, .string ⟨#[]⟩, .string ⟨#[]⟩] 90 (0, 0)) from (Below.heap_setCell w9 ⟨q, 3, none⟩ _ W.heap.size (fun e => hqb e.symm)).trans ((hg9.block W.heap.size (blk_lt HY8.out) (fun e => hbp (Option.some.inj e))).trans HY8.out))
      have HW10 := Lib.hid (show W.grownBy (w9.setCell ⟨q, 3, none⟩ (.string (strOfNums ys9))) (some p) from grown_set_far (grown_tr HW8.out hg9) hqW)
      generalize strOfNums ys9 = s9 at *
      clear hC9 hr9 hg9 hq9 hl9
      obtain ⟨A10, xs10, c10, hb10, hC10, hc10, _, _⟩ := HR10.out
      have p0 : (w9.setCell ⟨q, 3, none⟩ (.string s9)).cell? ⟨p, 0, none⟩ = some (.slice A10 xs10.length c10) := (blk_cell hb10 0).trans rfl
      have p1 : (w9.setCell ⟨q, 3, none⟩ (.string s9)).cell? ⟨p, 1, none⟩ = some (.bool f9) := (blk_cell hb10 1).trans rfl
      have t0 : (w9.setCell ⟨q, 3, none⟩ (.string s9)).cell? ⟨q, 0, none⟩ = some (.int .i64 a) := (blk_cell HQ10.out 0).trans rfl
      have t1 : (w9.setCell ⟨q, 3, none⟩ (.string s9)).cell? ⟨q, 1, none⟩ = some (.int .i64 v) := (blk_cell HQ10.out 1).trans rfl
      have t2 : (w9.setCell ⟨q, 3, none⟩ (.string s9)).cell? ⟨q, 2, none⟩ = some (.string s7) := (blk_cell HQ10.out 2).trans rfl
      have t3 : (w9.setCell ⟨q, 3, none⟩ (.string s9)).cell? ⟨q, 3, none⟩ = some (.string s9) := (blk_cell HQ10.out 3).trans rfl
      clear hb10 hC10 hc10
      have HBW := Lib.hid (show Below W.heap.size W (w9.setCell ⟨q, 3, none⟩ (.string s9)) from below_of_grown HW10.out (Nat.le_of_lt HP.out))
      cases f9
      rotate_left
      · skip
        have k0 : (w9.setCell ⟨q, 3, none⟩ (.string s9)).cell? ⟨W.heap.size, 0, none⟩ = some (.int .i64 0) := (blk_cell HY10.out 0).trans rfl
        have kf0 := blk_frozen HY10.out 0
        have kb0 := Lib.hid (blk_set HY10.out 0 (.int .i64 0))
        have k1 : ((w9.setCell ⟨q, 3, none⟩ (.string s9)).setCell ⟨W.heap.size, 0, none⟩ (.int .i64 0)).cell? ⟨W.heap.size, 1, none⟩ = some (.int .i64 0) := (blk_cell kb0.out 1).trans rfl
        have kf1 := blk_frozen kb0.out 1
        have kb1 := Lib.hid (blk_set kb0.out 1 (.int .i64 0))
        have k2 : (((w9.setCell ⟨q, 3, none⟩ (.string s9)).setCell ⟨W.heap.size, 0, none⟩ (.int .i64 0)).setCell ⟨W.heap.size, 1, none⟩ (.int .i64 0)).cell? ⟨W.heap.size, 2, none⟩ = some (.string ⟨#[]⟩) := (blk_cell kb1.out 2).trans rfl
        have kf2 := blk_frozen kb1.out 2
        have kb2 := Lib.hid (blk_set kb1.out 2 (.string ⟨#[]⟩))
        have k3 : ((((w9.setCell ⟨q, 3, none⟩ (.string s9)).setCell ⟨W.heap.size, 0, none⟩ (.int .i64 0)).setCell ⟨W.heap.size, 1, none⟩ (.int .i64 0)).setCell ⟨W.heap.size, 2, none⟩ (.string ⟨#[]⟩)).cell? ⟨W.heap.size, 3, none⟩ = some (.string ⟨#[]⟩) := (blk_cell kb2.out 3).trans rfl
        have kf3 := blk_frozen kb2.out 3
        have kb3 := Lib.hid (blk_set kb2.out 3 (.string ⟨#[]⟩))
        go_wp2
        refine bodyPost_ret (results4_tmp (p := 2) (u := 3) (by kernel_rfl) _ _ W.heap.size _ rfl kb3.out rfl) rfl ?_
        exact ⟨0, 0, 2, ⟨#[]⟩, ⟨#[]⟩, rfl, Nat.zero_le _, Nat.zero_le _, (below_set (j := 3) (v := .string ⟨#[]⟩) (below_set (j := 2) (v := .string ⟨#[]⟩) (below_set (j := 1) (v := .int .i64 0) (below_set (j := 0) (v := .int .i64 0) HBW.out (Nat.le_refl _)) (Nat.le_refl _)) (Nat.le_refl _)) (Nat.le_refl _))⟩
      by_cases hl0' : 0 < xs10.length
      · have hl0 : (0 : Int) < (xs10.length : Int) := by omega
        have k0 : (w9.setCell ⟨q, 3, none⟩ (.string s9)).cell? ⟨W.heap.size, 0, none⟩ = some (.int .i64 0) := (blk_cell HY10.out 0).trans rfl
        have kf0 := blk_frozen HY10.out 0
        have kb0 := Lib.hid (blk_set HY10.out 0 (.int .i64 0))
        have k1 : ((w9.setCell ⟨q, 3, none⟩ (.string s9)).setCell ⟨W.heap.size, 0, none⟩ (.int .i64 0)).cell? ⟨W.heap.size, 1, none⟩ = some (.int .i64 0) := (blk_cell kb0.out 1).trans rfl
        have kf1 := blk_frozen kb0.out 1
        have kb1 := Lib.hid (blk_set kb0.out 1 (.int .i64 0))
        have k2 : (((w9.setCell ⟨q, 3, none⟩ (.string s9)).setCell ⟨W.heap.size, 0, none⟩ (.int .i64 0)).setCell ⟨W.heap.size, 1, none⟩ (.int .i64 0)).cell? ⟨W.heap.size, 2, none⟩ = some (.string ⟨#[]⟩) := (blk_cell kb1.out 2).trans rfl
        have kf2 := blk_frozen kb1.out 2
        have kb2 := Lib.hid (blk_set kb1.out 2 (.string ⟨#[]⟩))
        have k3 : ((((w9.setCell ⟨q, 3, none⟩ (.string s9)).setCell ⟨W.heap.size, 0, none⟩ (.int .i64 0)).setCell ⟨W.heap.size, 1, none⟩ (.int .i64 0)).setCell ⟨W.heap.size, 2, none⟩ (.string ⟨#[]⟩)).cell? ⟨W.heap.size, 3, none⟩ = some (.string ⟨#[]⟩) := (blk_cell kb2.out 3).trans rfl
        have kf3 := blk_frozen kb2.out 3
        have kb3 := Lib.hid (blk_set kb2.out 3 (.string ⟨#[]⟩))
        go_wp2
        refine bodyPost_ret (results4_tmp (p := 2) (u := 3) (by kernel_rfl) _ _ W.heap.size _ rfl kb3.out rfl) rfl ?_
        exact ⟨0, 0, 2, ⟨#[]⟩, ⟨#[]⟩, rfl, Nat.zero_le _, Nat.zero_le _, (below_set (j := 3) (v := .string ⟨#[]⟩) (below_set (j := 2) (v := .string ⟨#[]⟩) (below_set (j := 1) (v := .int .i64 0) (below_set (j := 0) (v := .int .i64 0) HBW.out (Nat.le_refl _)) (Nat.le_refl _)) (Nat.le_refl _)) (Nat.le_refl _))⟩
      · have hl0 : ¬ (0 : Int) < (xs10.length : Int) := by omega
        have HM := Lib.hid (May23_any a v s7 s9 hz7 hz9 (w9.setCell ⟨q, 3, none⟩ (.string s9)))
        go_wp2_with fail
        refine HM.out.mono ?_
        rintro e w11 ⟨b, rfl, hb⟩
        have HY11 := Lib.hid ((hb.block W.heap.size (blk_lt HY10.out)).trans HY10.out)
        have HQ11 := Lib.hid ((hb.block q (blk_lt HQ10.out)).trans HQ10.out)
        have HBW11 := Lib.hid (below_tr HBW.out hb)
        clear hb p0 p1 t0 t1 t2 t3
        have t0 : w11.cell? ⟨q, 0, none⟩ = some (.int .i64 a) := (blk_cell HQ11.out 0).trans rfl
        have t1 : w11.cell? ⟨q, 1, none⟩ = some (.int .i64 v) := (blk_cell HQ11.out 1).trans rfl
        have t2 : w11.cell? ⟨q, 2, none⟩ = some (.string s7) := (blk_cell HQ11.out 2).trans rfl
        have t3 : w11.cell? ⟨q, 3, none⟩ = some (.string s9) := (blk_cell HQ11.out 3).trans rfl
        cases b
        · skip
          have k0 : (w11).cell? ⟨W.heap.size, 0, none⟩ = some (.int .i64 0) := (blk_cell HY11.out 0).trans rfl
          have kf0 := blk_frozen HY11.out 0
          have kb0 := Lib.hid (blk_set HY11.out 0 (.int .i64 0))
          have k1 : ((w11).setCell ⟨W.heap.size, 0, none⟩ (.int .i64 0)).cell? ⟨W.heap.size, 1, none⟩ = some (.int .i64 0) := (blk_cell kb0.out 1).trans rfl
          have kf1 := blk_frozen kb0.out 1
          have kb1 := Lib.hid (blk_set kb0.out 1 (.int .i64 0))
          have k2 : (((w11).setCell ⟨W.heap.size, 0, none⟩ (.int .i64 0)).setCell ⟨W.heap.size, 1, none⟩ (.int .i64 0)).cell? ⟨W.heap.size, 2, none⟩ = some (.string ⟨#[]⟩) := (blk_cell kb1.out 2).trans rfl
          have kf2 := blk_frozen kb1.out 2
          have kb2 := Lib.hid (blk_set kb1.out 2 (.string ⟨#[]⟩))
          have k3 : ((((w11).setCell ⟨W.heap.size, 0, none⟩ (.int .i64 0)).setCell ⟨W.heap.size, 1, none⟩ (.int .i64 0)).setCell ⟨W.heap.size, 2, none⟩ (.string ⟨#[]⟩)).cell? ⟨W.heap.size, 3, none⟩ = some (.string ⟨#[]⟩) := (blk_cell kb2.out 3).trans rfl
          have kf3 := blk_frozen kb2.out 3
          have kb3 := Lib.hid (blk_set kb2.out 3 (.string ⟨#[]⟩))
          go_wp2
          refine bodyPost_ret (results4_tmp (p := 2) (u := 3) (by kernel_rfl) _ _ W.heap.size _ rfl kb3.out rfl) rfl ?_
          exact ⟨0, 0, 2, ⟨#[]⟩, ⟨#[]⟩, rfl, Nat.zero_le _, Nat.zero_le _, (below_set (j := 3) (v := .string ⟨#[]⟩) (below_set (j := 2) (v := .string ⟨#[]⟩) (below_set (j := 1) (v := .int .i64 0) (below_set (j := 0) (v := .int .i64 0) HBW11.out (Nat.le_refl _)) (Nat.le_refl _)) (Nat.le_refl _)) (Nat.le_refl _))⟩
        · skip
          have k0 : (w11).cell? ⟨W.heap.size, 0, none⟩ = some (.int .i64 0) := (blk_cell HY11.out 0).trans rfl
          have kf0 := blk_frozen HY11.out 0
          have kb0 := Lib.hid (blk_set HY11.out 0 (.int .i64 a))
          have k1 : ((w11).setCell ⟨W.heap.size, 0, none⟩ (.int .i64 a)).cell? ⟨W.heap.size, 1, none⟩ = some (.int .i64 0) := (blk_cell kb0.out 1).trans rfl
          have kf1 := blk_frozen kb0.out 1
          have kb1 := Lib.hid (blk_set kb0.out 1 (.int .i64 v))
          have k2 : (((w11).setCell ⟨W.heap.size, 0, none⟩ (.int .i64 a)).setCell ⟨W.heap.size, 1, none⟩ (.int .i64 v)).cell? ⟨W.heap.size, 2, none⟩ = some (.string ⟨#[]⟩) := (blk_cell kb1.out 2).trans rfl
          have kf2 := blk_frozen kb1.out 2
          have kb2 := Lib.hid (blk_set kb1.out 2 (.string s7))
          have k3 : ((((w11).setCell ⟨W.heap.size, 0, none⟩ (.int .i64 a)).setCell ⟨W.heap.size, 1, none⟩ (.int .i64 v)).setCell ⟨W.heap.size, 2, none⟩ (.string s7)).cell? ⟨W.heap.size, 3, none⟩ = some (.string ⟨#[]⟩) := (blk_cell kb2.out 3).trans rfl
          have kf3 := blk_frozen kb2.out 3
          have kb3 := Lib.hid (blk_set kb2.out 3 (.string s9))
          go_wp2
          refine bodyPost_ret (results4_tmp (p := 2) (u := 3) (by kernel_rfl) _ _ W.heap.size _ rfl kb3.out rfl) rfl ?_
          exact ⟨a, v, 0, s7, s9, rfl, hz7, hz9, (below_set (j := 3) (v := .string s9) (below_set (j := 2) (v := .string s7) (below_set (j := 1) (v := .int .i64 v) (below_set (j := 0) (v := .int .i64 a) HBW11.out (Nat.le_refl _)) (Nat.le_refl _)) (Nat.le_refl _)) (Nat.le_refl _))⟩
  · have y0 : (w4).cell? ⟨W.heap.size, 0, none⟩ = some (.int .i64 0) := (blk_cell HY4.out 0).trans rfl
    have yf0 := blk_frozen HY4.out 0
    have yb0 := Lib.hid (blk_set HY4.out 0 (.int .i64 0))
    have y1 : ((w4).setCell ⟨W.heap.size, 0, none⟩ (.int .i64 0)).cell? ⟨W.heap.size, 1, none⟩ = some (.int .i64 0) := (blk_cell yb0.out 1).trans rfl
    have yf1 := blk_frozen yb0.out 1
    have yb1 := Lib.hid (blk_set yb0.out 1 (.int .i64 0))
    have y2 : (((w4).setCell ⟨W.heap.size, 0, none⟩ (.int .i64 0)).setCell ⟨W.heap.size, 1, none⟩ (.int .i64 0)).cell? ⟨W.heap.size, 2, none⟩ = some (.string ⟨#[]⟩) := (blk_cell yb1.out 2).trans rfl
    have yf2 := blk_frozen yb1.out 2
    have yb2 := Lib.hid (blk_set yb1.out 2 (.string ⟨#[]⟩))
    have y3 : ((((w4).setCell ⟨W.heap.size, 0, none⟩ (.int .i64 0)).setCell ⟨W.heap.size, 1, none⟩ (.int .i64 0)).setCell ⟨W.heap.size, 2, none⟩ (.string ⟨#[]⟩)).cell? ⟨W.heap.size, 3, none⟩ = some (.string ⟨#[]⟩) := (blk_cell yb2.out 3).trans rfl
    have yf3 := blk_frozen yb2.out 3
    have yb3 := Lib.hid (blk_set yb2.out 3 (.string ⟨#[]⟩))
    have e0 : (((((w4).setCell ⟨W.heap.size, 0, none⟩ (.int .i64 0)).setCell ⟨W.heap.size, 1, none⟩ (.int .i64 0)).setCell ⟨W.heap.size, 2, none⟩ (.string ⟨#[]⟩)).setCell ⟨W.heap.size, 3, none⟩ (.string ⟨#[]⟩)).cell? ⟨W.heap.size, 0, none⟩ = some (.int .i64 0) := (blk_cell yb3.out 0).trans rfl
    have e1 : (((((w4).setCell ⟨W.heap.size, 0, none⟩ (.int .i64 0)).setCell ⟨W.heap.size, 1, none⟩ (.int .i64 0)).setCell ⟨W.heap.size, 2, none⟩ (.string ⟨#[]⟩)).setCell ⟨W.heap.size, 3, none⟩ (.string ⟨#[]⟩)).cell? ⟨W.heap.size, 1, none⟩ = some (.int .i64 0) := (blk_cell yb3.out 1).trans rfl
    have e2 : (((((w4).setCell ⟨W.heap.size, 0, none⟩ (.int .i64 0)).setCell ⟨W.heap.size, 1, none⟩ (.int .i64 0)).setCell ⟨W.heap.size, 2, none⟩ (.string ⟨#[]⟩)).setCell ⟨W.heap.size, 3, none⟩ (.string ⟨#[]⟩)).cell? ⟨W.heap.size, 2, none⟩ = some (.string ⟨#[]⟩) := (blk_cell yb3.out 2).trans rfl
    have e3 : (((((w4).setCell ⟨W.heap.size, 0, none⟩ (.int .i64 0)).setCell ⟨W.heap.size, 1, none⟩ (.int .i64 0)).setCell ⟨W.heap.size, 2, none⟩ (.string ⟨#[]⟩)).setCell ⟨W.heap.size, 3, none⟩ (.string ⟨#[]⟩)).cell? ⟨W.heap.size, 3, none⟩ = some (.string ⟨#[]⟩) := (blk_cell yb3.out 3).trans rfl
    have HBF := Lib.hid (below_set (j := 3) (v := .string ⟨#[]⟩) (below_set (j := 2) (v := .string ⟨#[]⟩) (below_set (j := 1) (v := .int .i64 0) (below_set (j := 0) (v := .int .i64 0) (below_of_grown HG4.out (Nat.le_of_lt HP.out)) (Nat.le_refl _)) (Nat.le_refl _)) (Nat.le_refl _)) (Nat.le_refl _))
    go_wp2
    refine bodyPost_ret (results4_tmp (p := 2) (u := 3) (by kernel_rfl) _ _ W.heap.size _ rfl yb3.out rfl) rfl ?_
    exact ⟨0, 0, 2, ⟨#[]⟩, ⟨#[]⟩, rfl, Nat.zero_le _, Nat.zero_le _, HBF.out⟩
end Go.Proofs.YtafigkikblpbnaaGreat.PG
namespace Go.Proofs.YtafigkikblpbnaaGreat.PG
open Go.RowKit Go.Proofs.YtafigkikblpbnaaGreatW.PrintWords Go.Proofs.YtafigkikblpbnaaGreatW.PrintLast Go.Proofs.YtafigkikblpbnaaGreatW.PrintMore
set_option linter.unusedVariables false
set_option linter.unusedSimpArgs false
set_option maxRecDepth 100000

/-- It answers an event and a truth value; nothing that was there is turned. -/
def GotB (w : World) (e : Ending) (w' : World) : Prop :=
  ∃ (a b : Int) (s u : ByteArray) (r : Bool), e = .returned (.tuple #[.agg #[.int .i64 a, .int .i64 b, .string s, .string u], .bool r]) ∧ s.size ≤ 140737488351232 ∧ u.size ≤ 140737488351232 ∧ Below w.heap.size w w'
set_option maxHeartbeats 4000000 in
theorem Event25_any (x : S61) (A : Option Addr) (c : Nat) (W : World) (hC : (Kd.int .u8).C W A x.f3.length x.f3) (hc : x.f3.length ≤ c) (hx : x.f3.length ≤ 140737488351232) (hz : x.f0.size ≤ 140737488351232) : Calls Tryz.prog 75 #[.agg #[.string x.f0, .int .i64 x.f1, .int .u64 x.f2, .slice A x.f3.length c]] W (GotB W) := by
  have hbA := below_alloc (Below.refl W.heap.size W) (.cells #[.string x.f0, .int .i64 x.f1, .int .u64 x.f2, .slice A x.f3.length c] 61 (0, 0))
  have hbB := below_alloc hbA (.cells #[.int .i64 0, .int .i64 0, .string ⟨#[]⟩, .string ⟨#[]⟩] 90 (0, 0))
  have hyA := (Below.block (below_alloc (Below.refl _ (W.alloc (.cells #[.string x.f0, .int .i64 x.f1, .int .u64 x.f2, .slice A x.f3.length c] 61 (0, 0)))) (.cells #[.int .i64 0, .int .i64 0, .string ⟨#[]⟩, .string ⟨#[]⟩] 90 (0, 0))) W.heap.size (blk_lt (new_blk W (.cells #[.string x.f0, .int .i64 x.f1, .int .u64 x.f2, .slice A x.f3.length c] 61 (0, 0))))).trans (new_blk W (.cells #[.string x.f0, .int .i64 x.f1, .int .u64 x.f2, .slice A x.f3.length c] 61 (0, 0)))
  have hsz : (W.alloc (.cells #[.string x.f0, .int .i64 x.f1, .int .u64 x.f2, .slice A x.f3.length c] 61 (0, 0))).heap.size = W.heap.size + 1 := by show (W.heap.push _).size = _; rw [Array.size_push]
  have hyB := new_blk (W.alloc (.cells #[.string x.f0, .int .i64 x.f1, .int .u64 x.f2, .slice A x.f3.length c] 61 (0, 0))) (.cells #[.int .i64 0, .int .i64 0, .string ⟨#[]⟩, .string ⟨#[]⟩] 90 (0, 0))
  rw [hsz] at hyB
  have HG := Lib.hid (Get23_any x.f3 A c ((W.alloc (.cells #[.string x.f0, .int .i64 x.f1, .int .u64 x.f2, .slice A x.f3.length c] 61 (0, 0))).alloc (.cells #[.int .i64 0, .int .i64 0, .string ⟨#[]⟩, .string ⟨#[]⟩] 90 (0, 0))) (Kd.C_below hC hbB) hc hx)
  have hr0 : W.heap.size ≤ W.heap.size + 1 := Nat.le_succ _
  have q3 : ((W.alloc (.cells #[.string x.f0, .int .i64 x.f1, .int .u64 x.f2, .slice A x.f3.length c] 61 (0, 0))).alloc (.cells #[.int .i64 0, .int .i64 0, .string ⟨#[]⟩, .string ⟨#[]⟩] 90 (0, 0))).cell? ⟨W.heap.size, 3, none⟩ = some (.slice A x.f3.length c) := (blk_cell hyA 3).trans rfl
  have HBB := Lib.hid hbB
  have HYA := Lib.hid hyA
  have HYB := Lib.hid hyB
  have HR0 := Lib.hid hr0
  clear hC hbA hbB hyA hyB hr0 hsz
  go_enter Tryz.func75, Tryz.ntmps75
  go_wp2_with fail
  refine HG.out.mono ?_
  generalize ((W.alloc (.cells #[.string x.f0, .int .i64 x.f1, .int .u64 x.f2, .slice A x.f3.length c] 61 (0, 0))).alloc (.cells #[.int .i64 0, .int .i64 0, .string ⟨#[]⟩, .string ⟨#[]⟩] 90 (0, 0))) = W1 at *
  generalize W.heap.size + 1 = r0 at *
  rintro e w2 ⟨a, b, r, s, u, rfl, hs, hu, hb⟩
  have hb3 := below_tr hb (below_alloc (Below.refl w2.heap.size w2) (.cells #[.int .i64 a, .int .i64 b, .string s, .string u] 90 (0, 0)))
  have HY3 := Lib.hid ((hb3.block W.heap.size (blk_lt HYA.out)).trans HYA.out)
  have HZ3 := Lib.hid ((hb3.block r0 (blk_lt HYB.out)).trans HYB.out)
  have HE3 := Lib.hid (new_blk w2 (.cells #[.int .i64 a, .int .i64 b, .string s, .string u] 90 (0, 0)))
  have HB3 := Lib.hid (below_tr HBB.out hb3)
  clear hb hb3 q3
  by_cases h0 : r = 0
  · subst h0
    have HM := Lib.hid (Ends23_any a b s u hs hu (w2.alloc (.cells #[.int .i64 a, .int .i64 b, .string s, .string u] 90 (0, 0))))
    go_wp2_with fail
    refine HM.out.mono ?_
    rintro e w4 ⟨q, rfl, hb⟩
    have HY4 := Lib.hid ((hb.block W.heap.size (blk_lt HY3.out)).trans HY3.out)
    have HZ4 := Lib.hid ((hb.block r0 (blk_lt HZ3.out)).trans HZ3.out)
    have HE4 := Lib.hid ((hb.block w2.heap.size (blk_lt HE3.out)).trans HE3.out)
    have HB4 := Lib.hid (below_tr HB3.out hb)
    clear hb
    have q0 : w4.cell? ⟨W.heap.size, 0, none⟩ = some (.string x.f0) := (blk_cell HY4.out 0).trans rfl
    have t0 : w4.cell? ⟨w2.heap.size, 0, none⟩ = some (.int .i64 a) := (blk_cell HE4.out 0).trans rfl
    have t1 : w4.cell? ⟨w2.heap.size, 1, none⟩ = some (.int .i64 b) := (blk_cell HE4.out 1).trans rfl
    have t2 : w4.cell? ⟨w2.heap.size, 2, none⟩ = some (.string s) := (blk_cell HE4.out 2).trans rfl
    have t3 : w4.cell? ⟨w2.heap.size, 3, none⟩ = some (.string u) := (blk_cell HE4.out 3).trans rfl
    cases q
    · skip
      have k0 : (w4).cell? ⟨r0, 0, none⟩ = some (.int .i64 0) := (blk_cell HZ4.out 0).trans rfl
      have kf0 := blk_frozen HZ4.out 0
      have kb0 := Lib.hid (blk_set HZ4.out 0 (.int .i64 0))
      have k1 : ((w4).setCell ⟨r0, 0, none⟩ (.int .i64 0)).cell? ⟨r0, 1, none⟩ = some (.int .i64 0) := (blk_cell kb0.out 1).trans rfl
      have kf1 := blk_frozen kb0.out 1
      have kb1 := Lib.hid (blk_set kb0.out 1 (.int .i64 0))
      have k2 : (((w4).setCell ⟨r0, 0, none⟩ (.int .i64 0)).setCell ⟨r0, 1, none⟩ (.int .i64 0)).cell? ⟨r0, 2, none⟩ = some (.string ⟨#[]⟩) := (blk_cell kb1.out 2).trans rfl
      have kf2 := blk_frozen kb1.out 2
      have kb2 := Lib.hid (blk_set kb1.out 2 (.string ⟨#[]⟩))
      have k3 : ((((w4).setCell ⟨r0, 0, none⟩ (.int .i64 0)).setCell ⟨r0, 1, none⟩ (.int .i64 0)).setCell ⟨r0, 2, none⟩ (.string ⟨#[]⟩)).cell? ⟨r0, 3, none⟩ = some (.string ⟨#[]⟩) := (blk_cell kb2.out 3).trans rfl
      have kf3 := blk_frozen kb2.out 3
      have kb3 := Lib.hid (blk_set kb2.out 3 (.string ⟨#[]⟩))
      go_wp2
      refine bodyPost_ret (results4_tmp (p := 2) (u := 3) (by kernel_rfl) _ _ r0 _ rfl kb3.out rfl) rfl ?_
      exact ⟨0, 0, ⟨#[]⟩, ⟨#[]⟩, false, rfl, Nat.zero_le _, Nat.zero_le _, (below_set (j := 3) (v := .string ⟨#[]⟩) (below_set (j := 2) (v := .string ⟨#[]⟩) (below_set (j := 1) (v := .int .i64 0) (below_set (j := 0) (v := .int .i64 0) HB4.out HR0.out) HR0.out) HR0.out) HR0.out)⟩
    by_cases hse : s.toList.isEmpty = true
    · skip
      have k0 : (w4).cell? ⟨r0, 0, none⟩ = some (.int .i64 0) := (blk_cell HZ4.out 0).trans rfl
      have kf0 := blk_frozen HZ4.out 0
      have kb0 := Lib.hid (blk_set HZ4.out 0 (.int .i64 0))
      have k1 : ((w4).setCell ⟨r0, 0, none⟩ (.int .i64 0)).cell? ⟨r0, 1, none⟩ = some (.int .i64 0) := (blk_cell kb0.out 1).trans rfl
      have kf1 := blk_frozen kb0.out 1
      have kb1 := Lib.hid (blk_set kb0.out 1 (.int .i64 0))
      have k2 : (((w4).setCell ⟨r0, 0, none⟩ (.int .i64 0)).setCell ⟨r0, 1, none⟩ (.int .i64 0)).cell? ⟨r0, 2, none⟩ = some (.string ⟨#[]⟩) := (blk_cell kb1.out 2).trans rfl
      have kf2 := blk_frozen kb1.out 2
      have kb2 := Lib.hid (blk_set kb1.out 2 (.string ⟨#[]⟩))
      have k3 : ((((w4).setCell ⟨r0, 0, none⟩ (.int .i64 0)).setCell ⟨r0, 1, none⟩ (.int .i64 0)).setCell ⟨r0, 2, none⟩ (.string ⟨#[]⟩)).cell? ⟨r0, 3, none⟩ = some (.string ⟨#[]⟩) := (blk_cell kb2.out 3).trans rfl
      have kf3 := blk_frozen kb2.out 3
      have kb3 := Lib.hid (blk_set kb2.out 3 (.string ⟨#[]⟩))
      go_wp2
      refine bodyPost_ret (results4_tmp (p := 2) (u := 3) (by kernel_rfl) _ _ r0 _ rfl kb3.out rfl) rfl ?_
      exact ⟨0, 0, ⟨#[]⟩, ⟨#[]⟩, false, rfl, Nat.zero_le _, Nat.zero_le _, (below_set (j := 3) (v := .string ⟨#[]⟩) (below_set (j := 2) (v := .string ⟨#[]⟩) (below_set (j := 1) (v := .int .i64 0) (below_set (j := 0) (v := .int .i64 0) HB4.out HR0.out) HR0.out) HR0.out) HR0.out)⟩
    have hse' : s.toList.isEmpty = false := by simpa using hse
    clear hse
    by_cases hsr : s.toList = x.f0.toList
    · have hsr' : (s.toList == x.f0.toList) = true := by simp [hsr]
      have hsr2 : (s.toList != x.f0.toList) = false := by simp [hsr]
      clear hsr
      have k0 : (w4).cell? ⟨r0, 0, none⟩ = some (.int .i64 0) := (blk_cell HZ4.out 0).trans rfl
      have kf0 := blk_frozen HZ4.out 0
      have kb0 := Lib.hid (blk_set HZ4.out 0 (.int .i64 a))
      have k1 : ((w4).setCell ⟨r0, 0, none⟩ (.int .i64 a)).cell? ⟨r0, 1, none⟩ = some (.int .i64 0) := (blk_cell kb0.out 1).trans rfl
      have kf1 := blk_frozen kb0.out 1
      have kb1 := Lib.hid (blk_set kb0.out 1 (.int .i64 b))
      have k2 : (((w4).setCell ⟨r0, 0, none⟩ (.int .i64 a)).setCell ⟨r0, 1, none⟩ (.int .i64 b)).cell? ⟨r0, 2, none⟩ = some (.string ⟨#[]⟩) := (blk_cell kb1.out 2).trans rfl
      have kf2 := blk_frozen kb1.out 2
      have kb2 := Lib.hid (blk_set kb1.out 2 (.string s))
      have k3 : ((((w4).setCell ⟨r0, 0, none⟩ (.int .i64 a)).setCell ⟨r0, 1, none⟩ (.int .i64 b)).setCell ⟨r0, 2, none⟩ (.string s)).cell? ⟨r0, 3, none⟩ = some (.string ⟨#[]⟩) := (blk_cell kb2.out 3).trans rfl
      have kf3 := blk_frozen kb2.out 3
      have kb3 := Lib.hid (blk_set kb2.out 3 (.string u))
      go_wp2
      refine bodyPost_ret (results4_tmp (p := 2) (u := 3) (by kernel_rfl) _ _ r0 _ rfl kb3.out rfl) rfl ?_
      exact ⟨a, b, s, u, true, rfl, hs, hu, (below_set (j := 3) (v := .string u) (below_set (j := 2) (v := .string s) (below_set (j := 1) (v := .int .i64 b) (below_set (j := 0) (v := .int .i64 a) HB4.out HR0.out) HR0.out) HR0.out) HR0.out)⟩
    · have hsr' : (s.toList == x.f0.toList) = false := by simp [hsr]
      have hsr2 : (s.toList != x.f0.toList) = true := by simp [hsr]
      clear hsr
      have k0 : (w4).cell? ⟨r0, 0, none⟩ = some (.int .i64 0) := (blk_cell HZ4.out 0).trans rfl
      have kf0 := blk_frozen HZ4.out 0
      have kb0 := Lib.hid (blk_set HZ4.out 0 (.int .i64 0))
      have k1 : ((w4).setCell ⟨r0, 0, none⟩ (.int .i64 0)).cell? ⟨r0, 1, none⟩ = some (.int .i64 0) := (blk_cell kb0.out 1).trans rfl
      have kf1 := blk_frozen kb0.out 1
      have kb1 := Lib.hid (blk_set kb0.out 1 (.int .i64 0))
      have k2 : (((w4).setCell ⟨r0, 0, none⟩ (.int .i64 0)).setCell ⟨r0, 1, none⟩ (.int .i64 0)).cell? ⟨r0, 2, none⟩ = some (.string ⟨#[]⟩) := (blk_cell kb1.out 2).trans rfl
      have kf2 := blk_frozen kb1.out 2
      have kb2 := Lib.hid (blk_set kb1.out 2 (.string ⟨#[]⟩))
      have k3 : ((((w4).setCell ⟨r0, 0, none⟩ (.int .i64 0)).setCell ⟨r0, 1, none⟩ (.int .i64 0)).setCell ⟨r0, 2, none⟩ (.string ⟨#[]⟩)).cell? ⟨r0, 3, none⟩ = some (.string ⟨#[]⟩) := (blk_cell kb2.out 3).trans rfl
      have kf3 := blk_frozen kb2.out 3
      have kb3 := Lib.hid (blk_set kb2.out 3 (.string ⟨#[]⟩))
      go_wp2
      refine bodyPost_ret (results4_tmp (p := 2) (u := 3) (by kernel_rfl) _ _ r0 _ rfl kb3.out rfl) rfl ?_
      exact ⟨0, 0, ⟨#[]⟩, ⟨#[]⟩, false, rfl, Nat.zero_le _, Nat.zero_le _, (below_set (j := 3) (v := .string ⟨#[]⟩) (below_set (j := 2) (v := .string ⟨#[]⟩) (below_set (j := 1) (v := .int .i64 0) (below_set (j := 0) (v := .int .i64 0) HB4.out HR0.out) HR0.out) HR0.out) HR0.out)⟩
  · skip
    have k0 : ((w2.alloc (.cells #[.int .i64 a, .int .i64 b, .string s, .string u] 90 (0, 0)))).cell? ⟨r0, 0, none⟩ = some (.int .i64 0) := (blk_cell HZ3.out 0).trans rfl
    have kf0 := blk_frozen HZ3.out 0
    have kb0 := Lib.hid (blk_set HZ3.out 0 (.int .i64 0))
    have k1 : (((w2.alloc (.cells #[.int .i64 a, .int .i64 b, .string s, .string u] 90 (0, 0)))).setCell ⟨r0, 0, none⟩ (.int .i64 0)).cell? ⟨r0, 1, none⟩ = some (.int .i64 0) := (blk_cell kb0.out 1).trans rfl
    have kf1 := blk_frozen kb0.out 1
    have kb1 := Lib.hid (blk_set kb0.out 1 (.int .i64 0))
    have k2 : ((((w2.alloc (.cells #[.int .i64 a, .int .i64 b, .string s, .string u] 90 (0, 0)))).setCell ⟨r0, 0, none⟩ (.int .i64 0)).setCell ⟨r0, 1, none⟩ (.int .i64 0)).cell? ⟨r0, 2, none⟩ = some (.string ⟨#[]⟩) := (blk_cell kb1.out 2).trans rfl
    have kf2 := blk_frozen kb1.out 2
    have kb2 := Lib.hid (blk_set kb1.out 2 (.string ⟨#[]⟩))
    have k3 : (((((w2.alloc (.cells #[.int .i64 a, .int .i64 b, .string s, .string u] 90 (0, 0)))).setCell ⟨r0, 0, none⟩ (.int .i64 0)).setCell ⟨r0, 1, none⟩ (.int .i64 0)).setCell ⟨r0, 2, none⟩ (.string ⟨#[]⟩)).cell? ⟨r0, 3, none⟩ = some (.string ⟨#[]⟩) := (blk_cell kb2.out 3).trans rfl
    have kf3 := blk_frozen kb2.out 3
    have kb3 := Lib.hid (blk_set kb2.out 3 (.string ⟨#[]⟩))
    go_wp2
    refine bodyPost_ret (results4_tmp (p := 2) (u := 3) (by kernel_rfl) _ _ r0 _ rfl kb3.out rfl) rfl ?_
    exact ⟨0, 0, ⟨#[]⟩, ⟨#[]⟩, false, rfl, Nat.zero_le _, Nat.zero_le _, (below_set (j := 3) (v := .string ⟨#[]⟩) (below_set (j := 2) (v := .string ⟨#[]⟩) (below_set (j := 1) (v := .int .i64 0) (below_set (j := 0) (v := .int .i64 0) HB3.out HR0.out) HR0.out) HR0.out) HR0.out)⟩
set_option maxHeartbeats 2000000 in
theorem May25_any (x : S61) (A : Option Addr) (c : Nat) (W : World) (hC : (Kd.int .u8).C W A x.f3.length x.f3) (hc : x.f3.length ≤ c) (hx : x.f3.length ≤ 140737488351232) (hz : x.f0.size ≤ 140737488351232) : Calls Tryz.prog 43 #[.agg #[.string x.f0, .int .i64 x.f1, .int .u64 x.f2, .slice A x.f3.length c]] W (RBb W) := by
  have hbA := below_alloc (Below.refl W.heap.size W) (.cells #[.string x.f0, .int .i64 x.f1, .int .u64 x.f2, .slice A x.f3.length c] 61 (0, 0))
  have HYA := Lib.hid (new_blk W (.cells #[.string x.f0, .int .i64 x.f1, .int .u64 x.f2, .slice A x.f3.length c] 61 (0, 0)))
  have HBA := Lib.hid hbA
  have HE := Lib.hid (Event25_any x A c (W.alloc (.cells #[.string x.f0, .int .i64 x.f1, .int .u64 x.f2, .slice A x.f3.length c] 61 (0, 0))) (Kd.C_below hC hbA) hc hx hz)
  clear hC hbA
  go_enter Tryz.func43, Tryz.ntmps43
  go_wp2_with fail
  refine HE.out.mono ?_
  rintro e w2 ⟨a, b, s, u, r, rfl, hs, hu, hb⟩
  have hb3 := below_tr hb (below_alloc (Below.refl w2.heap.size w2) (.cells #[.int .i64 a, .int .i64 b, .string s, .string u] 90 (0, 0)))
  have HY3 := Lib.hid ((hb3.block W.heap.size (blk_lt HYA.out)).trans HYA.out)
  have HB3 := Lib.hid (below_tr HBA.out hb3)
  clear hb hb3
  have q1 : (w2.alloc (.cells #[.int .i64 a, .int .i64 b, .string s, .string u] 90 (0, 0))).cell? ⟨W.heap.size, 1, none⟩ = some (.int .i64 x.f1) := (blk_cell HY3.out 1).trans rfl
  go_wp2
  all_goals (go_ret; exact RBb.mk HB3.out)
end Go.Proofs.YtafigkikblpbnaaGreat.PG
namespace Go.Proofs.YtafigkikblpbnaaGreat.PG
open Go.RowKit Go.Proofs.YtafigkikblpbnaaGreatW.PrintWords Go.Proofs.YtafigkikblpbnaaGreatW.PrintLast Go.Proofs.YtafigkikblpbnaaGreatW.PrintMore
set_option linter.unusedVariables false
set_option linter.unusedSimpArgs false
set_option maxRecDepth 100000

theorem rd_mem134 {l : List S134} {k : Nat} (h : k < l.length) : rd_T134 l (k : Int) ∈ l := by
  have : rd_T134 l (k : Int) = l[k] := by unfold rd_T134; rw [Int.toNat_natCast, List.getD_eq_getElem?_getD, List.getElem?_eq_getElem h]; rfl
  rw [this]; exact List.getElem_mem h
set_option maxHeartbeats 4000000 in
theorem miles_any (l : List S134) (A : Option Addr) (c : Nat) (W : World) (hC : Kd.C k134 W A l.length l) (hl : l.length ≤ c) (hz : ∀ x ∈ l, x.f0.size ≤ 140737488351232) :
    Calls Tryz.prog 37 #[.slice A l.length c] W (RBq (l.length ≤ 8) W) := by
  have HZ := Lib.hid hz
  clear hz
  have hm : l.length ≤ 9223372036854775807 := hC.2.1
  go_enter Tryz.func37, Tryz.ntmps37
  go_wp2
  go_loopw [3] (fun v3 wr => ∃ k : Nat, v3 = .int .i64 k ∧ k ≤ l.length ∧ Aside0 (Below W.heap.size W wr)) (fun v3 _ => l.length - (intOf v3).toNat)
  case atStart => exact ⟨0, rfl, Nat.zero_le _, ⟨Below.refl _ _⟩⟩
  case round =>
    obtain ⟨k, rfl, hk, HB⟩ := hrel
    by_cases hlt : k < l.length
    · have hlt2 : (k : Int) < (l.length : Int) := by omega
      obtain ⟨ad, e, h0, h1⟩ := at_T134 (Kd.C_below hC HB.out) (k : Int) (by omega) (by omega)
      subst e
      simp only [Int.toNat_natCast] at h0 h1
      have HW := fun w => Lib.hid (word_any2 (rd_T134 l (k : Int)).f0 (HZ.out _ (rd_mem134 hlt)) w)
      have HTK := fun w => Lib.hid (tick_any (rd_T134 l (k : Int)).f1 w)
      generalize rd_T134 l (k : Int) = y at *
      go_wp2_with (first | (go_at_call 73; refine (HW _).out.mono ?_; rintro e w2 ⟨b, rfl, hb1, rfl⟩) | (go_at_call 13; refine (HTK _).out.mono ?_; rintro e w3 ⟨b2, rfl, rfl⟩))
      all_goals first
        | (go_ret; exact RBq.no HB.out)
        | skip
      all_goals (go_loopw [4] (fun v4 wp => ∃ j : Nat, v4 = .int .i64 j ∧ j ≤ k ∧ Aside0 (Below W.heap.size W wp)) (fun v4 _ => k - (intOf v4).toNat))
      case atStart => exact ⟨0, rfl, Nat.zero_le _, ⟨HB.out⟩⟩
      case round =>
        obtain ⟨j, rfl, hj, HBP⟩ := hrel
        by_cases hjq : j < k
        · have hjq2 : (j : Int) < (k : Int) := by omega
          have hjl : (j : Int) < (l.length : Int) := by omega
          obtain ⟨ad1, e1, h0', h1'⟩ := at_T134 (Kd.C_below hC HBP.out) (j : Int) (by omega) (by omega)
          obtain ⟨ad2, e2, g0, g1⟩ := at_T134 (Kd.C_below hC HBP.out) (k : Int) (by omega) (by omega)
          injection e1 with e1
          injection e2 with e2
          subst e1
          subst e2
          simp only [Int.toNat_natCast] at h0' h1' g0 g1
          generalize rd_T134 l (j : Int) = y1 at *
          generalize rd_T134 l (k : Int) = z1 at *
          clear h1' g1
          go_wp2_with fail
          go_quiet (fail)
          have HBN := Lib.hid (pw_below_drewN HBP.out nq)
          go_wp2
          all_goals first
            | (go_ret; exact RBq.no HBN.out)
            | (go_roundw
               case rel => exact ⟨j + 1, by go_num, by omega, ⟨HBN.out⟩⟩
               case measure => simp [intOf]; omega)
        · go_wp2
          go_roundw
          case rel => exact ⟨k + 1, by go_num, by omega, ⟨HBP.out⟩⟩
          case measure => simp [intOf]; omega
    · by_cases h8 : l.length ≤ 8
      · have h8' : (l.length : Int) ≤ 8 := by omega
        go_wp2
        go_ret
        exact ⟨true, rfl, fun _ => h8, HB.out⟩
      · have h8' : ¬ (l.length : Int) ≤ 8 := by omega
        go_wp2
        go_ret
        exact RBq.no HB.out
end Go.Proofs.YtafigkikblpbnaaGreat.PG
namespace Go.Proofs.YtafigkikblpbnaaGreat.PG
open Go.RowKit Go.Proofs.YtafigkikblpbnaaGreatW.PrintWords Go.Proofs.YtafigkikblpbnaaGreatW.PrintLast Go.Proofs.YtafigkikblpbnaaGreatW.PrintMore
set_option linter.unusedVariables false
set_option linter.unusedSimpArgs false
set_option maxRecDepth 100000

theorem drop_T59 {l : List S59} {i : Nat} (h : i < l.length) : l.drop i = rd_T59 l (i : Int) :: l.drop (i + 1) := by
  rw [List.drop_eq_getElem_cons h]
  simp [rd_T59, List.getElem?_eq_getElem h, List.getD_eq_getElem?_getD]
/-- Whose name it is. -/
def nm59 (t : ByteArray) (x : S59) : Bool := x.f0.toList == t.toList

theorem drop_T108 {l : List S108} {i : Nat} (h : i < l.length) : l.drop i = rd_T108 l (i : Int) :: l.drop (i + 1) := by
  rw [List.drop_eq_getElem_cons h]
  simp [rd_T108, List.getElem?_eq_getElem h, List.getD_eq_getElem?_getD]
/-- Whose name it is. -/
def nm108 (t : ByteArray) (x : S108) : Bool := x.f0.toList == t.toList

theorem drop_T73 {l : List S73} {i : Nat} (h : i < l.length) : l.drop i = rd_T73 l (i : Int) :: l.drop (i + 1) := by
  rw [List.drop_eq_getElem_cons h]
  simp [rd_T73, List.getElem?_eq_getElem h, List.getD_eq_getElem?_getD]
/-- Whose name it is. -/
def nm73 (t : ByteArray) (x : S73) : Bool := x.f0.toList == t.toList

theorem drop_T61 {l : List S61} {i : Nat} (h : i < l.length) : l.drop i = rd_T61 l (i : Int) :: l.drop (i + 1) := by
  rw [List.drop_eq_getElem_cons h]
  simp [rd_T61, List.getElem?_eq_getElem h, List.getD_eq_getElem?_getD]
/-- Whose name it is. -/
def nm61 (t : ByteArray) (x : S61) : Bool := x.f0.toList == t.toList

theorem drop_T100 {l : List S100} {i : Nat} (h : i < l.length) : l.drop i = rd_T100 l (i : Int) :: l.drop (i + 1) := by
  rw [List.drop_eq_getElem_cons h]
  simp [rd_T100, List.getElem?_eq_getElem h, List.getD_eq_getElem?_getD]
/-- Whose name it is. -/
def nm100 (t : ByteArray) (x : S100) : Bool := x.f0.toList == t.toList

set_option maxHeartbeats 1000000 in
theorem Case_eq (s : S31) (A2 A3 A4 A5 A6 A7 A8 : Option Addr) (c2 c3 c4 c5 c6 c7 c8 : Nat) (t : ByteArray) (W : World) (hs : Rs W s A2 A3 A4 A5 A6 A7 A8 c2 c3 c4 c5 c6 c7 c8) : Calls Tryz.prog 24 #[.agg #[.int .i64 s.f0, .int .u64 s.f1, .slice A2 s.f2.length c2, .slice A3 s.f3.length c3, .slice A4 s.f4.length c4, .slice A5 s.f5.length c5, .slice A6 s.f6.length c6, .slice A7 s.f7.length c7, .slice A8 s.f8.length c8, .int .i64 s.f9], .string t] W fun e w' => e = .returned (.int .i64 (ix (nm59 t) s.f3 0)) ∧ Below W.heap.size W w' := by
  have HB := Lib.hid (show Below W.heap.size W (W.alloc (.cells #[.int .i64 s.f0, .int .u64 s.f1, .slice A2 s.f2.length c2, .slice A3 s.f3.length c3, .slice A4 s.f4.length c4, .slice A5 s.f5.length c5, .slice A6 s.f6.length c6, .slice A7 s.f7.length c7, .slice A8 s.f8.length c8, .int .i64 s.f9] 31 (0, 0))) from below_alloc (Below.refl _ _) _)
  have HY := Lib.hid (new_blk W (.cells #[.int .i64 s.f0, .int .u64 s.f1, .slice A2 s.f2.length c2, .slice A3 s.f3.length c3, .slice A4 s.f4.length c4, .slice A5 s.f5.length c5, .slice A6 s.f6.length c6, .slice A7 s.f7.length c7, .slice A8 s.f8.length c8, .int .i64 s.f9] 31 (0, 0)))
  have HG := Lib.hid (Kd.C_below hs.g3 HB.out)
  have hm : s.f3.length ≤ 9223372036854775807 := hs.g3.2.1
  have q3 : (W.alloc (.cells #[.int .i64 s.f0, .int .u64 s.f1, .slice A2 s.f2.length c2, .slice A3 s.f3.length c3, .slice A4 s.f4.length c4, .slice A5 s.f5.length c5, .slice A6 s.f6.length c6, .slice A7 s.f7.length c7, .slice A8 s.f8.length c8, .int .i64 s.f9] 31 (0, 0))).cell? ⟨W.heap.size, 3, none⟩ = some (.slice A3 s.f3.length c3) := (blk_cell HY.out 3).trans rfl
  clear hs
  go_enter Tryz.func24, Tryz.ntmps24
  go_wp2
  generalize W.alloc (.cells #[.int .i64 s.f0, .int .u64 s.f1, .slice A2 s.f2.length c2, .slice A3 s.f3.length c3, .slice A4 s.f4.length c4, .slice A5 s.f5.length c5, .slice A6 s.f6.length c6, .slice A7 s.f7.length c7, .slice A8 s.f8.length c8, .int .i64 s.f9] 31 (0, 0)) = W1 at *
  go_loopw [5] (fun v5 wr => ∃ k : Nat, v5 = .int .i64 k ∧ k ≤ s.f3.length ∧ Aside0 (wr = W1) ∧ Aside0 (ix (nm59 t) s.f3 0 = ix (nm59 t) (s.f3.drop k) k)) (fun v5 _ => s.f3.length - (intOf v5).toNat)
  case atStart => exact ⟨0, rfl, Nat.zero_le _, ⟨rfl⟩, ⟨by rw [List.drop_zero]⟩⟩
  case round =>
    obtain ⟨k, rfl, hk, HW, HI⟩ := hrel
    obtain rfl := HW.out
    by_cases hlt : k < s.f3.length
    · have hlt2 : (k : Int) < (s.f3.length : Int) := by omega
      obtain ⟨ad, A4_, c4_, e, h0, h1, hl4, hC4⟩ := at_T59 HG.out (k : Int) (by omega) (by omega)
      subst e
      simp only [Int.toNat_natCast] at h0 h1
      have hd := drop_T59 hlt
      have HI2 := Lib.hid (show ix (nm59 t) s.f3 0 = if ((rd_T59 s.f3 (k : Int)).f0.toList == t.toList) = true then (k : Int) else ix (nm59 t) (s.f3.drop (k + 1)) (k + 1) by rw [HI.out, hd]; rfl)
      clear hd hl4 hC4
      generalize rd_T59 s.f3 (k : Int) = y at *
      by_cases ht : (y.f0.toList == t.toList) = true
      · have HT := Lib.hid ht
        go_wp2
        go_ret
        exact ⟨ret_i (by rw [HI2.out, if_pos HT.out]), HB.out⟩
      · have HT := Lib.hid ht
        have hf : (y.f0.toList == t.toList) = false := Bool.eq_false_iff.mpr ht
        clear ht
        go_wp2
        go_roundw
        case rel => exact ⟨k + 1, by go_num, by omega, ⟨by first | rfl | trivial⟩, ⟨by rw [HI2.out, if_neg HT.out]⟩⟩
        case measure => simp [intOf]; omega
    · have HK := Lib.hid (show k = s.f3.length by omega)
      go_wp2
      go_ret
      exact ⟨ret_i (by rw [HI.out, HK.out, List.drop_of_length_le (Nat.le_refl _)]; rfl), HB.out⟩

set_option maxHeartbeats 1000000 in
theorem Sub_eq (s : S31) (A2 A3 A4 A5 A6 A7 A8 : Option Addr) (c2 c3 c4 c5 c6 c7 c8 : Nat) (t : ByteArray) (W : World) (hs : Rs W s A2 A3 A4 A5 A6 A7 A8 c2 c3 c4 c5 c6 c7 c8) : Calls Tryz.prog 38 #[.agg #[.int .i64 s.f0, .int .u64 s.f1, .slice A2 s.f2.length c2, .slice A3 s.f3.length c3, .slice A4 s.f4.length c4, .slice A5 s.f5.length c5, .slice A6 s.f6.length c6, .slice A7 s.f7.length c7, .slice A8 s.f8.length c8, .int .i64 s.f9], .string t] W fun e w' => e = .returned (.int .i64 (ix (nm108 t) s.f4 0)) ∧ Below W.heap.size W w' := by
  have HB := Lib.hid (show Below W.heap.size W (W.alloc (.cells #[.int .i64 s.f0, .int .u64 s.f1, .slice A2 s.f2.length c2, .slice A3 s.f3.length c3, .slice A4 s.f4.length c4, .slice A5 s.f5.length c5, .slice A6 s.f6.length c6, .slice A7 s.f7.length c7, .slice A8 s.f8.length c8, .int .i64 s.f9] 31 (0, 0))) from below_alloc (Below.refl _ _) _)
  have HY := Lib.hid (new_blk W (.cells #[.int .i64 s.f0, .int .u64 s.f1, .slice A2 s.f2.length c2, .slice A3 s.f3.length c3, .slice A4 s.f4.length c4, .slice A5 s.f5.length c5, .slice A6 s.f6.length c6, .slice A7 s.f7.length c7, .slice A8 s.f8.length c8, .int .i64 s.f9] 31 (0, 0)))
  have HG := Lib.hid (Kd.C_below hs.g4 HB.out)
  have hm : s.f4.length ≤ 9223372036854775807 := hs.g4.2.1
  have q4 : (W.alloc (.cells #[.int .i64 s.f0, .int .u64 s.f1, .slice A2 s.f2.length c2, .slice A3 s.f3.length c3, .slice A4 s.f4.length c4, .slice A5 s.f5.length c5, .slice A6 s.f6.length c6, .slice A7 s.f7.length c7, .slice A8 s.f8.length c8, .int .i64 s.f9] 31 (0, 0))).cell? ⟨W.heap.size, 4, none⟩ = some (.slice A4 s.f4.length c4) := (blk_cell HY.out 4).trans rfl
  clear hs
  go_enter Tryz.func38, Tryz.ntmps38
  go_wp2
  generalize W.alloc (.cells #[.int .i64 s.f0, .int .u64 s.f1, .slice A2 s.f2.length c2, .slice A3 s.f3.length c3, .slice A4 s.f4.length c4, .slice A5 s.f5.length c5, .slice A6 s.f6.length c6, .slice A7 s.f7.length c7, .slice A8 s.f8.length c8, .int .i64 s.f9] 31 (0, 0)) = W1 at *
  go_loopw [5] (fun v5 wr => ∃ k : Nat, v5 = .int .i64 k ∧ k ≤ s.f4.length ∧ Aside0 (wr = W1) ∧ Aside0 (ix (nm108 t) s.f4 0 = ix (nm108 t) (s.f4.drop k) k)) (fun v5 _ => s.f4.length - (intOf v5).toNat)
  case atStart => exact ⟨0, rfl, Nat.zero_le _, ⟨rfl⟩, ⟨by rw [List.drop_zero]⟩⟩
  case round =>
    obtain ⟨k, rfl, hk, HW, HI⟩ := hrel
    obtain rfl := HW.out
    by_cases hlt : k < s.f4.length
    · have hlt2 : (k : Int) < (s.f4.length : Int) := by omega
      obtain ⟨ad, e, h0, h1, h2⟩ := at_T108 HG.out (k : Int) (by omega) (by omega)
      subst e
      simp only [Int.toNat_natCast] at h0 h1 h2
      have hd := drop_T108 hlt
      have HI2 := Lib.hid (show ix (nm108 t) s.f4 0 = if ((rd_T108 s.f4 (k : Int)).f0.toList == t.toList) = true then (k : Int) else ix (nm108 t) (s.f4.drop (k + 1)) (k + 1) by rw [HI.out, hd]; rfl)
      clear hd
      generalize rd_T108 s.f4 (k : Int) = y at *
      by_cases ht : (y.f0.toList == t.toList) = true
      · have HT := Lib.hid ht
        go_wp2
        go_ret
        exact ⟨ret_i (by rw [HI2.out, if_pos HT.out]), HB.out⟩
      · have HT := Lib.hid ht
        have hf : (y.f0.toList == t.toList) = false := Bool.eq_false_iff.mpr ht
        clear ht
        go_wp2
        go_roundw
        case rel => exact ⟨k + 1, by go_num, by omega, ⟨by first | rfl | trivial⟩, ⟨by rw [HI2.out, if_neg HT.out]⟩⟩
        case measure => simp [intOf]; omega
    · have HK := Lib.hid (show k = s.f4.length by omega)
      go_wp2
      go_ret
      exact ⟨ret_i (by rw [HI.out, HK.out, List.drop_of_length_le (Nat.le_refl _)]; rfl), HB.out⟩

set_option maxHeartbeats 1000000 in
theorem Rec_eq (s : S31) (A2 A3 A4 A5 A6 A7 A8 : Option Addr) (c2 c3 c4 c5 c6 c7 c8 : Nat) (t : ByteArray) (W : World) (hs : Rs W s A2 A3 A4 A5 A6 A7 A8 c2 c3 c4 c5 c6 c7 c8) : Calls Tryz.prog 39 #[.agg #[.int .i64 s.f0, .int .u64 s.f1, .slice A2 s.f2.length c2, .slice A3 s.f3.length c3, .slice A4 s.f4.length c4, .slice A5 s.f5.length c5, .slice A6 s.f6.length c6, .slice A7 s.f7.length c7, .slice A8 s.f8.length c8, .int .i64 s.f9], .string t] W fun e w' => e = .returned (.int .i64 (ix (nm73 t) s.f5 0)) ∧ Below W.heap.size W w' := by
  have HB := Lib.hid (show Below W.heap.size W (W.alloc (.cells #[.int .i64 s.f0, .int .u64 s.f1, .slice A2 s.f2.length c2, .slice A3 s.f3.length c3, .slice A4 s.f4.length c4, .slice A5 s.f5.length c5, .slice A6 s.f6.length c6, .slice A7 s.f7.length c7, .slice A8 s.f8.length c8, .int .i64 s.f9] 31 (0, 0))) from below_alloc (Below.refl _ _) _)
  have HY := Lib.hid (new_blk W (.cells #[.int .i64 s.f0, .int .u64 s.f1, .slice A2 s.f2.length c2, .slice A3 s.f3.length c3, .slice A4 s.f4.length c4, .slice A5 s.f5.length c5, .slice A6 s.f6.length c6, .slice A7 s.f7.length c7, .slice A8 s.f8.length c8, .int .i64 s.f9] 31 (0, 0)))
  have HG := Lib.hid (Kd.C_below hs.g5 HB.out)
  have hm : s.f5.length ≤ 9223372036854775807 := hs.g5.2.1
  have q5 : (W.alloc (.cells #[.int .i64 s.f0, .int .u64 s.f1, .slice A2 s.f2.length c2, .slice A3 s.f3.length c3, .slice A4 s.f4.length c4, .slice A5 s.f5.length c5, .slice A6 s.f6.length c6, .slice A7 s.f7.length c7, .slice A8 s.f8.length c8, .int .i64 s.f9] 31 (0, 0))).cell? ⟨W.heap.size, 5, none⟩ = some (.slice A5 s.f5.length c5) := (blk_cell HY.out 5).trans rfl
  clear hs
  go_enter Tryz.func39, Tryz.ntmps39
  go_wp2
  generalize W.alloc (.cells #[.int .i64 s.f0, .int .u64 s.f1, .slice A2 s.f2.length c2, .slice A3 s.f3.length c3, .slice A4 s.f4.length c4, .slice A5 s.f5.length c5, .slice A6 s.f6.length c6, .slice A7 s.f7.length c7, .slice A8 s.f8.length c8, .int .i64 s.f9] 31 (0, 0)) = W1 at *
  go_loopw [5] (fun v5 wr => ∃ k : Nat, v5 = .int .i64 k ∧ k ≤ s.f5.length ∧ Aside0 (wr = W1) ∧ Aside0 (ix (nm73 t) s.f5 0 = ix (nm73 t) (s.f5.drop k) k)) (fun v5 _ => s.f5.length - (intOf v5).toNat)
  case atStart => exact ⟨0, rfl, Nat.zero_le _, ⟨rfl⟩, ⟨by rw [List.drop_zero]⟩⟩
  case round =>
    obtain ⟨k, rfl, hk, HW, HI⟩ := hrel
    obtain rfl := HW.out
    by_cases hlt : k < s.f5.length
    · have hlt2 : (k : Int) < (s.f5.length : Int) := by omega
      obtain ⟨ad, e, h0, h1, h2, h3, h4, h5⟩ := at_T73 HG.out (k : Int) (by omega) (by omega)
      subst e
      simp only [Int.toNat_natCast] at h0 h1 h2 h3 h4 h5
      have hd := drop_T73 hlt
      have HI2 := Lib.hid (show ix (nm73 t) s.f5 0 = if ((rd_T73 s.f5 (k : Int)).f0.toList == t.toList) = true then (k : Int) else ix (nm73 t) (s.f5.drop (k + 1)) (k + 1) by rw [HI.out, hd]; rfl)
      clear hd
      generalize rd_T73 s.f5 (k : Int) = y at *
      by_cases ht : (y.f0.toList == t.toList) = true
      · have HT := Lib.hid ht
        go_wp2
        go_ret
        exact ⟨ret_i (by rw [HI2.out, if_pos HT.out]), HB.out⟩
      · have HT := Lib.hid ht
        have hf : (y.f0.toList == t.toList) = false := Bool.eq_false_iff.mpr ht
        clear ht
        go_wp2
        go_roundw
        case rel => exact ⟨k + 1, by go_num, by omega, ⟨by first | rfl | trivial⟩, ⟨by rw [HI2.out, if_neg HT.out]⟩⟩
        case measure => simp [intOf]; omega
    · have HK := Lib.hid (show k = s.f5.length by omega)
      go_wp2
      go_ret
      exact ⟨ret_i (by rw [HI.out, HK.out, List.drop_of_length_le (Nat.le_refl _)]; rfl), HB.out⟩

set_option maxHeartbeats 1000000 in
theorem Cert_eq (s : S31) (A2 A3 A4 A5 A6 A7 A8 : Option Addr) (c2 c3 c4 c5 c6 c7 c8 : Nat) (t : ByteArray) (W : World) (hs : Rs W s A2 A3 A4 A5 A6 A7 A8 c2 c3 c4 c5 c6 c7 c8) : Calls Tryz.prog 40 #[.agg #[.int .i64 s.f0, .int .u64 s.f1, .slice A2 s.f2.length c2, .slice A3 s.f3.length c3, .slice A4 s.f4.length c4, .slice A5 s.f5.length c5, .slice A6 s.f6.length c6, .slice A7 s.f7.length c7, .slice A8 s.f8.length c8, .int .i64 s.f9], .string t] W fun e w' => e = .returned (.int .i64 (ix (nm61 t) s.f7 0)) ∧ Below W.heap.size W w' := by
  have HB := Lib.hid (show Below W.heap.size W (W.alloc (.cells #[.int .i64 s.f0, .int .u64 s.f1, .slice A2 s.f2.length c2, .slice A3 s.f3.length c3, .slice A4 s.f4.length c4, .slice A5 s.f5.length c5, .slice A6 s.f6.length c6, .slice A7 s.f7.length c7, .slice A8 s.f8.length c8, .int .i64 s.f9] 31 (0, 0))) from below_alloc (Below.refl _ _) _)
  have HY := Lib.hid (new_blk W (.cells #[.int .i64 s.f0, .int .u64 s.f1, .slice A2 s.f2.length c2, .slice A3 s.f3.length c3, .slice A4 s.f4.length c4, .slice A5 s.f5.length c5, .slice A6 s.f6.length c6, .slice A7 s.f7.length c7, .slice A8 s.f8.length c8, .int .i64 s.f9] 31 (0, 0)))
  have HG := Lib.hid (Kd.C_below hs.g7 HB.out)
  have hm : s.f7.length ≤ 9223372036854775807 := hs.g7.2.1
  have q7 : (W.alloc (.cells #[.int .i64 s.f0, .int .u64 s.f1, .slice A2 s.f2.length c2, .slice A3 s.f3.length c3, .slice A4 s.f4.length c4, .slice A5 s.f5.length c5, .slice A6 s.f6.length c6, .slice A7 s.f7.length c7, .slice A8 s.f8.length c8, .int .i64 s.f9] 31 (0, 0))).cell? ⟨W.heap.size, 7, none⟩ = some (.slice A7 s.f7.length c7) := (blk_cell HY.out 7).trans rfl
  clear hs
  go_enter Tryz.func40, Tryz.ntmps40
  go_wp2
  generalize W.alloc (.cells #[.int .i64 s.f0, .int .u64 s.f1, .slice A2 s.f2.length c2, .slice A3 s.f3.length c3, .slice A4 s.f4.length c4, .slice A5 s.f5.length c5, .slice A6 s.f6.length c6, .slice A7 s.f7.length c7, .slice A8 s.f8.length c8, .int .i64 s.f9] 31 (0, 0)) = W1 at *
  go_loopw [5] (fun v5 wr => ∃ k : Nat, v5 = .int .i64 k ∧ k ≤ s.f7.length ∧ Aside0 (wr = W1) ∧ Aside0 (ix (nm61 t) s.f7 0 = ix (nm61 t) (s.f7.drop k) k)) (fun v5 _ => s.f7.length - (intOf v5).toNat)
  case atStart => exact ⟨0, rfl, Nat.zero_le _, ⟨rfl⟩, ⟨by rw [List.drop_zero]⟩⟩
  case round =>
    obtain ⟨k, rfl, hk, HW, HI⟩ := hrel
    obtain rfl := HW.out
    by_cases hlt : k < s.f7.length
    · have hlt2 : (k : Int) < (s.f7.length : Int) := by omega
      obtain ⟨ad, A4_, c4_, e, h0, h1, h2, h3, hl4, hC4⟩ := at_T61 HG.out (k : Int) (by omega) (by omega)
      subst e
      simp only [Int.toNat_natCast] at h0 h1 h2 h3
      have hd := drop_T61 hlt
      have HI2 := Lib.hid (show ix (nm61 t) s.f7 0 = if ((rd_T61 s.f7 (k : Int)).f0.toList == t.toList) = true then (k : Int) else ix (nm61 t) (s.f7.drop (k + 1)) (k + 1) by rw [HI.out, hd]; rfl)
      clear hd hl4 hC4
      generalize rd_T61 s.f7 (k : Int) = y at *
      by_cases ht : (y.f0.toList == t.toList) = true
      · have HT := Lib.hid ht
        go_wp2
        go_ret
        exact ⟨ret_i (by rw [HI2.out, if_pos HT.out]), HB.out⟩
      · have HT := Lib.hid ht
        have hf : (y.f0.toList == t.toList) = false := Bool.eq_false_iff.mpr ht
        clear ht
        go_wp2
        go_roundw
        case rel => exact ⟨k + 1, by go_num, by omega, ⟨by first | rfl | trivial⟩, ⟨by rw [HI2.out, if_neg HT.out]⟩⟩
        case measure => simp [intOf]; omega
    · have HK := Lib.hid (show k = s.f7.length by omega)
      go_wp2
      go_ret
      exact ⟨ret_i (by rw [HI.out, HK.out, List.drop_of_length_le (Nat.le_refl _)]; rfl), HB.out⟩

set_option maxHeartbeats 1000000 in
theorem Find22_eq (l : List S100) (A : Option Addr) (c : Nat) (t : ByteArray) (W1 : World) (hC : Kd.C k100 W1 A l.length l) : Calls Tryz.prog 41 #[.slice A l.length c, .string t] W1 fun e w' => e = .returned (.int .i64 (ix (nm100 t) l 0)) ∧ w' = W1 := by
  have HG := Lib.hid hC
  have hm : l.length ≤ 9223372036854775807 := hC.2.1
  clear hC
  go_enter Tryz.func41, Tryz.ntmps41
  go_wp2
  go_loopw [5] (fun v5 wr => ∃ k : Nat, v5 = .int .i64 k ∧ k ≤ l.length ∧ Aside0 (wr = W1) ∧ Aside0 (ix (nm100 t) l 0 = ix (nm100 t) (l.drop k) k)) (fun v5 _ => l.length - (intOf v5).toNat)
  case atStart => exact ⟨0, rfl, Nat.zero_le _, ⟨rfl⟩, ⟨by rw [List.drop_zero]⟩⟩
  case round =>
    obtain ⟨k, rfl, hk, HW, HI⟩ := hrel
    obtain rfl := HW.out
    by_cases hlt : k < l.length
    · have hlt2 : (k : Int) < (l.length : Int) := by omega
      obtain ⟨ad, A4_, c4_, e, h0, h1, h2, h3, h4, h5, h6, hl4, hC4⟩ := at_T100 HG.out (k : Int) (by omega) (by omega)
      subst e
      simp only [Int.toNat_natCast] at h0 h1 h2 h3 h4 h5 h6
      have hd := drop_T100 hlt
      have HI2 := Lib.hid (show ix (nm100 t) l 0 = if ((rd_T100 l (k : Int)).f0.toList == t.toList) = true then (k : Int) else ix (nm100 t) (l.drop (k + 1)) (k + 1) by rw [HI.out, hd]; rfl)
      clear hd hl4 hC4
      generalize rd_T100 l (k : Int) = y at *
      by_cases ht : (y.f0.toList == t.toList) = true
      · have HT := Lib.hid ht
        go_wp2
        go_ret
        exact ⟨ret_i (by rw [HI2.out, if_pos HT.out]), rfl⟩
      · have HT := Lib.hid ht
        have hf : (y.f0.toList == t.toList) = false := Bool.eq_false_iff.mpr ht
        clear ht
        go_wp2
        go_roundw
        case rel => exact ⟨k + 1, by go_num, by omega, ⟨by first | rfl | trivial⟩, ⟨by rw [HI2.out, if_neg HT.out]⟩⟩
        case measure => simp [intOf]; omega
    · have HK := Lib.hid (show k = l.length by omega)
      go_wp2
      go_ret
      exact ⟨ret_i (by rw [HI.out, HK.out, List.drop_of_length_le (Nat.le_refl _)]; rfl), rfl⟩
end Go.Proofs.YtafigkikblpbnaaGreat.PG
