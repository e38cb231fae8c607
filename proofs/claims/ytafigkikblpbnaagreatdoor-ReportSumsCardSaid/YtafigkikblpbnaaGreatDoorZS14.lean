/- The program's words on the holds. A record is counted in a tally. A map of names to blocks; no condition beyond each theorem its own. -/
import Derived.Test.YtafigkikblpbnaaGreatDoorZS09
import Derived.Test.YtafigkikblpbnaaGreatDoorZS04
import Derived.Test.YtafigkikblpbnaaGreatDoorZS13
import Derived.Test.YtafigkikblpbnaaGreatDoorZS11
import Derived.Test.YtafigkikblpbnaaGreatDoorZS05
import Derived.Maps.OwnSet
import Derived.WalkKit
import Derived.KernelRfl
import Derived.Lib.Hide
namespace Go.Proofs.YtafigkikblpbnaaGreatDoor.PG
open Go.RowKit Go.Proofs.YtafigkikblpbnaaGreatDoorW.PrintWords Go.Proofs.YtafigkikblpbnaaGreatDoorW.PrintLast Go.Proofs.YtafigkikblpbnaaGreatDoorW.PrintMore
set_option linter.unusedVariables false
set_option linter.unusedSimpArgs false
set_option maxRecDepth 100000
/-- A record that a hold is good for; one that no other hold is good for. -/
def gd (d : Nat) (x : S78) (r : S48) : Bool := decide (r.f5 ≤ 2) && mt d x.f1 r
/-- It answers a list of names. -/
def RNm (l : List ByteArray) (W : World) (e : Ending) (w' : World) : Prop := ∃ (A : Option Addr) (c : Nat), e = .returned (.slice A l.length c) ∧ l.length ≤ c ∧ Kd.C Kd.string w' A l.length l ∧ Below W.heap.size W w'

end Go.Proofs.YtafigkikblpbnaaGreatDoor.PG
namespace Go.Proofs.YtafigkikblpbnaaGreatDoor.PG
open Go.RowKit Go.Proofs.YtafigkikblpbnaaGreatDoorW.PrintWords Go.Proofs.YtafigkikblpbnaaGreatDoorW.PrintLast Go.Proofs.YtafigkikblpbnaaGreatDoorW.PrintMore
set_option linter.unusedVariables false
set_option linter.unusedSimpArgs false
set_option maxRecDepth 100000
theorem tab28_1 : rtab .any (opsOf Tryz.f28 1) = (true, [([], []), ([], []), ([1], [1]), ([2], [2]), ([0], [0]), ([4, 3], [3, 4]), ([5], [5]), ([6], [6]), ([0], [0]), ([8, 3, 0, 1, 2, 3, 4, 5, 6, 7], [3, 8]), ([9, 7, 0, 1, 2, 3, 4, 5, 6, 7], [7, 9])]) := by kernel_rfl

def bump (n : Int → Nat) (j : Int) (i : Int) : Nat := n i + (if i = j then 1 else 0)
set_option maxHeartbeats 1000000 in
theorem add_eq1 (g : Nat) (n : Int → Nat) (hn : n 1 ≤ 1000) (r0 r1 r2 r3 : ByteArray) (r4 : Int) (W : World) (hg : W.heap[g]? = some (.cells #[.int .i64 (n 1 : Nat), .int .i64 (n 2 : Nat), .int .i64 (n 3 : Nat), .int .i64 (n 4 : Nat)] 65 (0, 0))) :
    Calls Tryz.prog 28 #[.pointer (some ⟨g, 0, none⟩), .agg #[.string r0, .string r1, .string r2, .string r3, .int .i64 r4, .int .i64 1]] W fun e w' => e = .returned (.tuple #[]) ∧ w'.heap[g]? = some (.cells #[.int .i64 ((bump n 1) 1 : Nat), .int .i64 ((bump n 1) 2 : Nat), .int .i64 ((bump n 1) 3 : Nat), .int .i64 ((bump n 1) 4 : Nat)] 65 (0, 0)) ∧ W.grownBy w' (some g) := by
  have HB := below_alloc (Below.refl W.heap.size W) (.cells #[.string r0, .string r1, .string r2, .string r3, .int .i64 r4, .int .i64 1] 48 (0, 0))
  have HC := new_blk W (.cells #[.string r0, .string r1, .string r2, .string r3, .int .i64 r4, .int .i64 1] 48 (0, 0))
  have HG := Lib.hid ((HB.block g (blk_lt hg)).trans hg)
  have HL := Lib.hid (blk_lt hg)
  have HBH := Lib.hid HB
  have x5 : ((W.alloc (.cells #[.string r0, .string r1, .string r2, .string r3, .int .i64 r4, .int .i64 1] 48 (0, 0))).drew).cell? ⟨W.heap.size, 5, none⟩ = some (.int .i64 1) := (blk_cell HC 5).trans rfl
  have c0 : ((W.alloc (.cells #[.string r0, .string r1, .string r2, .string r3, .int .i64 r4, .int .i64 1] 48 (0, 0))).drew).cell? ⟨g, 0, none⟩ = some (.int .i64 (n 1 : Nat)) := (blk_cell HG.out 0).trans rfl
  have f0 : ((W.alloc (.cells #[.string r0, .string r1, .string r2, .string r3, .int .i64 r4, .int .i64 1] 48 (0, 0))).drew).frozen? ⟨g, 0, none⟩ = false := blk_frozen HG.out 0
  have hn2 : (n 1 : Int) ≤ 1000 := by omega
  have wq : IntKind.i64.wrap 0 = 0 := by kernel_rfl
  have hw : IntKind.i64.wrap ((n 1 : Int) + 1) = (n 1 : Int) + 1 := by rw [IntKind.wrap_i64]; omega
  clear HB HC hg
  go_enter Tryz.func28, Tryz.ntmps28
  go_wp2_with fail
  refine WL.start (n := 11) (ds := [10]) (S := fun w' => w'.cell? ⟨W.heap.size, 5, none⟩ = some (.int .i64 1) ∧ w'.cell? ⟨g, 0, none⟩ = some (.int .i64 (n 1 : Nat))) [false, false, false, false, false, false, false, false, false, false, false] (by kernel_rfl) rfl rfl ⟨x5, c0⟩ (fun hHeld => ?_)
  refine WL.tab tab28_1 (fun HT_ => ?_)
  refine WL.more [0, 1, 4, 8, 2, 3, 5, 6, 7, 9] ?_
  repeat (first
    | (refine WL.off (lb' := ?_) (ys := ?_) rfl rfl (by rfl) ?_ HT_.out ?_ (fun _ _ _ h => h) ?_ ?_; rotate_left 2; (focus dsimp only [List.set_cons_zero, List.set_cons_succ]; rfl); (focus kernel_rfl); (focus dsimp only [List.set_cons_zero, List.set_cons_succ]; rfl))
    | (refine WL.pure (lb' := ?_) (v := ?_) (ys := ?_) rfl rfl (by rfl) ?_ HT_.out ?_ (fun _ _ _ h => h) ?_ ?_ ?_; rotate_left 3; (focus dsimp only [List.set_cons_zero, List.set_cons_succ]; rfl); (focus kernel_rfl); (focus intro w'; go_simp; with_reducible rfl); (focus dsimp only [List.set_cons_zero, List.set_cons_succ]; rfl))
    | (refine WL.take (lb' := ?_) (v := ?_) (ys := ?_) rfl rfl (by rfl) ?_ HT_.out ?_ (fun _ _ _ h => h) hHeld ?_ ?_ ?_; rotate_left 3; (focus dsimp only [List.set_cons_zero, List.set_cons_succ]; rfl); (focus kernel_rfl); (focus rintro w' ⟨s0, s1⟩; go_simp; with_reducible rfl); (focus dsimp only [List.set_cons_zero, List.set_cons_succ]; rfl)))
  refine WL.more [10] ?_
  refine WL.last (lb' := ?_) rfl rfl ?_ HT_.out ?_ (by decide) (fun K hK => ?_); rotate_left; (focus dsimp only [List.set_cons_zero, List.set_cons_succ]; rfl); (focus kernel_rfl)
  refine skip_ (w1 := ?_) (by rfl) rfl ?_ ?_
  rotate_left
  (focus go_simp; rfl)
  refine hK.out _ _ ?_
  clear hK K
  refine WL.done HT_.out (by kernel_rfl) ?_
  have HF1 := Lib.hid (blk_put HG.out 0 (.int .i64 ((n 1 : Int) + 1)) rfl)
  have HF2 := Lib.hid (show W.grownBy (((W.alloc (.cells #[.string r0, .string r1, .string r2, .string r3, .int .i64 r4, .int .i64 1] 48 (0, 0))).setCell ⟨g, 0, none⟩ (.int .i64 ((n 1 : Int) + 1))).drew) (some g) from ⟨HBH.out.os, HBH.out.tape, HBH.out.output, by simp [World.setCell], fun k hk hne => (Below.heap_setCell _ _ _ _ (fun e => hne (congrArg some e))).trans (HBH.out.block k hk)⟩)
  clear c0 f0 x5
  go_wp2
  exact ⟨rfl, _, results_none (by kernel_rfl) _ _ _, rfl, HF1.out, HF2.out⟩
set_option maxHeartbeats 1000000 in
theorem add_eq2 (g : Nat) (n : Int → Nat) (hn : n 2 ≤ 1000) (r0 r1 r2 r3 : ByteArray) (r4 : Int) (W : World) (hg : W.heap[g]? = some (.cells #[.int .i64 (n 1 : Nat), .int .i64 (n 2 : Nat), .int .i64 (n 3 : Nat), .int .i64 (n 4 : Nat)] 65 (0, 0))) :
    Calls Tryz.prog 28 #[.pointer (some ⟨g, 0, none⟩), .agg #[.string r0, .string r1, .string r2, .string r3, .int .i64 r4, .int .i64 2]] W fun e w' => e = .returned (.tuple #[]) ∧ w'.heap[g]? = some (.cells #[.int .i64 ((bump n 2) 1 : Nat), .int .i64 ((bump n 2) 2 : Nat), .int .i64 ((bump n 2) 3 : Nat), .int .i64 ((bump n 2) 4 : Nat)] 65 (0, 0)) ∧ W.grownBy w' (some g) := by
  have HB := below_alloc (Below.refl W.heap.size W) (.cells #[.string r0, .string r1, .string r2, .string r3, .int .i64 r4, .int .i64 2] 48 (0, 0))
  have HC := new_blk W (.cells #[.string r0, .string r1, .string r2, .string r3, .int .i64 r4, .int .i64 2] 48 (0, 0))
  have HG := Lib.hid ((HB.block g (blk_lt hg)).trans hg)
  have HL := Lib.hid (blk_lt hg)
  have HBH := Lib.hid HB
  have x5 : ((W.alloc (.cells #[.string r0, .string r1, .string r2, .string r3, .int .i64 r4, .int .i64 2] 48 (0, 0))).drew).cell? ⟨W.heap.size, 5, none⟩ = some (.int .i64 2) := (blk_cell HC 5).trans rfl
  have c0 : ((W.alloc (.cells #[.string r0, .string r1, .string r2, .string r3, .int .i64 r4, .int .i64 2] 48 (0, 0))).drew).cell? ⟨g, 1, none⟩ = some (.int .i64 (n 2 : Nat)) := (blk_cell HG.out 1).trans rfl
  have f0 : ((W.alloc (.cells #[.string r0, .string r1, .string r2, .string r3, .int .i64 r4, .int .i64 2] 48 (0, 0))).drew).frozen? ⟨g, 1, none⟩ = false := blk_frozen HG.out 1
  have hn2 : (n 2 : Int) ≤ 1000 := by omega
  have wq : IntKind.i64.wrap 1 = 1 := by kernel_rfl
  have hw : IntKind.i64.wrap ((n 2 : Int) + 1) = (n 2 : Int) + 1 := by rw [IntKind.wrap_i64]; omega
  clear HB HC hg
  go_enter Tryz.func28, Tryz.ntmps28
  go_wp2_with fail
  refine WL.start (n := 11) (ds := [10]) (S := fun w' => w'.cell? ⟨W.heap.size, 5, none⟩ = some (.int .i64 2) ∧ w'.cell? ⟨g, 1, none⟩ = some (.int .i64 (n 2 : Nat))) [false, false, false, false, false, false, false, false, false, false, false] (by kernel_rfl) rfl rfl ⟨x5, c0⟩ (fun hHeld => ?_)
  refine WL.tab tab28_1 (fun HT_ => ?_)
  refine WL.more [0, 1, 4, 8, 2, 3, 5, 6, 7, 9] ?_
  repeat (first
    | (refine WL.off (lb' := ?_) (ys := ?_) rfl rfl (by rfl) ?_ HT_.out ?_ (fun _ _ _ h => h) ?_ ?_; rotate_left 2; (focus dsimp only [List.set_cons_zero, List.set_cons_succ]; rfl); (focus kernel_rfl); (focus dsimp only [List.set_cons_zero, List.set_cons_succ]; rfl))
    | (refine WL.pure (lb' := ?_) (v := ?_) (ys := ?_) rfl rfl (by rfl) ?_ HT_.out ?_ (fun _ _ _ h => h) ?_ ?_ ?_; rotate_left 3; (focus dsimp only [List.set_cons_zero, List.set_cons_succ]; rfl); (focus kernel_rfl); (focus intro w'; go_simp; with_reducible rfl); (focus dsimp only [List.set_cons_zero, List.set_cons_succ]; rfl))
    | (refine WL.take (lb' := ?_) (v := ?_) (ys := ?_) rfl rfl (by rfl) ?_ HT_.out ?_ (fun _ _ _ h => h) hHeld ?_ ?_ ?_; rotate_left 3; (focus dsimp only [List.set_cons_zero, List.set_cons_succ]; rfl); (focus kernel_rfl); (focus rintro w' ⟨s0, s1⟩; go_simp; with_reducible rfl); (focus dsimp only [List.set_cons_zero, List.set_cons_succ]; rfl)))
  refine WL.more [10] ?_
  refine WL.last (lb' := ?_) rfl rfl ?_ HT_.out ?_ (by decide) (fun K hK => ?_); rotate_left; (focus dsimp only [List.set_cons_zero, List.set_cons_succ]; rfl); (focus kernel_rfl)
  refine skip_ (w1 := ?_) (by rfl) rfl ?_ ?_
  rotate_left
  (focus go_simp; rfl)
  refine hK.out _ _ ?_
  clear hK K
  refine WL.done HT_.out (by kernel_rfl) ?_
  have HF1 := Lib.hid (blk_put HG.out 1 (.int .i64 ((n 2 : Int) + 1)) rfl)
  have HF2 := Lib.hid (show W.grownBy (((W.alloc (.cells #[.string r0, .string r1, .string r2, .string r3, .int .i64 r4, .int .i64 2] 48 (0, 0))).setCell ⟨g, 1, none⟩ (.int .i64 ((n 2 : Int) + 1))).drew) (some g) from ⟨HBH.out.os, HBH.out.tape, HBH.out.output, by simp [World.setCell], fun k hk hne => (Below.heap_setCell _ _ _ _ (fun e => hne (congrArg some e))).trans (HBH.out.block k hk)⟩)
  clear c0 f0 x5
  go_wp2
  exact ⟨rfl, _, results_none (by kernel_rfl) _ _ _, rfl, HF1.out, HF2.out⟩
set_option maxHeartbeats 1000000 in
theorem add_eq3 (g : Nat) (n : Int → Nat) (hn : n 3 ≤ 1000) (r0 r1 r2 r3 : ByteArray) (r4 : Int) (W : World) (hg : W.heap[g]? = some (.cells #[.int .i64 (n 1 : Nat), .int .i64 (n 2 : Nat), .int .i64 (n 3 : Nat), .int .i64 (n 4 : Nat)] 65 (0, 0))) :
    Calls Tryz.prog 28 #[.pointer (some ⟨g, 0, none⟩), .agg #[.string r0, .string r1, .string r2, .string r3, .int .i64 r4, .int .i64 3]] W fun e w' => e = .returned (.tuple #[]) ∧ w'.heap[g]? = some (.cells #[.int .i64 ((bump n 3) 1 : Nat), .int .i64 ((bump n 3) 2 : Nat), .int .i64 ((bump n 3) 3 : Nat), .int .i64 ((bump n 3) 4 : Nat)] 65 (0, 0)) ∧ W.grownBy w' (some g) := by
  have HB := below_alloc (Below.refl W.heap.size W) (.cells #[.string r0, .string r1, .string r2, .string r3, .int .i64 r4, .int .i64 3] 48 (0, 0))
  have HC := new_blk W (.cells #[.string r0, .string r1, .string r2, .string r3, .int .i64 r4, .int .i64 3] 48 (0, 0))
  have HG := Lib.hid ((HB.block g (blk_lt hg)).trans hg)
  have HL := Lib.hid (blk_lt hg)
  have HBH := Lib.hid HB
  have x5 : ((W.alloc (.cells #[.string r0, .string r1, .string r2, .string r3, .int .i64 r4, .int .i64 3] 48 (0, 0))).drew).cell? ⟨W.heap.size, 5, none⟩ = some (.int .i64 3) := (blk_cell HC 5).trans rfl
  have c0 : ((W.alloc (.cells #[.string r0, .string r1, .string r2, .string r3, .int .i64 r4, .int .i64 3] 48 (0, 0))).drew).cell? ⟨g, 2, none⟩ = some (.int .i64 (n 3 : Nat)) := (blk_cell HG.out 2).trans rfl
  have f0 : ((W.alloc (.cells #[.string r0, .string r1, .string r2, .string r3, .int .i64 r4, .int .i64 3] 48 (0, 0))).drew).frozen? ⟨g, 2, none⟩ = false := blk_frozen HG.out 2
  have hn2 : (n 3 : Int) ≤ 1000 := by omega
  have wq : IntKind.i64.wrap 2 = 2 := by kernel_rfl
  have hw : IntKind.i64.wrap ((n 3 : Int) + 1) = (n 3 : Int) + 1 := by rw [IntKind.wrap_i64]; omega
  clear HB HC hg
  go_enter Tryz.func28, Tryz.ntmps28
  go_wp2_with fail
  refine WL.start (n := 11) (ds := [10]) (S := fun w' => w'.cell? ⟨W.heap.size, 5, none⟩ = some (.int .i64 3) ∧ w'.cell? ⟨g, 2, none⟩ = some (.int .i64 (n 3 : Nat))) [false, false, false, false, false, false, false, false, false, false, false] (by kernel_rfl) rfl rfl ⟨x5, c0⟩ (fun hHeld => ?_)
  refine WL.tab tab28_1 (fun HT_ => ?_)
  refine WL.more [0, 1, 4, 8, 2, 3, 5, 6, 7, 9] ?_
  repeat (first
    | (refine WL.off (lb' := ?_) (ys := ?_) rfl rfl (by rfl) ?_ HT_.out ?_ (fun _ _ _ h => h) ?_ ?_; rotate_left 2; (focus dsimp only [List.set_cons_zero, List.set_cons_succ]; rfl); (focus kernel_rfl); (focus dsimp only [List.set_cons_zero, List.set_cons_succ]; rfl))
    | (refine WL.pure (lb' := ?_) (v := ?_) (ys := ?_) rfl rfl (by rfl) ?_ HT_.out ?_ (fun _ _ _ h => h) ?_ ?_ ?_; rotate_left 3; (focus dsimp only [List.set_cons_zero, List.set_cons_succ]; rfl); (focus kernel_rfl); (focus intro w'; go_simp; with_reducible rfl); (focus dsimp only [List.set_cons_zero, List.set_cons_succ]; rfl))
    | (refine WL.take (lb' := ?_) (v := ?_) (ys := ?_) rfl rfl (by rfl) ?_ HT_.out ?_ (fun _ _ _ h => h) hHeld ?_ ?_ ?_; rotate_left 3; (focus dsimp only [List.set_cons_zero, List.set_cons_succ]; rfl); (focus kernel_rfl); (focus rintro w' ⟨s0, s1⟩; go_simp; with_reducible rfl); (focus dsimp only [List.set_cons_zero, List.set_cons_succ]; rfl)))
  refine WL.more [10] ?_
  refine WL.last (lb' := ?_) rfl rfl ?_ HT_.out ?_ (by decide) (fun K hK => ?_); rotate_left; (focus dsimp only [List.set_cons_zero, List.set_cons_succ]; rfl); (focus kernel_rfl)
  refine skip_ (w1 := ?_) (by rfl) rfl ?_ ?_
  rotate_left
  (focus go_simp; rfl)
  refine hK.out _ _ ?_
  clear hK K
  refine WL.done HT_.out (by kernel_rfl) ?_
  have HF1 := Lib.hid (blk_put HG.out 2 (.int .i64 ((n 3 : Int) + 1)) rfl)
  have HF2 := Lib.hid (show W.grownBy (((W.alloc (.cells #[.string r0, .string r1, .string r2, .string r3, .int .i64 r4, .int .i64 3] 48 (0, 0))).setCell ⟨g, 2, none⟩ (.int .i64 ((n 3 : Int) + 1))).drew) (some g) from ⟨HBH.out.os, HBH.out.tape, HBH.out.output, by simp [World.setCell], fun k hk hne => (Below.heap_setCell _ _ _ _ (fun e => hne (congrArg some e))).trans (HBH.out.block k hk)⟩)
  clear c0 f0 x5
  go_wp2
  exact ⟨rfl, _, results_none (by kernel_rfl) _ _ _, rfl, HF1.out, HF2.out⟩
set_option maxHeartbeats 1000000 in
theorem add_eq4 (g : Nat) (n : Int → Nat) (hn : n 4 ≤ 1000) (r0 r1 r2 r3 : ByteArray) (r4 : Int) (W : World) (hg : W.heap[g]? = some (.cells #[.int .i64 (n 1 : Nat), .int .i64 (n 2 : Nat), .int .i64 (n 3 : Nat), .int .i64 (n 4 : Nat)] 65 (0, 0))) :
    Calls Tryz.prog 28 #[.pointer (some ⟨g, 0, none⟩), .agg #[.string r0, .string r1, .string r2, .string r3, .int .i64 r4, .int .i64 4]] W fun e w' => e = .returned (.tuple #[]) ∧ w'.heap[g]? = some (.cells #[.int .i64 ((bump n 4) 1 : Nat), .int .i64 ((bump n 4) 2 : Nat), .int .i64 ((bump n 4) 3 : Nat), .int .i64 ((bump n 4) 4 : Nat)] 65 (0, 0)) ∧ W.grownBy w' (some g) := by
  have HB := below_alloc (Below.refl W.heap.size W) (.cells #[.string r0, .string r1, .string r2, .string r3, .int .i64 r4, .int .i64 4] 48 (0, 0))
  have HC := new_blk W (.cells #[.string r0, .string r1, .string r2, .string r3, .int .i64 r4, .int .i64 4] 48 (0, 0))
  have HG := Lib.hid ((HB.block g (blk_lt hg)).trans hg)
  have HL := Lib.hid (blk_lt hg)
  have HBH := Lib.hid HB
  have x5 : ((W.alloc (.cells #[.string r0, .string r1, .string r2, .string r3, .int .i64 r4, .int .i64 4] 48 (0, 0))).drew).cell? ⟨W.heap.size, 5, none⟩ = some (.int .i64 4) := (blk_cell HC 5).trans rfl
  have c0 : ((W.alloc (.cells #[.string r0, .string r1, .string r2, .string r3, .int .i64 r4, .int .i64 4] 48 (0, 0))).drew).cell? ⟨g, 3, none⟩ = some (.int .i64 (n 4 : Nat)) := (blk_cell HG.out 3).trans rfl
  have f0 : ((W.alloc (.cells #[.string r0, .string r1, .string r2, .string r3, .int .i64 r4, .int .i64 4] 48 (0, 0))).drew).frozen? ⟨g, 3, none⟩ = false := blk_frozen HG.out 3
  have hn2 : (n 4 : Int) ≤ 1000 := by omega
  have wq : IntKind.i64.wrap 3 = 3 := by kernel_rfl
  have hw : IntKind.i64.wrap ((n 4 : Int) + 1) = (n 4 : Int) + 1 := by rw [IntKind.wrap_i64]; omega
  clear HB HC hg
  go_enter Tryz.func28, Tryz.ntmps28
  go_wp2_with fail
  refine WL.start (n := 11) (ds := [10]) (S := fun w' => w'.cell? ⟨W.heap.size, 5, none⟩ = some (.int .i64 4) ∧ w'.cell? ⟨g, 3, none⟩ = some (.int .i64 (n 4 : Nat))) [false, false, false, false, false, false, false, false, false, false, false] (by kernel_rfl) rfl rfl ⟨x5, c0⟩ (fun hHeld => ?_)
  refine WL.tab tab28_1 (fun HT_ => ?_)
  refine WL.more [0, 1, 4, 8, 2, 3, 5, 6, 7, 9] ?_
  repeat (first
    | (refine WL.off (lb' := ?_) (ys := ?_) rfl rfl (by rfl) ?_ HT_.out ?_ (fun _ _ _ h => h) ?_ ?_; rotate_left 2; (focus dsimp only [List.set_cons_zero, List.set_cons_succ]; rfl); (focus kernel_rfl); (focus dsimp only [List.set_cons_zero, List.set_cons_succ]; rfl))
    | (refine WL.pure (lb' := ?_) (v := ?_) (ys := ?_) rfl rfl (by rfl) ?_ HT_.out ?_ (fun _ _ _ h => h) ?_ ?_ ?_; rotate_left 3; (focus dsimp only [List.set_cons_zero, List.set_cons_succ]; rfl); (focus kernel_rfl); (focus intro w'; go_simp; with_reducible rfl); (focus dsimp only [List.set_cons_zero, List.set_cons_succ]; rfl))
    | (refine WL.take (lb' := ?_) (v := ?_) (ys := ?_) rfl rfl (by rfl) ?_ HT_.out ?_ (fun _ _ _ h => h) hHeld ?_ ?_ ?_; rotate_left 3; (focus dsimp only [List.set_cons_zero, List.set_cons_succ]; rfl); (focus kernel_rfl); (focus rintro w' ⟨s0, s1⟩; go_simp; with_reducible rfl); (focus dsimp only [List.set_cons_zero, List.set_cons_succ]; rfl)))
  refine WL.more [10] ?_
  refine WL.last (lb' := ?_) rfl rfl ?_ HT_.out ?_ (by decide) (fun K hK => ?_); rotate_left; (focus dsimp only [List.set_cons_zero, List.set_cons_succ]; rfl); (focus kernel_rfl)
  refine skip_ (w1 := ?_) (by rfl) rfl ?_ ?_
  rotate_left
  (focus go_simp; rfl)
  refine hK.out _ _ ?_
  clear hK K
  refine WL.done HT_.out (by kernel_rfl) ?_
  have HF1 := Lib.hid (blk_put HG.out 3 (.int .i64 ((n 4 : Int) + 1)) rfl)
  have HF2 := Lib.hid (show W.grownBy (((W.alloc (.cells #[.string r0, .string r1, .string r2, .string r3, .int .i64 r4, .int .i64 4] 48 (0, 0))).setCell ⟨g, 3, none⟩ (.int .i64 ((n 4 : Int) + 1))).drew) (some g) from ⟨HBH.out.os, HBH.out.tape, HBH.out.output, by simp [World.setCell], fun k hk hne => (Below.heap_setCell _ _ _ _ (fun e => hne (congrArg some e))).trans (HBH.out.block k hk)⟩)
  clear c0 f0 x5
  go_wp2
  exact ⟨rfl, _, results_none (by kernel_rfl) _ _ _, rfl, HF1.out, HF2.out⟩
/-- A record is counted. -/
theorem add_eq (g : Nat) (n : Int → Nat) (hn : ∀ j, n j ≤ 1000) (r : S48) (hr : 1 ≤ r.f5 ∧ r.f5 ≤ 4) (W : World) (hg : W.heap[g]? = some (.cells #[.int .i64 (n 1 : Nat), .int .i64 (n 2 : Nat), .int .i64 (n 3 : Nat), .int .i64 (n 4 : Nat)] 65 (0, 0))) :
    Calls Tryz.prog 28 #[.pointer (some ⟨g, 0, none⟩), .agg #[.string r.f0, .string r.f1, .string r.f2, .string r.f3, .int .i64 r.f4, .int .i64 r.f5]] W fun e w' => e = .returned (.tuple #[]) ∧ w'.heap[g]? = some (.cells #[.int .i64 ((bump n r.f5) 1 : Nat), .int .i64 ((bump n r.f5) 2 : Nat), .int .i64 ((bump n r.f5) 3 : Nat), .int .i64 ((bump n r.f5) 4 : Nat)] 65 (0, 0)) ∧ W.grownBy w' (some g) := by
  obtain ⟨r0, r1, r2, r3, r4, r5⟩ := r
  obtain h | h | h | h : r5 = 1 ∨ r5 = 2 ∨ r5 = 3 ∨ r5 = 4 := by dsimp only at hr; omega
  all_goals subst h
  · exact add_eq1 g n (hn 1) r0 r1 r2 r3 r4 W hg
  · exact add_eq2 g n (hn 2) r0 r1 r2 r3 r4 W hg
  · exact add_eq3 g n (hn 3) r0 r1 r2 r3 r4 W hg
  · exact add_eq4 g n (hn 4) r0 r1 r2 r3 r4 W hg
end Go.Proofs.YtafigkikblpbnaaGreatDoor.PG
namespace Go.Proofs.YtafigkikblpbnaaGreatDoor.PG
open Go.RowKit Go.Proofs.YtafigkikblpbnaaGreatDoorW.PrintWords Go.Proofs.YtafigkikblpbnaaGreatDoorW.PrintLast Go.Proofs.YtafigkikblpbnaaGreatDoorW.PrintMore
set_option linter.unusedVariables false
set_option linter.unusedSimpArgs false
set_option maxRecDepth 100000
open Go.RowKit Go.Maps Go.WideMaps
theorem lawS : Keyed Tryz.prog 9 := string_keyed Tryz.underlying9
theorem zeroP (w : World) : (zeroValue 67).run Tryz.prog w = .ok (.pointer none) w := by kernel_rfl
/-- How a place of a block is told. -/
def ptrR : Value → Option (DataW Unit × List MemPlace)
  | .pointer none => some (.lit (.int .i64 (-1)), [])
  | .pointer (some ⟨g, 0, none⟩) => some (.lit (.int .i64 g), [])
  | _ => none
def ptrN : Option Nat → Int
  | none => -1
  | some g => g
def ptrV : Option Nat → Value
  | none => .pointer none
  | some g => .pointer (some ⟨g, 0, none⟩)
theorem ptrR_mk (o : Option Nat) : ptrR (ptrV o) = some (.lit (.int .i64 (ptrN o)), []) := by cases o <;> rfl
theorem ptrR_inv {v : Value} {o : Option Nat} {ps : List MemPlace} (h : ptrR v = some (.lit (.int .i64 (ptrN o)), ps)) : v = ptrV o := by
  unfold ptrR at h
  split at h
  · injection h with h
    injection h with h _
    injection h with h
    injection h with _ h
    cases o
    · rfl
    · exact absurd h (by simp only [ptrN]; omega)
  · injection h with h
    injection h with h _
    injection h with h
    injection h with _ h
    cases o
    · exact absurd h (by simp only [ptrN]; omega)
    · simp only [ptrN] at h
      rw [show _ = _ from Int.ofNat.inj h]
      rfl
  · cases h
/-- Block b is a map of at most so many names to blocks: as T says. -/
def HasP (w : World) (b cnt : Nat) (T : ByteArray → Option Nat) : Prop :=
  ∃ D : DataW Unit, w.ownsMap Tryz.prog 9 ptrR b cnt D ∧ ∀ s : ByteArray, s.size ≤ maxLen → D.atKey (.string s.data.toList) (.lit (.int .i64 (-1))) = .lit (.int .i64 (ptrN (T s)))
theorem lit_ne {s t : ByteArray} (h : t ≠ s) : (Lit.string t.data.toList) ≠ Lit.string s.data.toList := by
  intro e
  injection e with e
  apply h
  obtain ⟨a⟩ := s
  obtain ⟨b⟩ := t
  have : b = a := Array.toList_inj.1 e
  rw [this]
theorem HasP.made (w : World) : HasP (w.alloc (.map #[] 0)) w.heap.size 0 (fun _ => none) :=
  ⟨_, World.ownsMap_made _ _ _ _, fun _ _ => rfl⟩
theorem HasP.lookup {w : World} {b cnt : Nat} {T : ByteArray → Option Nat} (h : HasP w b cnt T) (s : ByteArray) (hs : s.size ≤ maxLen) : (Instr.lookup 66 (.map (some b)) (.string s) false).run Tryz.prog w = .ok (ptrV (T s)) w := by
  obtain ⟨D, hD, hS⟩ := h
  obtain ⟨v, ps, hrun, hv⟩ := hD.lookup lawS Tryz.underlying66 (zeroP w) (ptrR_mk none) (keyOf_string_mk Tryz.underlying9 hs)
  rw [show ptrN none = -1 from rfl, hS s hs] at hv
  rw [hrun, ptrR_inv hv]
theorem HasP.put {w : World} {b cnt : Nat} {T : ByteArray → Option Nat} (h : HasP w b cnt T) (hn : cnt < maxLen) (s : ByteArray) (hs : s.size ≤ maxLen) (g : Nat) :
    ∃ w', (Instr.mapUpdate 66 (.map (some b)) (.string s) (.pointer (some ⟨g, 0, none⟩))).run Tryz.prog w = .ok () w' ∧ HasP w' b (cnt + 1) (fun t => if t = s then some g else T t) ∧ w.grownBy w' (some b) := by
  obtain ⟨D, hD, hS⟩ := h
  obtain ⟨w', hrun, h1, h2⟩ := hD.update lawS Tryz.underlying66 hn (keyOf_string_mk Tryz.underlying9 hs) (ptrR_mk (some g))
  refine ⟨w', hrun, ⟨_, h1, fun t ht => ?_⟩, h2⟩
  by_cases e : t = s
  · subst e
    rw [atKey_put_same hD.isMap (show WideAt.IsKeyLit (.string _) from trivial)]
    show _ = DataW.lit (.int .i64 (ptrN (if t = t then some g else T t)))
    rw [if_pos rfl]
  · rw [atKey_put_other (lit_ne e), hS t ht]
    show _ = DataW.lit (.int .i64 (ptrN (if t = s then some g else T t)))
    rw [if_neg e]
theorem HasP.kept {w w' : World} {b cnt : Nat} {T : ByteArray → Option Nat} {row : Option Nat} (h : HasP w b cnt T) (hg : w.grownBy w' row) (hne : some b ≠ row) : HasP w' b cnt T := by
  obtain ⟨D, hD, hS⟩ := h
  exact ⟨D, hD.kept hg hne, hS⟩
end Go.Proofs.YtafigkikblpbnaaGreatDoor.PG
