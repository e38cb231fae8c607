/- Scopes: what they match. What the document's scope matches. Depths, and lists in order. The holds on a record, as the document says; no condition beyond each theorem its own. -/
import Derived.Test.YtafigkikblpbnaaGreatJ17
import Derived.Test.YtafigkikblpbnaaGreatJ05
import Derived.Test.YtafigkikblpbnaaGreatJ07
import Derived.Test.YtafigkikblpbnaaGreatHandAC
import Derived.Test.YtafigkikblpbnaaGreatJ02
import Derived.WalkSpells
import Derived.WalkLawsBesides
import Derived.Lib.Hide
namespace Go.Proofs.YtafigkikblpbnaaGreat.PG
open Go.RowKit Go.Proofs.YtafigkikblpbnaaGreatW.PrintWords Go.Proofs.YtafigkikblpbnaaGreatW.PrintLast Go.Proofs.YtafigkikblpbnaaGreatW.PrintMore
set_option linter.unusedVariables false
set_option linter.unusedSimpArgs false
set_option maxRecDepth 100000

set_option maxHeartbeats 1000000 in
theorem match_op7 (d : Nat) (IH : MatchAt d) (nm : ByteArray) (fr tt : Int) (ks : List S52) (hd : ∀ y ∈ ks, dp d y) (r : S73) (A : Option Addr) (c : Nat) (W : World) (hC : Kd.C k52 W A ks.length ks) (hl : ks.length ≤ c) : Calls Tryz.prog 120 #[.agg #[.int .i64 7, .string nm, .int .i64 fr, .int .i64 tt, .slice A ks.length c], .agg #[.string r.f0, .string r.f1, .string r.f2, .string r.f3, .int .i64 r.f4, .int .i64 r.f5]] W fun e W' => e = .returned (.bool (ks.any (fun y => mt d y r))) ∧ Below W.heap.size W W' := by
  have hz : ((W.alloc (.cells #[.int .i64 7, .string nm, .int .i64 fr, .int .i64 tt, .slice A ks.length c] 52 (0, 0))).alloc (.cells #[.string r.f0, .string r.f1, .string r.f2, .string r.f3, .int .i64 r.f4, .int .i64 r.f5] 73 (0, 0))).heap.size = W.heap.size + 1 + 1 := by show ((W.heap.push _).push _).size = _; rw [Array.size_push, Array.size_push]
  have hst := run_store_new ((W.alloc (.cells #[.int .i64 7, .string nm, .int .i64 fr, .int .i64 tt, .slice A ks.length c] 52 (0, 0))).alloc (.cells #[.string r.f0, .string r.f1, .string r.f2, .string r.f3, .int .i64 r.f4, .int .i64 r.f5] 73 (0, 0))) .nilFunc (.func (Fn.func 146) #[] #[.pointer (some ⟨W.heap.size + 1, 0, none⟩)]) 101 rfl
  rw [hz] at hst
  have HB := Lib.hid (show Below W.heap.size W (((W.alloc (.cells #[.int .i64 7, .string nm, .int .i64 fr, .int .i64 tt, .slice A ks.length c] 52 (0, 0))).alloc (.cells #[.string r.f0, .string r.f1, .string r.f2, .string r.f3, .int .i64 r.f4, .int .i64 r.f5] 73 (0, 0))).alloc (.cells #[(.func (Fn.func 146) #[] #[.pointer (some ⟨W.heap.size + 1, 0, none⟩)])] 101 (0, 0))) from below_alloc (below_alloc (below_alloc (Below.refl _ _) _) _) _)
  have hb1 := Below.block (below_alloc (below_alloc (Below.refl _ (W.alloc (.cells #[.int .i64 7, .string nm, .int .i64 fr, .int .i64 tt, .slice A ks.length c] 52 (0, 0)))) (.cells #[.string r.f0, .string r.f1, .string r.f2, .string r.f3, .int .i64 r.f4, .int .i64 r.f5] 73 (0, 0))) (.cells #[(.func (Fn.func 146) #[] #[.pointer (some ⟨W.heap.size + 1, 0, none⟩)])] 101 (0, 0))) W.heap.size (blk_lt (new_blk W (.cells #[.int .i64 7, .string nm, .int .i64 fr, .int .i64 tt, .slice A ks.length c] 52 (0, 0))))
  have HYX := Lib.hid (hb1.trans (new_blk W (.cells #[.int .i64 7, .string nm, .int .i64 fr, .int .i64 tt, .slice A ks.length c] 52 (0, 0))))
  have hz1 : (W.alloc (.cells #[.int .i64 7, .string nm, .int .i64 fr, .int .i64 tt, .slice A ks.length c] 52 (0, 0))).heap.size = W.heap.size + 1 := by show (W.heap.push _).size = _; rw [Array.size_push]
  have hy2 := new_blk (W.alloc (.cells #[.int .i64 7, .string nm, .int .i64 fr, .int .i64 tt, .slice A ks.length c] 52 (0, 0))) (.cells #[.string r.f0, .string r.f1, .string r.f2, .string r.f3, .int .i64 r.f4, .int .i64 r.f5] 73 (0, 0))
  rw [hz1] at hy2
  have hb2 := Below.block (below_alloc (Below.refl _ ((W.alloc (.cells #[.int .i64 7, .string nm, .int .i64 fr, .int .i64 tt, .slice A ks.length c] 52 (0, 0))).alloc (.cells #[.string r.f0, .string r.f1, .string r.f2, .string r.f3, .int .i64 r.f4, .int .i64 r.f5] 73 (0, 0)))) (.cells #[(.func (Fn.func 146) #[] #[.pointer (some ⟨W.heap.size + 1, 0, none⟩)])] 101 (0, 0))) (W.heap.size + 1) (by rw [hz]; omega)
  have HYR := Lib.hid (hb2.trans hy2)
  have hy3 := new_blk ((W.alloc (.cells #[.int .i64 7, .string nm, .int .i64 fr, .int .i64 tt, .slice A ks.length c] 52 (0, 0))).alloc (.cells #[.string r.f0, .string r.f1, .string r.f2, .string r.f3, .int .i64 r.f4, .int .i64 r.f5] 73 (0, 0))) (.cells #[(.func (Fn.func 146) #[] #[.pointer (some ⟨W.heap.size + 1, 0, none⟩)])] 101 (0, 0))
  rw [hz] at hy3
  have HYF := Lib.hid hy3
  have HC3 := Lib.hid (Kd.C_below hC HB.out)
  clear hz hz1 hy2 hb1 hb2 hy3 hC
  have HCALL := Lib.hid (contS1 (fun y => mt d y r) A c ks (W.heap.size + 1) (((W.alloc (.cells #[.int .i64 7, .string nm, .int .i64 fr, .int .i64 tt, .slice A ks.length c] 52 (0, 0))).alloc (.cells #[.string r.f0, .string r.f1, .string r.f2, .string r.f3, .int .i64 r.f4, .int .i64 r.f5] 73 (0, 0))).alloc (.cells #[(.func (Fn.func 146) #[] #[.pointer (some ⟨W.heap.size + 1, 0, none⟩)])] 101 (0, 0))) HC3.out (fun x hx A4 c4 W' hb hC4 hl4 => lit1_any d IH x r A4 c4 (W.heap.size + 1) W' (hd x hx) hC4 hl4 ((hb.block _ (blk_lt HYR.out)).trans HYR.out)))
  clear hd IH
  go_enter Tryz.func120, Tryz.ntmps120
  go_wp2_with fail
  refine HCALL.out.mono ?_
  rintro e w2 ⟨rfl, hb⟩
  have HB2 := Lib.hid (below_tr HB.out hb)
  clear hb
  go_wp2
  go_ret
  exact ⟨rfl, HB2.out⟩

set_option maxHeartbeats 1000000 in
theorem match_op6 (d : Nat) (IH : MatchAt d) (nm : ByteArray) (fr tt : Int) (ks : List S52) (hd : ∀ y ∈ ks, dp d y) (r : S73) (A : Option Addr) (c : Nat) (W : World) (hC : Kd.C k52 W A ks.length ks) (hl : ks.length ≤ c) : Calls Tryz.prog 120 #[.agg #[.int .i64 6, .string nm, .int .i64 fr, .int .i64 tt, .slice A ks.length c], .agg #[.string r.f0, .string r.f1, .string r.f2, .string r.f3, .int .i64 r.f4, .int .i64 r.f5]] W fun e W' => e = .returned (.bool (!(ks.any (fun y => !mt d y r)))) ∧ Below W.heap.size W W' := by
  have hz : ((W.alloc (.cells #[.int .i64 6, .string nm, .int .i64 fr, .int .i64 tt, .slice A ks.length c] 52 (0, 0))).alloc (.cells #[.string r.f0, .string r.f1, .string r.f2, .string r.f3, .int .i64 r.f4, .int .i64 r.f5] 73 (0, 0))).heap.size = W.heap.size + 1 + 1 := by show ((W.heap.push _).push _).size = _; rw [Array.size_push, Array.size_push]
  have hst := run_store_new ((W.alloc (.cells #[.int .i64 6, .string nm, .int .i64 fr, .int .i64 tt, .slice A ks.length c] 52 (0, 0))).alloc (.cells #[.string r.f0, .string r.f1, .string r.f2, .string r.f3, .int .i64 r.f4, .int .i64 r.f5] 73 (0, 0))) .nilFunc (.func (Fn.func 146) #[] #[.pointer (some ⟨W.heap.size + 1, 0, none⟩)]) 101 rfl
  rw [hz] at hst
  have HB := Lib.hid (show Below W.heap.size W (((W.alloc (.cells #[.int .i64 6, .string nm, .int .i64 fr, .int .i64 tt, .slice A ks.length c] 52 (0, 0))).alloc (.cells #[.string r.f0, .string r.f1, .string r.f2, .string r.f3, .int .i64 r.f4, .int .i64 r.f5] 73 (0, 0))).alloc (.cells #[(.func (Fn.func 146) #[] #[.pointer (some ⟨W.heap.size + 1, 0, none⟩)])] 101 (0, 0))) from below_alloc (below_alloc (below_alloc (Below.refl _ _) _) _) _)
  have hb1 := Below.block (below_alloc (below_alloc (Below.refl _ (W.alloc (.cells #[.int .i64 6, .string nm, .int .i64 fr, .int .i64 tt, .slice A ks.length c] 52 (0, 0)))) (.cells #[.string r.f0, .string r.f1, .string r.f2, .string r.f3, .int .i64 r.f4, .int .i64 r.f5] 73 (0, 0))) (.cells #[(.func (Fn.func 146) #[] #[.pointer (some ⟨W.heap.size + 1, 0, none⟩)])] 101 (0, 0))) W.heap.size (blk_lt (new_blk W (.cells #[.int .i64 6, .string nm, .int .i64 fr, .int .i64 tt, .slice A ks.length c] 52 (0, 0))))
  have HYX := Lib.hid (hb1.trans (new_blk W (.cells #[.int .i64 6, .string nm, .int .i64 fr, .int .i64 tt, .slice A ks.length c] 52 (0, 0))))
  have hz1 : (W.alloc (.cells #[.int .i64 6, .string nm, .int .i64 fr, .int .i64 tt, .slice A ks.length c] 52 (0, 0))).heap.size = W.heap.size + 1 := by show (W.heap.push _).size = _; rw [Array.size_push]
  have hy2 := new_blk (W.alloc (.cells #[.int .i64 6, .string nm, .int .i64 fr, .int .i64 tt, .slice A ks.length c] 52 (0, 0))) (.cells #[.string r.f0, .string r.f1, .string r.f2, .string r.f3, .int .i64 r.f4, .int .i64 r.f5] 73 (0, 0))
  rw [hz1] at hy2
  have hb2 := Below.block (below_alloc (Below.refl _ ((W.alloc (.cells #[.int .i64 6, .string nm, .int .i64 fr, .int .i64 tt, .slice A ks.length c] 52 (0, 0))).alloc (.cells #[.string r.f0, .string r.f1, .string r.f2, .string r.f3, .int .i64 r.f4, .int .i64 r.f5] 73 (0, 0)))) (.cells #[(.func (Fn.func 146) #[] #[.pointer (some ⟨W.heap.size + 1, 0, none⟩)])] 101 (0, 0))) (W.heap.size + 1) (by rw [hz]; omega)
  have HYR := Lib.hid (hb2.trans hy2)
  have hy3 := new_blk ((W.alloc (.cells #[.int .i64 6, .string nm, .int .i64 fr, .int .i64 tt, .slice A ks.length c] 52 (0, 0))).alloc (.cells #[.string r.f0, .string r.f1, .string r.f2, .string r.f3, .int .i64 r.f4, .int .i64 r.f5] 73 (0, 0))) (.cells #[(.func (Fn.func 146) #[] #[.pointer (some ⟨W.heap.size + 1, 0, none⟩)])] 101 (0, 0))
  rw [hz] at hy3
  have HYF := Lib.hid hy3
  have HC3 := Lib.hid (Kd.C_below hC HB.out)
  clear hz hz1 hy2 hb1 hb2 hy3 hC
  have HCALL := Lib.hid (contS2 (fun y => !mt d y r) A c ks (W.heap.size + 1 + 1) (((W.alloc (.cells #[.int .i64 6, .string nm, .int .i64 fr, .int .i64 tt, .slice A ks.length c] 52 (0, 0))).alloc (.cells #[.string r.f0, .string r.f1, .string r.f2, .string r.f3, .int .i64 r.f4, .int .i64 r.f5] 73 (0, 0))).alloc (.cells #[(.func (Fn.func 146) #[] #[.pointer (some ⟨W.heap.size + 1, 0, none⟩)])] 101 (0, 0))) HC3.out (fun x hx A4 c4 W' hb hC4 hl4 => lit2_any d IH x r A4 c4 (W.heap.size + 1) (W.heap.size + 1 + 1) W' (hd x hx) hC4 hl4 ((hb.block _ (blk_lt HYR.out)).trans HYR.out) ((hb.block _ (blk_lt HYF.out)).trans HYF.out)))
  clear hd IH
  generalize ks.any (fun y => !mt d y r) = q at *
  go_enter Tryz.func120, Tryz.ntmps120
  go_wp2_with fail
  refine HCALL.out.mono ?_
  rintro e w2 ⟨rfl, hb⟩
  have HB2 := Lib.hid (below_tr HB.out hb)
  clear hb
  go_wp2
  go_ret
  exact ⟨rfl, HB2.out⟩

set_option maxHeartbeats 1000000 in
theorem match_op8 (d : Nat) (IH : MatchAt d) (nm : ByteArray) (fr tt : Int) (ks : List S52) (hd : ∀ y ∈ ks, dp d y) (r : S73) (A : Option Addr) (c : Nat) (W : World) (hC : Kd.C k52 W A ks.length ks) (hl : ks.length ≤ c) : Calls Tryz.prog 120 #[.agg #[.int .i64 8, .string nm, .int .i64 fr, .int .i64 tt, .slice A ks.length c], .agg #[.string r.f0, .string r.f1, .string r.f2, .string r.f3, .int .i64 r.f4, .int .i64 r.f5]] W fun e W' => e = .returned (.bool (if ks.length = 0 then true else !mt d (rd_T52 ks 0) r)) ∧ Below W.heap.size W W' := by
  have hz : ((W.alloc (.cells #[.int .i64 8, .string nm, .int .i64 fr, .int .i64 tt, .slice A ks.length c] 52 (0, 0))).alloc (.cells #[.string r.f0, .string r.f1, .string r.f2, .string r.f3, .int .i64 r.f4, .int .i64 r.f5] 73 (0, 0))).heap.size = W.heap.size + 1 + 1 := by show ((W.heap.push _).push _).size = _; rw [Array.size_push, Array.size_push]
  have hst := run_store_new ((W.alloc (.cells #[.int .i64 8, .string nm, .int .i64 fr, .int .i64 tt, .slice A ks.length c] 52 (0, 0))).alloc (.cells #[.string r.f0, .string r.f1, .string r.f2, .string r.f3, .int .i64 r.f4, .int .i64 r.f5] 73 (0, 0))) .nilFunc (.func (Fn.func 146) #[] #[.pointer (some ⟨W.heap.size + 1, 0, none⟩)]) 101 rfl
  rw [hz] at hst
  have HB := Lib.hid (show Below W.heap.size W (((W.alloc (.cells #[.int .i64 8, .string nm, .int .i64 fr, .int .i64 tt, .slice A ks.length c] 52 (0, 0))).alloc (.cells #[.string r.f0, .string r.f1, .string r.f2, .string r.f3, .int .i64 r.f4, .int .i64 r.f5] 73 (0, 0))).alloc (.cells #[(.func (Fn.func 146) #[] #[.pointer (some ⟨W.heap.size + 1, 0, none⟩)])] 101 (0, 0))) from below_alloc (below_alloc (below_alloc (Below.refl _ _) _) _) _)
  have hb1 := Below.block (below_alloc (below_alloc (Below.refl _ (W.alloc (.cells #[.int .i64 8, .string nm, .int .i64 fr, .int .i64 tt, .slice A ks.length c] 52 (0, 0)))) (.cells #[.string r.f0, .string r.f1, .string r.f2, .string r.f3, .int .i64 r.f4, .int .i64 r.f5] 73 (0, 0))) (.cells #[(.func (Fn.func 146) #[] #[.pointer (some ⟨W.heap.size + 1, 0, none⟩)])] 101 (0, 0))) W.heap.size (blk_lt (new_blk W (.cells #[.int .i64 8, .string nm, .int .i64 fr, .int .i64 tt, .slice A ks.length c] 52 (0, 0))))
  have HYX := Lib.hid (hb1.trans (new_blk W (.cells #[.int .i64 8, .string nm, .int .i64 fr, .int .i64 tt, .slice A ks.length c] 52 (0, 0))))
  have hz1 : (W.alloc (.cells #[.int .i64 8, .string nm, .int .i64 fr, .int .i64 tt, .slice A ks.length c] 52 (0, 0))).heap.size = W.heap.size + 1 := by show (W.heap.push _).size = _; rw [Array.size_push]
  have hy2 := new_blk (W.alloc (.cells #[.int .i64 8, .string nm, .int .i64 fr, .int .i64 tt, .slice A ks.length c] 52 (0, 0))) (.cells #[.string r.f0, .string r.f1, .string r.f2, .string r.f3, .int .i64 r.f4, .int .i64 r.f5] 73 (0, 0))
  rw [hz1] at hy2
  have hb2 := Below.block (below_alloc (Below.refl _ ((W.alloc (.cells #[.int .i64 8, .string nm, .int .i64 fr, .int .i64 tt, .slice A ks.length c] 52 (0, 0))).alloc (.cells #[.string r.f0, .string r.f1, .string r.f2, .string r.f3, .int .i64 r.f4, .int .i64 r.f5] 73 (0, 0)))) (.cells #[(.func (Fn.func 146) #[] #[.pointer (some ⟨W.heap.size + 1, 0, none⟩)])] 101 (0, 0))) (W.heap.size + 1) (by rw [hz]; omega)
  have HYR := Lib.hid (hb2.trans hy2)
  have hy3 := new_blk ((W.alloc (.cells #[.int .i64 8, .string nm, .int .i64 fr, .int .i64 tt, .slice A ks.length c] 52 (0, 0))).alloc (.cells #[.string r.f0, .string r.f1, .string r.f2, .string r.f3, .int .i64 r.f4, .int .i64 r.f5] 73 (0, 0))) (.cells #[(.func (Fn.func 146) #[] #[.pointer (some ⟨W.heap.size + 1, 0, none⟩)])] 101 (0, 0))
  rw [hz] at hy3
  have HYF := Lib.hid hy3
  have HC3 := Lib.hid (Kd.C_below hC HB.out)
  clear hz hz1 hy2 hb1 hb2 hy3 hC
  have q4 : (((W.alloc (.cells #[.int .i64 8, .string nm, .int .i64 fr, .int .i64 tt, .slice A ks.length c] 52 (0, 0))).alloc (.cells #[.string r.f0, .string r.f1, .string r.f2, .string r.f3, .int .i64 r.f4, .int .i64 r.f5] 73 (0, 0))).alloc (.cells #[(.func (Fn.func 146) #[] #[.pointer (some ⟨W.heap.size + 1, 0, none⟩)])] 101 (0, 0))).cell? ⟨W.heap.size, 4, none⟩ = some (.slice A ks.length c) := (blk_cell HYX.out 4).trans rfl
  have q0 : (((W.alloc (.cells #[.int .i64 8, .string nm, .int .i64 fr, .int .i64 tt, .slice A ks.length c] 52 (0, 0))).alloc (.cells #[.string r.f0, .string r.f1, .string r.f2, .string r.f3, .int .i64 r.f4, .int .i64 r.f5] 73 (0, 0))).alloc (.cells #[(.func (Fn.func 146) #[] #[.pointer (some ⟨W.heap.size + 1, 0, none⟩)])] 101 (0, 0))).cell? ⟨W.heap.size, 0, none⟩ = some (.int .i64 8) := (blk_cell HYX.out 0).trans rfl
  have q5 : (((W.alloc (.cells #[.int .i64 8, .string nm, .int .i64 fr, .int .i64 tt, .slice A ks.length c] 52 (0, 0))).alloc (.cells #[.string r.f0, .string r.f1, .string r.f2, .string r.f3, .int .i64 r.f4, .int .i64 r.f5] 73 (0, 0))).alloc (.cells #[(.func (Fn.func 146) #[] #[.pointer (some ⟨W.heap.size + 1, 0, none⟩)])] 101 (0, 0))).cell? ⟨W.heap.size + 1 + 1, 0, none⟩ = some ((.func (Fn.func 146) #[] #[.pointer (some ⟨W.heap.size + 1, 0, none⟩)])) := (blk_cell HYF.out 0).trans rfl
  have hm : ks.length ≤ 9223372036854775807 := HC3.out.2.1
  by_cases h0 : ks.length = 0
  · rw [if_pos h0]
    have h0' : ((ks.length : Int) == 0) = true := by simp [h0]
    clear hd IH h0
    go_enter Tryz.func120, Tryz.ntmps120
    go_wp2_with fail
    go_quiet (fail)
    go_wp2
    go_ret
    exact ⟨rfl, pw_below_drewN HB.out _⟩
  · rw [if_neg h0]
    have hk0 : 0 < ks.length := by omega
    have h0' : ((ks.length : Int) == 0) = false := by simp [h0]
    have hk1 : (0 : Int) < (ks.length : Int) := by omega
    obtain ⟨ad, A4, c4, e, g0, g1, g2, g3, g4, hl4, hC4⟩ := at_T52 HC3.out 0 (by omega) (by omega)
    subst e
    rw [show (0 : Int).toNat * 5 = 0 from rfl, show ad.add 0 = ad by obtain ⟨b, o, s⟩ := ad; unfold Addr.add; cases s <;> simp] at g0 g1 g2 g3 g4
    have hdy := hd _ (rd_mem52 hk0)
    rw [show ((0 : Nat) : Int) = 0 from rfl] at hdy
    generalize rd_T52 ks 0 = y at *
    generalize hW4 : (((W.alloc (.cells #[.int .i64 8, .string nm, .int .i64 fr, .int .i64 tt, .slice (some ad) ks.length c] 52 (0, 0))).alloc (.cells #[.string r.f0, .string r.f1, .string r.f2, .string r.f3, .int .i64 r.f4, .int .i64 r.f5] 73 (0, 0))).alloc (.cells #[(.func (Fn.func 146) #[] #[.pointer (some ⟨W.heap.size + 1, 0, none⟩)])] 101 (0, 0))) = W4 at *
    have HL := fun w' (h : (Aside0 (Below W4.heap.size W4 w') ∧ w'.cell? ⟨W.heap.size, 4, none⟩ = some (.slice (some ad) ks.length c) ∧ w'.cell? ⟨W.heap.size + 1 + 1, 0, none⟩ = some ((.func (Fn.func 146) #[] #[.pointer (some ⟨W.heap.size + 1, 0, none⟩)])) ∧ w'.cell? ad = some (.int .i64 y.f0) ∧ w'.cell? ⟨ad.block, ad.off + 1, none⟩ = some (.string y.f1) ∧ w'.cell? ⟨ad.block, ad.off + 2, none⟩ = some (.int .i64 y.f2) ∧ w'.cell? ⟨ad.block, ad.off + 3, none⟩ = some (.int .i64 y.f3) ∧ w'.cell? ⟨ad.block, ad.off + 4, none⟩ = some (.slice A4 y.f4.length c4))) => Lib.hid (lit1_any d IH y r A4 c4 (W.heap.size + 1) w' hdy (Kd.C_below hC4 h.1.out) hl4 ((h.1.out.block _ (blk_lt HYR.out)).trans HYR.out))
    have HKEEP := Lib.hid (show ∀ w1 w2 : World, (Aside0 (Below W4.heap.size W4 w1) ∧ w1.cell? ⟨W.heap.size, 4, none⟩ = some (.slice (some ad) ks.length c) ∧ w1.cell? ⟨W.heap.size + 1 + 1, 0, none⟩ = some ((.func (Fn.func 146) #[] #[.pointer (some ⟨W.heap.size + 1, 0, none⟩)])) ∧ w1.cell? ad = some (.int .i64 y.f0) ∧ w1.cell? ⟨ad.block, ad.off + 1, none⟩ = some (.string y.f1) ∧ w1.cell? ⟨ad.block, ad.off + 2, none⟩ = some (.int .i64 y.f2) ∧ w1.cell? ⟨ad.block, ad.off + 3, none⟩ = some (.int .i64 y.f3) ∧ w1.cell? ⟨ad.block, ad.off + 4, none⟩ = some (.slice A4 y.f4.length c4)) → Below w1.heap.size w1 w2 → (Aside0 (Below W4.heap.size W4 w2) ∧ w2.cell? ⟨W.heap.size, 4, none⟩ = some (.slice (some ad) ks.length c) ∧ w2.cell? ⟨W.heap.size + 1 + 1, 0, none⟩ = some ((.func (Fn.func 146) #[] #[.pointer (some ⟨W.heap.size + 1, 0, none⟩)])) ∧ w2.cell? ad = some (.int .i64 y.f0) ∧ w2.cell? ⟨ad.block, ad.off + 1, none⟩ = some (.string y.f1) ∧ w2.cell? ⟨ad.block, ad.off + 2, none⟩ = some (.int .i64 y.f2) ∧ w2.cell? ⟨ad.block, ad.off + 3, none⟩ = some (.int .i64 y.f3) ∧ w2.cell? ⟨ad.block, ad.off + 4, none⟩ = some (.slice A4 y.f4.length c4)) from fun w1 w2 h hb => ⟨⟨below_tr h.1.out hb⟩, below_cell hb h.2.1, below_cell hb h.2.2.1, below_cell hb h.2.2.2.1, below_cell hb h.2.2.2.2.1, below_cell hb h.2.2.2.2.2.1, below_cell hb h.2.2.2.2.2.2.1, below_cell hb h.2.2.2.2.2.2.2⟩)
    have HS0 := Lib.hid (show (Aside0 (Below W4.heap.size W4 W4.drew) ∧ W4.drew.cell? ⟨W.heap.size, 4, none⟩ = some (.slice (some ad) ks.length c) ∧ W4.drew.cell? ⟨W.heap.size + 1 + 1, 0, none⟩ = some ((.func (Fn.func 146) #[] #[.pointer (some ⟨W.heap.size + 1, 0, none⟩)])) ∧ W4.drew.cell? ad = some (.int .i64 y.f0) ∧ W4.drew.cell? ⟨ad.block, ad.off + 1, none⟩ = some (.string y.f1) ∧ W4.drew.cell? ⟨ad.block, ad.off + 2, none⟩ = some (.int .i64 y.f2) ∧ W4.drew.cell? ⟨ad.block, ad.off + 3, none⟩ = some (.int .i64 y.f3) ∧ W4.drew.cell? ⟨ad.block, ad.off + 4, none⟩ = some (.slice A4 y.f4.length c4)) from ⟨⟨below_drew (Below.refl _ _)⟩, q4, q5, g0, g1, g2, g3, g4⟩)
    clear hd IH hW4 hC4 hl4
    go_enter Tryz.func120, Tryz.ntmps120
    go_wp2_with fail
    go_region_held3 (fun w' => (Aside0 (Below W4.heap.size W4 w') ∧ w'.cell? ⟨W.heap.size, 4, none⟩ = some (.slice (some ad) ks.length c) ∧ w'.cell? ⟨W.heap.size + 1 + 1, 0, none⟩ = some ((.func (Fn.func 146) #[] #[.pointer (some ⟨W.heap.size + 1, 0, none⟩)])) ∧ w'.cell? ad = some (.int .i64 y.f0) ∧ w'.cell? ⟨ad.block, ad.off + 1, none⟩ = some (.string y.f1) ∧ w'.cell? ⟨ad.block, ad.off + 2, none⟩ = some (.int .i64 y.f2) ∧ w'.cell? ⟨ad.block, ad.off + 3, none⟩ = some (.int .i64 y.f3) ∧ w'.cell? ⟨ad.block, ad.off + 4, none⟩ = some (.slice A4 y.f4.length c4))) (first | assumption | with_reducible exact HS0.out | with_reducible exact HKEEP.out _ _ (by assumption) hb) (first | (go_at_call 146; refine (HL _ (by assumption)).out.mono ?_; rintro e w3 ⟨rfl, hb⟩))
    have HBX := Lib.hid (below_tr HB.out (Aside0.out (And.left (by assumption))))
    go_wp2
    go_ret
    exact ⟨rfl, HBX.out⟩
theorem match_else (o : Int) (h1 : o ≠ 1) (h2 : o ≠ 2) (h3 : o ≠ 3) (h4 : o ≠ 4) (h5 : o ≠ 5) (h6 : o ≠ 6) (h7 : o ≠ 7) (h8 : o ≠ 8) (nm : ByteArray) (fr tt : Int) (ks : List S52) (r : S73) (A : Option Addr) (c : Nat) (W : World) : Calls Tryz.prog 120 #[.agg #[.int .i64 o, .string nm, .int .i64 fr, .int .i64 tt, .slice A ks.length c], .agg #[.string r.f0, .string r.f1, .string r.f2, .string r.f3, .int .i64 r.f4, .int .i64 r.f5]] W fun e W' => e = .returned (.bool false) ∧ Below W.heap.size W W' := by
  have hz : ((W.alloc (.cells #[.int .i64 o, .string nm, .int .i64 fr, .int .i64 tt, .slice A ks.length c] 52 (0, 0))).alloc (.cells #[.string r.f0, .string r.f1, .string r.f2, .string r.f3, .int .i64 r.f4, .int .i64 r.f5] 73 (0, 0))).heap.size = W.heap.size + 1 + 1 := by show ((W.heap.push _).push _).size = _; rw [Array.size_push, Array.size_push]
  have hst := run_store_new ((W.alloc (.cells #[.int .i64 o, .string nm, .int .i64 fr, .int .i64 tt, .slice A ks.length c] 52 (0, 0))).alloc (.cells #[.string r.f0, .string r.f1, .string r.f2, .string r.f3, .int .i64 r.f4, .int .i64 r.f5] 73 (0, 0))) .nilFunc (.func (Fn.func 146) #[] #[.pointer (some ⟨W.heap.size + 1, 0, none⟩)]) 101 rfl
  rw [hz] at hst
  have b1 : (o == 1) = false := by simp [h1]
  have b2 : (o == 2) = false := by simp [h2]
  have b3 : (o == 3) = false := by simp [h3]
  have b4 : (o == 4) = false := by simp [h4]
  have b5 : (o == 5) = false := by simp [h5]
  have b6 : (o == 6) = false := by simp [h6]
  have b7 : (o == 7) = false := by simp [h7]
  have b8 : (o == 8) = false := by simp [h8]
  clear h1 h2 h3 h4 h5 h6 h7 h8
  go_enter Tryz.func120, Tryz.ntmps120
  go_wp2
  go_ret
  exact ⟨rfl, below_alloc (below_alloc (below_alloc (Below.refl _ _) _) _) _⟩
/-- A scope matches, however deep. -/
theorem match_any : ∀ d, MatchAt d
  | 0 => fun x r A c W hd => absurd hd id
  | d + 1 => by
    intro x r A c W hd hC hl
    obtain ⟨o, nm, fr, tt, ks⟩ := x
    have hd' : ∀ y ∈ ks, dp d y := hd
    simp only at hC hl
    show Calls Tryz.prog 120 #[.agg #[.int .i64 o, .string nm, .int .i64 fr, .int .i64 tt, .slice A ks.length c], .agg #[.string r.f0, .string r.f1, .string r.f2, .string r.f3, .int .i64 r.f4, .int .i64 r.f5]] W fun e W' => e = .returned (.bool (if o = 1 then true else if o = 2 then (r.f1.toList == nm.toList) else if o = 3 then (r.f2.toList == nm.toList) else if o = 4 then (r.f3.toList == nm.toList)
      else if o = 5 then (decide (r.f4 ≥ fr) && decide (r.f4 ≤ tt)) else if o = 7 then ks.any (fun y => mt d y r) else if o = 6 then !(ks.any (fun y => !mt d y r))
      else if o = 8 then (if ks.length = 0 then true else !mt d (rd_T52 ks 0) r) else false)) ∧ Below W.heap.size W W'
    by_cases h1 : o = 1
    · rw [if_pos h1]; subst h1; exact match_op1 nm fr tt ks r A c W
    by_cases h2 : o = 2
    · rw [if_neg h1, if_pos h2]; subst h2; exact match_op2 nm fr tt ks r A c W
    by_cases h3 : o = 3
    · rw [if_neg h1, if_neg h2, if_pos h3]; subst h3; exact match_op3 nm fr tt ks r A c W
    by_cases h4 : o = 4
    · rw [if_neg h1, if_neg h2, if_neg h3, if_pos h4]; subst h4; exact match_op4 nm fr tt ks r A c W
    by_cases h5 : o = 5
    · rw [if_neg h1, if_neg h2, if_neg h3, if_neg h4, if_pos h5]; subst h5; exact match_op5 nm fr tt ks r A c W
    by_cases h7 : o = 7
    · rw [if_neg h1, if_neg h2, if_neg h3, if_neg h4, if_neg h5, if_pos h7]; subst h7; exact match_op7 d (match_any d) nm fr tt ks hd' r A c W hC hl
    by_cases h6 : o = 6
    · rw [if_neg h1, if_neg h2, if_neg h3, if_neg h4, if_neg h5, if_neg h7, if_pos h6]; subst h6; exact match_op6 d (match_any d) nm fr tt ks hd' r A c W hC hl
    by_cases h8 : o = 8
    · rw [if_neg h1, if_neg h2, if_neg h3, if_neg h4, if_neg h5, if_neg h7, if_neg h6, if_pos h8]; subst h8; exact match_op8 d (match_any d) nm fr tt ks hd' r A c W hC hl
    rw [if_neg h1, if_neg h2, if_neg h3, if_neg h4, if_neg h5, if_neg h7, if_neg h6, if_neg h8]
    exact match_else o h1 h2 h3 h4 h5 h6 h7 h8 nm fr tt ks r A c W
/-- Every scope is so deep. -/
theorem dp_up : ∀ d e x, d ≤ e → dp d x → dp e x
  | 0, _, _, _, h => absurd h id
  | d + 1, 0, _, h, _ => absurd h (by omega)
  | d + 1, e + 1, x, h, hx => fun y hy => dp_up d e y (by omega) (hx y hy)
end Go.Proofs.YtafigkikblpbnaaGreat.PG
namespace Go.Proofs.YtafigkikblpbnaaGreat.PG
open Go.RowKit Go.Proofs.YtafigkikblpbnaaGreatW.PrintWords Go.Proofs.YtafigkikblpbnaaGreatW.PrintLast Go.Proofs.YtafigkikblpbnaaGreatW.PrintMore
set_option linter.unusedVariables false
set_option linter.unusedSimpArgs false
set_option maxRecDepth 100000

def MatchR (d : Nat) : Prop := ∀ (x : S52) (r : S73) (A : Option Addr) (c : Nat) (W : World), dp d x → Kd.C k52 W A x.f4.length x.f4 → x.f4.length ≤ c →
  Calls Tryz.prog 56 #[.agg #[.int .i64 x.f0, .string x.f1, .int .i64 x.f2, .int .i64 x.f3, .slice A x.f4.length c], .agg #[.string r.f0, .string r.f1, .string r.f2, .string r.f3, .int .i64 r.f4, .int .i64 r.f5]] W fun e W' => e = .returned (.bool (mt d x r)) ∧ Below W.heap.size W W'

theorem matchR_op1 (nm : ByteArray) (fr tt : Int) (ks : List S52) (r : S73) (A : Option Addr) (c : Nat) (W : World) : Calls Tryz.prog 56 #[.agg #[.int .i64 1, .string nm, .int .i64 fr, .int .i64 tt, .slice A ks.length c], .agg #[.string r.f0, .string r.f1, .string r.f2, .string r.f3, .int .i64 r.f4, .int .i64 r.f5]] W fun e W' => e = .returned (.bool (true)) ∧ Below W.heap.size W W' := by
  go_enter Tryz.func56, Tryz.ntmps56
  go_wp2
  all_goals (go_ret; exact ⟨by first | rfl | (simp_all; done) | (simp_all; omega), below_alloc (below_alloc (Below.refl _ _) _) _⟩)

theorem matchR_op2 (nm : ByteArray) (fr tt : Int) (ks : List S52) (r : S73) (A : Option Addr) (c : Nat) (W : World) : Calls Tryz.prog 56 #[.agg #[.int .i64 2, .string nm, .int .i64 fr, .int .i64 tt, .slice A ks.length c], .agg #[.string r.f0, .string r.f1, .string r.f2, .string r.f3, .int .i64 r.f4, .int .i64 r.f5]] W fun e W' => e = .returned (.bool (r.f1.toList == nm.toList)) ∧ Below W.heap.size W W' := by
  go_enter Tryz.func56, Tryz.ntmps56
  go_wp2
  all_goals (go_ret; exact ⟨by first | rfl | (simp_all; done) | (simp_all; omega), below_alloc (below_alloc (Below.refl _ _) _) _⟩)

theorem matchR_op3 (nm : ByteArray) (fr tt : Int) (ks : List S52) (r : S73) (A : Option Addr) (c : Nat) (W : World) : Calls Tryz.prog 56 #[.agg #[.int .i64 3, .string nm, .int .i64 fr, .int .i64 tt, .slice A ks.length c], .agg #[.string r.f0, .string r.f1, .string r.f2, .string r.f3, .int .i64 r.f4, .int .i64 r.f5]] W fun e W' => e = .returned (.bool (r.f2.toList == nm.toList)) ∧ Below W.heap.size W W' := by
  go_enter Tryz.func56, Tryz.ntmps56
  go_wp2
  all_goals (go_ret; exact ⟨by first | rfl | (simp_all; done) | (simp_all; omega), below_alloc (below_alloc (Below.refl _ _) _) _⟩)

theorem matchR_op4 (nm : ByteArray) (fr tt : Int) (ks : List S52) (r : S73) (A : Option Addr) (c : Nat) (W : World) : Calls Tryz.prog 56 #[.agg #[.int .i64 4, .string nm, .int .i64 fr, .int .i64 tt, .slice A ks.length c], .agg #[.string r.f0, .string r.f1, .string r.f2, .string r.f3, .int .i64 r.f4, .int .i64 r.f5]] W fun e W' => e = .returned (.bool (r.f3.toList == nm.toList)) ∧ Below W.heap.size W W' := by
  go_enter Tryz.func56, Tryz.ntmps56
  go_wp2
  all_goals (go_ret; exact ⟨by first | rfl | (simp_all; done) | (simp_all; omega), below_alloc (below_alloc (Below.refl _ _) _) _⟩)

theorem matchR_op5 (nm : ByteArray) (fr tt : Int) (ks : List S52) (r : S73) (A : Option Addr) (c : Nat) (W : World) : Calls Tryz.prog 56 #[.agg #[.int .i64 5, .string nm, .int .i64 fr, .int .i64 tt, .slice A ks.length c], .agg #[.string r.f0, .string r.f1, .string r.f2, .string r.f3, .int .i64 r.f4, .int .i64 r.f5]] W fun e W' => e = .returned (.bool (decide (r.f4 ≥ fr) && decide (r.f4 ≤ tt))) ∧ Below W.heap.size W W' := by
  go_enter Tryz.func56, Tryz.ntmps56
  go_wp2
  all_goals (go_ret; exact ⟨by first | rfl | (simp_all; done) | (simp_all; omega), below_alloc (below_alloc (Below.refl _ _) _) _⟩)

theorem matchR_else (o : Int) (h1 : o ≠ 1) (h2 : o ≠ 2) (h3 : o ≠ 3) (h4 : o ≠ 4) (h5 : o ≠ 5) (h6 : o ≠ 6) (h7 : o ≠ 7) (h8 : o ≠ 8) (nm : ByteArray) (fr tt : Int) (ks : List S52) (r : S73) (A : Option Addr) (c : Nat) (W : World) : Calls Tryz.prog 56 #[.agg #[.int .i64 o, .string nm, .int .i64 fr, .int .i64 tt, .slice A ks.length c], .agg #[.string r.f0, .string r.f1, .string r.f2, .string r.f3, .int .i64 r.f4, .int .i64 r.f5]] W fun e W' => e = .returned (.bool false) ∧ Below W.heap.size W W' := by
  have hm := fun w => Lib.hid (show Calls Tryz.prog 96 #[.int .i64 o] w fun e w' => e = .returned (.bool false) ∧ w' = w by
    have := many_eq o w
    rwa [decide_eq_false (show ¬ (o = 6 ∨ o = 7) by omega)] at this)
  have b1 : (o == 1) = false := by simp [h1]
  have b2 : (o == 2) = false := by simp [h2]
  have b3 : (o == 3) = false := by simp [h3]
  have b4 : (o == 4) = false := by simp [h4]
  have b5 : (o == 5) = false := by simp [h5]
  have b8 : (o == 8) = false := by simp [h8]
  clear h1 h2 h3 h4 h5 h6 h7 h8
  go_enter Tryz.func56, Tryz.ntmps56
  go_wp2_with (go_at_call 96; refine (hm _).out.mono ?_; rintro e w2 ⟨rfl, rfl⟩)
  go_ret
  exact ⟨rfl, below_alloc (below_alloc (Below.refl _ _) _) _⟩

set_option maxHeartbeats 4000000 in
theorem matchR_op7 (d : Nat) (IH : MatchR d) (nm : ByteArray) (fr tt : Int) (ks : List S52) (hd : ∀ y ∈ ks, dp d y) (r : S73) (A : Option Addr) (c : Nat) (W : World) (hC : Kd.C k52 W A ks.length ks) (hl : ks.length ≤ c) : Calls Tryz.prog 56 #[.agg #[.int .i64 7, .string nm, .int .i64 fr, .int .i64 tt, .slice A ks.length c], .agg #[.string r.f0, .string r.f1, .string r.f2, .string r.f3, .int .i64 r.f4, .int .i64 r.f5]] W fun e W' => e = .returned (.bool (ks.any (fun y => mt d y r))) ∧ Below W.heap.size W W' := by
  have HB := Lib.hid (show Below W.heap.size W ((W.alloc (.cells #[.int .i64 7, .string nm, .int .i64 fr, .int .i64 tt, .slice A ks.length c] 52 (0, 0))).alloc (.cells #[.string r.f0, .string r.f1, .string r.f2, .string r.f3, .int .i64 r.f4, .int .i64 r.f5] 73 (0, 0))) from below_alloc (below_alloc (Below.refl _ _) _) _)
  have hz1 : (W.alloc (.cells #[.int .i64 7, .string nm, .int .i64 fr, .int .i64 tt, .slice A ks.length c] 52 (0, 0))).heap.size = W.heap.size + 1 := by show (W.heap.push _).size = _; rw [Array.size_push]
  have HYX := Lib.hid ((Below.block (below_alloc (Below.refl _ (W.alloc (.cells #[.int .i64 7, .string nm, .int .i64 fr, .int .i64 tt, .slice A ks.length c] 52 (0, 0)))) (.cells #[.string r.f0, .string r.f1, .string r.f2, .string r.f3, .int .i64 r.f4, .int .i64 r.f5] 73 (0, 0))) W.heap.size (blk_lt (new_blk W (.cells #[.int .i64 7, .string nm, .int .i64 fr, .int .i64 tt, .slice A ks.length c] 52 (0, 0))))).trans (new_blk W (.cells #[.int .i64 7, .string nm, .int .i64 fr, .int .i64 tt, .slice A ks.length c] 52 (0, 0))))
  have hy2 := new_blk (W.alloc (.cells #[.int .i64 7, .string nm, .int .i64 fr, .int .i64 tt, .slice A ks.length c] 52 (0, 0))) (.cells #[.string r.f0, .string r.f1, .string r.f2, .string r.f3, .int .i64 r.f4, .int .i64 r.f5] 73 (0, 0))
  rw [hz1] at hy2
  have HYR := Lib.hid hy2
  have HC3 := Lib.hid (Kd.C_below hC HB.out)
  have hm : ks.length ≤ 9223372036854775807 := hC.2.1
  clear hz1 hy2 hC
  have hmn := fun w => Lib.hid (show Calls Tryz.prog 96 #[.int .i64 7] w fun e w' => e = .returned (.bool true) ∧ w' = w from many_eq 7 w)
  have HD := Lib.hid hd
  have HIH := Lib.hid IH
  clear hd IH
  generalize hR : (ks.any (fun y => mt d y r)) = R
  have HR := Lib.hid hR
  clear hR
  go_enter Tryz.func56, Tryz.ntmps56
  go_wp2_with (go_at_call 96; refine (hmn _).out.mono ?_; rintro e w2 ⟨rfl, rfl⟩)
  generalize ((W.alloc (.cells #[.int .i64 7, .string nm, .int .i64 fr, .int .i64 tt, .slice A ks.length c] 52 (0, 0))).alloc (.cells #[.string r.f0, .string r.f1, .string r.f2, .string r.f3, .int .i64 r.f4, .int .i64 r.f5] 73 (0, 0))) = W1 at *
  go_loopw [5] (fun v5 wr => ∃ k : Nat, v5 = .int .i64 k ∧ k ≤ ks.length ∧ Aside0 (ks.any (fun y => mt d y r) = (ks.drop k).any (fun y => mt d y r)) ∧ Aside0 (Below W1.heap.size W1 wr)) (fun v5 _ => ks.length - (intOf v5).toNat)
  case atStart => exact ⟨0, rfl, Nat.zero_le _, ⟨by rw [List.drop_zero]⟩, ⟨Below.refl _ _⟩⟩
  case round =>
    obtain ⟨k, rfl, hk, HI, HBW⟩ := hrel
    have HYX2 := Lib.hid ((HBW.out.block W.heap.size (blk_lt HYX.out)).trans HYX.out)
    have HYR2 := Lib.hid ((HBW.out.block (W.heap.size + 1) (blk_lt HYR.out)).trans HYR.out)
    have q0 : wr.cell? ⟨W.heap.size, 0, none⟩ = some (.int .i64 7) := (blk_cell HYX2.out 0).trans rfl
    have q4 : wr.cell? ⟨W.heap.size, 4, none⟩ = some (.slice A ks.length c) := (blk_cell HYX2.out 4).trans rfl
    have p0 : wr.cell? ⟨W.heap.size + 1, 0, none⟩ = some (.string r.f0) := (blk_cell HYR2.out 0).trans rfl
    have p1 : wr.cell? ⟨W.heap.size + 1, 1, none⟩ = some (.string r.f1) := (blk_cell HYR2.out 1).trans rfl
    have p2 : wr.cell? ⟨W.heap.size + 1, 2, none⟩ = some (.string r.f2) := (blk_cell HYR2.out 2).trans rfl
    have p3 : wr.cell? ⟨W.heap.size + 1, 3, none⟩ = some (.string r.f3) := (blk_cell HYR2.out 3).trans rfl
    have p4 : wr.cell? ⟨W.heap.size + 1, 4, none⟩ = some (.int .i64 r.f4) := (blk_cell HYR2.out 4).trans rfl
    have p5 : wr.cell? ⟨W.heap.size + 1, 5, none⟩ = some (.int .i64 r.f5) := (blk_cell HYR2.out 5).trans rfl
    by_cases hlt : k < ks.length
    · have hlt2 : (k : Int) < (ks.length : Int) := by omega
      obtain ⟨ad, A4, c4, e, g0, g1, g2, g3, g4, hl4, hC4⟩ := at_T52 (Kd.C_below HC3.out HBW.out) (k : Int) (by omega) (by omega)
      subst e
      simp only [Int.toNat_natCast] at g0 g1 g2 g3 g4
      have hdy := HD.out _ (rd_mem52 hlt)
      have HDR := Lib.hid (show ks.drop k = rd_T52 ks (k : Int) :: ks.drop (k + 1) from drop_idxS1 hlt)
      generalize rd_T52 ks (k : Int) = y at *
      have HL := fun w' (h : (Aside0 (Below wr.heap.size wr w') ∧ w'.cell? ⟨W.heap.size, 4, none⟩ = some (.slice (some ad) ks.length c) ∧ w'.cell? ⟨W.heap.size, 0, none⟩ = some (.int .i64 7) ∧ w'.cell? ⟨W.heap.size + 1, 0, none⟩ = some (.string r.f0) ∧ w'.cell? ⟨W.heap.size + 1, 1, none⟩ = some (.string r.f1) ∧ w'.cell? ⟨W.heap.size + 1, 2, none⟩ = some (.string r.f2) ∧ w'.cell? ⟨W.heap.size + 1, 3, none⟩ = some (.string r.f3) ∧ w'.cell? ⟨W.heap.size + 1, 4, none⟩ = some (.int .i64 r.f4) ∧ w'.cell? ⟨W.heap.size + 1, 5, none⟩ = some (.int .i64 r.f5) ∧ w'.cell? (ad.add (k * 5)) = some (.int .i64 y.f0) ∧ w'.cell? ⟨(ad.add (k * 5)).block, (ad.add (k * 5)).off + 1, none⟩ = some (.string y.f1) ∧ w'.cell? ⟨(ad.add (k * 5)).block, (ad.add (k * 5)).off + 2, none⟩ = some (.int .i64 y.f2) ∧ w'.cell? ⟨(ad.add (k * 5)).block, (ad.add (k * 5)).off + 3, none⟩ = some (.int .i64 y.f3) ∧ w'.cell? ⟨(ad.add (k * 5)).block, (ad.add (k * 5)).off + 4, none⟩ = some (.slice A4 y.f4.length c4))) => Lib.hid (HIH.out y r A4 c4 w' hdy (Kd.C_below hC4 h.1.out) hl4)
      have HKEEP := Lib.hid (show ∀ w1 w2 : World, (Aside0 (Below wr.heap.size wr w1) ∧ w1.cell? ⟨W.heap.size, 4, none⟩ = some (.slice (some ad) ks.length c) ∧ w1.cell? ⟨W.heap.size, 0, none⟩ = some (.int .i64 7) ∧ w1.cell? ⟨W.heap.size + 1, 0, none⟩ = some (.string r.f0) ∧ w1.cell? ⟨W.heap.size + 1, 1, none⟩ = some (.string r.f1) ∧ w1.cell? ⟨W.heap.size + 1, 2, none⟩ = some (.string r.f2) ∧ w1.cell? ⟨W.heap.size + 1, 3, none⟩ = some (.string r.f3) ∧ w1.cell? ⟨W.heap.size + 1, 4, none⟩ = some (.int .i64 r.f4) ∧ w1.cell? ⟨W.heap.size + 1, 5, none⟩ = some (.int .i64 r.f5) ∧ w1.cell? (ad.add (k * 5)) = some (.int .i64 y.f0) ∧ w1.cell? ⟨(ad.add (k * 5)).block, (ad.add (k * 5)).off + 1, none⟩ = some (.string y.f1) ∧ w1.cell? ⟨(ad.add (k * 5)).block, (ad.add (k * 5)).off + 2, none⟩ = some (.int .i64 y.f2) ∧ w1.cell? ⟨(ad.add (k * 5)).block, (ad.add (k * 5)).off + 3, none⟩ = some (.int .i64 y.f3) ∧ w1.cell? ⟨(ad.add (k * 5)).block, (ad.add (k * 5)).off + 4, none⟩ = some (.slice A4 y.f4.length c4)) → Below w1.heap.size w1 w2 → (Aside0 (Below wr.heap.size wr w2) ∧ w2.cell? ⟨W.heap.size, 4, none⟩ = some (.slice (some ad) ks.length c) ∧ w2.cell? ⟨W.heap.size, 0, none⟩ = some (.int .i64 7) ∧ w2.cell? ⟨W.heap.size + 1, 0, none⟩ = some (.string r.f0) ∧ w2.cell? ⟨W.heap.size + 1, 1, none⟩ = some (.string r.f1) ∧ w2.cell? ⟨W.heap.size + 1, 2, none⟩ = some (.string r.f2) ∧ w2.cell? ⟨W.heap.size + 1, 3, none⟩ = some (.string r.f3) ∧ w2.cell? ⟨W.heap.size + 1, 4, none⟩ = some (.int .i64 r.f4) ∧ w2.cell? ⟨W.heap.size + 1, 5, none⟩ = some (.int .i64 r.f5) ∧ w2.cell? (ad.add (k * 5)) = some (.int .i64 y.f0) ∧ w2.cell? ⟨(ad.add (k * 5)).block, (ad.add (k * 5)).off + 1, none⟩ = some (.string y.f1) ∧ w2.cell? ⟨(ad.add (k * 5)).block, (ad.add (k * 5)).off + 2, none⟩ = some (.int .i64 y.f2) ∧ w2.cell? ⟨(ad.add (k * 5)).block, (ad.add (k * 5)).off + 3, none⟩ = some (.int .i64 y.f3) ∧ w2.cell? ⟨(ad.add (k * 5)).block, (ad.add (k * 5)).off + 4, none⟩ = some (.slice A4 y.f4.length c4)) from fun w1 w2 h hb => ⟨⟨below_tr h.1.out hb⟩, below_cell hb h.2.1, below_cell hb h.2.2.1, below_cell hb h.2.2.2.1, below_cell hb h.2.2.2.2.1, below_cell hb h.2.2.2.2.2.1, below_cell hb h.2.2.2.2.2.2.1, below_cell hb h.2.2.2.2.2.2.2.1, below_cell hb h.2.2.2.2.2.2.2.2.1, below_cell hb h.2.2.2.2.2.2.2.2.2.1, below_cell hb h.2.2.2.2.2.2.2.2.2.2.1, below_cell hb h.2.2.2.2.2.2.2.2.2.2.2.1, below_cell hb h.2.2.2.2.2.2.2.2.2.2.2.2.1, below_cell hb h.2.2.2.2.2.2.2.2.2.2.2.2.2⟩)
      have HS0 := Lib.hid (show (Aside0 (Below wr.heap.size wr wr.drew) ∧ wr.drew.cell? ⟨W.heap.size, 4, none⟩ = some (.slice (some ad) ks.length c) ∧ wr.drew.cell? ⟨W.heap.size, 0, none⟩ = some (.int .i64 7) ∧ wr.drew.cell? ⟨W.heap.size + 1, 0, none⟩ = some (.string r.f0) ∧ wr.drew.cell? ⟨W.heap.size + 1, 1, none⟩ = some (.string r.f1) ∧ wr.drew.cell? ⟨W.heap.size + 1, 2, none⟩ = some (.string r.f2) ∧ wr.drew.cell? ⟨W.heap.size + 1, 3, none⟩ = some (.string r.f3) ∧ wr.drew.cell? ⟨W.heap.size + 1, 4, none⟩ = some (.int .i64 r.f4) ∧ wr.drew.cell? ⟨W.heap.size + 1, 5, none⟩ = some (.int .i64 r.f5) ∧ wr.drew.cell? (ad.add (k * 5)) = some (.int .i64 y.f0) ∧ wr.drew.cell? ⟨(ad.add (k * 5)).block, (ad.add (k * 5)).off + 1, none⟩ = some (.string y.f1) ∧ wr.drew.cell? ⟨(ad.add (k * 5)).block, (ad.add (k * 5)).off + 2, none⟩ = some (.int .i64 y.f2) ∧ wr.drew.cell? ⟨(ad.add (k * 5)).block, (ad.add (k * 5)).off + 3, none⟩ = some (.int .i64 y.f3) ∧ wr.drew.cell? ⟨(ad.add (k * 5)).block, (ad.add (k * 5)).off + 4, none⟩ = some (.slice A4 y.f4.length c4)) from ⟨⟨below_drew (Below.refl _ _)⟩, q4, q0, p0, p1, p2, p3, p4, p5, g0, g1, g2, g3, g4⟩)
      clear hC4 hl4 hdy
      generalize hq : mt d y r = q at *
      have HQ := Lib.hid hq
      clear hq
      go_wp2_with fail
      go_region_held3 (fun w' => (Aside0 (Below wr.heap.size wr w') ∧ w'.cell? ⟨W.heap.size, 4, none⟩ = some (.slice (some ad) ks.length c) ∧ w'.cell? ⟨W.heap.size, 0, none⟩ = some (.int .i64 7) ∧ w'.cell? ⟨W.heap.size + 1, 0, none⟩ = some (.string r.f0) ∧ w'.cell? ⟨W.heap.size + 1, 1, none⟩ = some (.string r.f1) ∧ w'.cell? ⟨W.heap.size + 1, 2, none⟩ = some (.string r.f2) ∧ w'.cell? ⟨W.heap.size + 1, 3, none⟩ = some (.string r.f3) ∧ w'.cell? ⟨W.heap.size + 1, 4, none⟩ = some (.int .i64 r.f4) ∧ w'.cell? ⟨W.heap.size + 1, 5, none⟩ = some (.int .i64 r.f5) ∧ w'.cell? (ad.add (k * 5)) = some (.int .i64 y.f0) ∧ w'.cell? ⟨(ad.add (k * 5)).block, (ad.add (k * 5)).off + 1, none⟩ = some (.string y.f1) ∧ w'.cell? ⟨(ad.add (k * 5)).block, (ad.add (k * 5)).off + 2, none⟩ = some (.int .i64 y.f2) ∧ w'.cell? ⟨(ad.add (k * 5)).block, (ad.add (k * 5)).off + 3, none⟩ = some (.int .i64 y.f3) ∧ w'.cell? ⟨(ad.add (k * 5)).block, (ad.add (k * 5)).off + 4, none⟩ = some (.slice A4 y.f4.length c4))) (first | assumption | with_reducible exact HS0.out | with_reducible exact HKEEP.out _ _ (by assumption) hb) (first | (go_at_call 56; refine (HL _ (by assumption)).out.mono ?_; rintro e w3 ⟨rfl, hb⟩))
      have HBX := Lib.hid (below_tr HBW.out (Aside0.out (And.left (by assumption))))
      have HXQ := Lib.hid (show (Aside0 (Below wr.heap.size wr w3) ∧ w3.cell? ⟨W.heap.size, 4, none⟩ = some (.slice (some ad) ks.length c) ∧ w3.cell? ⟨W.heap.size, 0, none⟩ = some (.int .i64 7) ∧ w3.cell? ⟨W.heap.size + 1, 0, none⟩ = some (.string r.f0) ∧ w3.cell? ⟨W.heap.size + 1, 1, none⟩ = some (.string r.f1) ∧ w3.cell? ⟨W.heap.size + 1, 2, none⟩ = some (.string r.f2) ∧ w3.cell? ⟨W.heap.size + 1, 3, none⟩ = some (.string r.f3) ∧ w3.cell? ⟨W.heap.size + 1, 4, none⟩ = some (.int .i64 r.f4) ∧ w3.cell? ⟨W.heap.size + 1, 5, none⟩ = some (.int .i64 r.f5) ∧ w3.cell? (ad.add (k * 5)) = some (.int .i64 y.f0) ∧ w3.cell? ⟨(ad.add (k * 5)).block, (ad.add (k * 5)).off + 1, none⟩ = some (.string y.f1) ∧ w3.cell? ⟨(ad.add (k * 5)).block, (ad.add (k * 5)).off + 2, none⟩ = some (.int .i64 y.f2) ∧ w3.cell? ⟨(ad.add (k * 5)).block, (ad.add (k * 5)).off + 3, none⟩ = some (.int .i64 y.f3) ∧ w3.cell? ⟨(ad.add (k * 5)).block, (ad.add (k * 5)).off + 4, none⟩ = some (.slice A4 y.f4.length c4)) from by assumption)
      have t0 := HXQ.out.2.2.1
      cases q
      · go_wp2
        all_goals first
          | (go_ret; exact ⟨ret_b (by rw [← HR.out, HI.out, HDR.out, List.any_cons, HQ.out]; simp), below_tr HB.out HBX.out⟩)
          | (go_roundw
             case rel => exact ⟨k + 1, by go_num, by omega, ⟨by rw [HI.out, HDR.out, List.any_cons, HQ.out]; simp⟩, ⟨HBX.out⟩⟩
             case measure => simp [intOf]; omega)
      · go_wp2
        all_goals first
          | (go_ret; exact ⟨ret_b (by rw [← HR.out, HI.out, HDR.out, List.any_cons, HQ.out]; simp), below_tr HB.out HBX.out⟩)
          | (go_roundw
             case rel => exact ⟨k + 1, by go_num, by omega, ⟨by rw [HI.out, HDR.out, List.any_cons, HQ.out]; simp⟩, ⟨HBX.out⟩⟩
             case measure => simp [intOf]; omega)
    · have HE := Lib.hid (show R = false from by rw [← HR.out, HI.out, List.drop_of_length_le (by omega)]; rfl)
      go_wp2
      go_ret
      exact ⟨ret_b HE.out.symm, below_tr HB.out HBW.out⟩

set_option maxHeartbeats 4000000 in
theorem matchR_op6 (d : Nat) (IH : MatchR d) (nm : ByteArray) (fr tt : Int) (ks : List S52) (hd : ∀ y ∈ ks, dp d y) (r : S73) (A : Option Addr) (c : Nat) (W : World) (hC : Kd.C k52 W A ks.length ks) (hl : ks.length ≤ c) : Calls Tryz.prog 56 #[.agg #[.int .i64 6, .string nm, .int .i64 fr, .int .i64 tt, .slice A ks.length c], .agg #[.string r.f0, .string r.f1, .string r.f2, .string r.f3, .int .i64 r.f4, .int .i64 r.f5]] W fun e W' => e = .returned (.bool (!(ks.any (fun y => !mt d y r)))) ∧ Below W.heap.size W W' := by
  have HB := Lib.hid (show Below W.heap.size W ((W.alloc (.cells #[.int .i64 6, .string nm, .int .i64 fr, .int .i64 tt, .slice A ks.length c] 52 (0, 0))).alloc (.cells #[.string r.f0, .string r.f1, .string r.f2, .string r.f3, .int .i64 r.f4, .int .i64 r.f5] 73 (0, 0))) from below_alloc (below_alloc (Below.refl _ _) _) _)
  have hz1 : (W.alloc (.cells #[.int .i64 6, .string nm, .int .i64 fr, .int .i64 tt, .slice A ks.length c] 52 (0, 0))).heap.size = W.heap.size + 1 := by show (W.heap.push _).size = _; rw [Array.size_push]
  have HYX := Lib.hid ((Below.block (below_alloc (Below.refl _ (W.alloc (.cells #[.int .i64 6, .string nm, .int .i64 fr, .int .i64 tt, .slice A ks.length c] 52 (0, 0)))) (.cells #[.string r.f0, .string r.f1, .string r.f2, .string r.f3, .int .i64 r.f4, .int .i64 r.f5] 73 (0, 0))) W.heap.size (blk_lt (new_blk W (.cells #[.int .i64 6, .string nm, .int .i64 fr, .int .i64 tt, .slice A ks.length c] 52 (0, 0))))).trans (new_blk W (.cells #[.int .i64 6, .string nm, .int .i64 fr, .int .i64 tt, .slice A ks.length c] 52 (0, 0))))
  have hy2 := new_blk (W.alloc (.cells #[.int .i64 6, .string nm, .int .i64 fr, .int .i64 tt, .slice A ks.length c] 52 (0, 0))) (.cells #[.string r.f0, .string r.f1, .string r.f2, .string r.f3, .int .i64 r.f4, .int .i64 r.f5] 73 (0, 0))
  rw [hz1] at hy2
  have HYR := Lib.hid hy2
  have HC3 := Lib.hid (Kd.C_below hC HB.out)
  have hm : ks.length ≤ 9223372036854775807 := hC.2.1
  clear hz1 hy2 hC
  have hmn := fun w => Lib.hid (show Calls Tryz.prog 96 #[.int .i64 6] w fun e w' => e = .returned (.bool true) ∧ w' = w from many_eq 6 w)
  have HD := Lib.hid hd
  have HIH := Lib.hid IH
  clear hd IH
  generalize hR : (!(ks.any (fun y => !mt d y r))) = R
  have HR := Lib.hid hR
  clear hR
  go_enter Tryz.func56, Tryz.ntmps56
  go_wp2_with (go_at_call 96; refine (hmn _).out.mono ?_; rintro e w2 ⟨rfl, rfl⟩)
  generalize ((W.alloc (.cells #[.int .i64 6, .string nm, .int .i64 fr, .int .i64 tt, .slice A ks.length c] 52 (0, 0))).alloc (.cells #[.string r.f0, .string r.f1, .string r.f2, .string r.f3, .int .i64 r.f4, .int .i64 r.f5] 73 (0, 0))) = W1 at *
  go_loopw [5] (fun v5 wr => ∃ k : Nat, v5 = .int .i64 k ∧ k ≤ ks.length ∧ Aside0 (ks.any (fun y => !mt d y r) = (ks.drop k).any (fun y => !mt d y r)) ∧ Aside0 (Below W1.heap.size W1 wr)) (fun v5 _ => ks.length - (intOf v5).toNat)
  case atStart => exact ⟨0, rfl, Nat.zero_le _, ⟨by rw [List.drop_zero]⟩, ⟨Below.refl _ _⟩⟩
  case round =>
    obtain ⟨k, rfl, hk, HI, HBW⟩ := hrel
    have HYX2 := Lib.hid ((HBW.out.block W.heap.size (blk_lt HYX.out)).trans HYX.out)
    have HYR2 := Lib.hid ((HBW.out.block (W.heap.size + 1) (blk_lt HYR.out)).trans HYR.out)
    have q0 : wr.cell? ⟨W.heap.size, 0, none⟩ = some (.int .i64 6) := (blk_cell HYX2.out 0).trans rfl
    have q4 : wr.cell? ⟨W.heap.size, 4, none⟩ = some (.slice A ks.length c) := (blk_cell HYX2.out 4).trans rfl
    have p0 : wr.cell? ⟨W.heap.size + 1, 0, none⟩ = some (.string r.f0) := (blk_cell HYR2.out 0).trans rfl
    have p1 : wr.cell? ⟨W.heap.size + 1, 1, none⟩ = some (.string r.f1) := (blk_cell HYR2.out 1).trans rfl
    have p2 : wr.cell? ⟨W.heap.size + 1, 2, none⟩ = some (.string r.f2) := (blk_cell HYR2.out 2).trans rfl
    have p3 : wr.cell? ⟨W.heap.size + 1, 3, none⟩ = some (.string r.f3) := (blk_cell HYR2.out 3).trans rfl
    have p4 : wr.cell? ⟨W.heap.size + 1, 4, none⟩ = some (.int .i64 r.f4) := (blk_cell HYR2.out 4).trans rfl
    have p5 : wr.cell? ⟨W.heap.size + 1, 5, none⟩ = some (.int .i64 r.f5) := (blk_cell HYR2.out 5).trans rfl
    by_cases hlt : k < ks.length
    · have hlt2 : (k : Int) < (ks.length : Int) := by omega
      obtain ⟨ad, A4, c4, e, g0, g1, g2, g3, g4, hl4, hC4⟩ := at_T52 (Kd.C_below HC3.out HBW.out) (k : Int) (by omega) (by omega)
      subst e
      simp only [Int.toNat_natCast] at g0 g1 g2 g3 g4
      have hdy := HD.out _ (rd_mem52 hlt)
      have HDR := Lib.hid (show ks.drop k = rd_T52 ks (k : Int) :: ks.drop (k + 1) from drop_idxS1 hlt)
      generalize rd_T52 ks (k : Int) = y at *
      have HL := fun w' (h : (Aside0 (Below wr.heap.size wr w') ∧ w'.cell? ⟨W.heap.size, 4, none⟩ = some (.slice (some ad) ks.length c) ∧ w'.cell? ⟨W.heap.size, 0, none⟩ = some (.int .i64 6) ∧ w'.cell? ⟨W.heap.size + 1, 0, none⟩ = some (.string r.f0) ∧ w'.cell? ⟨W.heap.size + 1, 1, none⟩ = some (.string r.f1) ∧ w'.cell? ⟨W.heap.size + 1, 2, none⟩ = some (.string r.f2) ∧ w'.cell? ⟨W.heap.size + 1, 3, none⟩ = some (.string r.f3) ∧ w'.cell? ⟨W.heap.size + 1, 4, none⟩ = some (.int .i64 r.f4) ∧ w'.cell? ⟨W.heap.size + 1, 5, none⟩ = some (.int .i64 r.f5) ∧ w'.cell? (ad.add (k * 5)) = some (.int .i64 y.f0) ∧ w'.cell? ⟨(ad.add (k * 5)).block, (ad.add (k * 5)).off + 1, none⟩ = some (.string y.f1) ∧ w'.cell? ⟨(ad.add (k * 5)).block, (ad.add (k * 5)).off + 2, none⟩ = some (.int .i64 y.f2) ∧ w'.cell? ⟨(ad.add (k * 5)).block, (ad.add (k * 5)).off + 3, none⟩ = some (.int .i64 y.f3) ∧ w'.cell? ⟨(ad.add (k * 5)).block, (ad.add (k * 5)).off + 4, none⟩ = some (.slice A4 y.f4.length c4))) => Lib.hid (HIH.out y r A4 c4 w' hdy (Kd.C_below hC4 h.1.out) hl4)
      have HKEEP := Lib.hid (show ∀ w1 w2 : World, (Aside0 (Below wr.heap.size wr w1) ∧ w1.cell? ⟨W.heap.size, 4, none⟩ = some (.slice (some ad) ks.length c) ∧ w1.cell? ⟨W.heap.size, 0, none⟩ = some (.int .i64 6) ∧ w1.cell? ⟨W.heap.size + 1, 0, none⟩ = some (.string r.f0) ∧ w1.cell? ⟨W.heap.size + 1, 1, none⟩ = some (.string r.f1) ∧ w1.cell? ⟨W.heap.size + 1, 2, none⟩ = some (.string r.f2) ∧ w1.cell? ⟨W.heap.size + 1, 3, none⟩ = some (.string r.f3) ∧ w1.cell? ⟨W.heap.size + 1, 4, none⟩ = some (.int .i64 r.f4) ∧ w1.cell? ⟨W.heap.size + 1, 5, none⟩ = some (.int .i64 r.f5) ∧ w1.cell? (ad.add (k * 5)) = some (.int .i64 y.f0) ∧ w1.cell? ⟨(ad.add (k * 5)).block, (ad.add (k * 5)).off + 1, none⟩ = some (.string y.f1) ∧ w1.cell? ⟨(ad.add (k * 5)).block, (ad.add (k * 5)).off + 2, none⟩ = some (.int .i64 y.f2) ∧ w1.cell? ⟨(ad.add (k * 5)).block, (ad.add (k * 5)).off + 3, none⟩ = some (.int .i64 y.f3) ∧ w1.cell? ⟨(ad.add (k * 5)).block, (ad.add (k * 5)).off + 4, none⟩ = some (.slice A4 y.f4.length c4)) → Below w1.heap.size w1 w2 → (Aside0 (Below wr.heap.size wr w2) ∧ w2.cell? ⟨W.heap.size, 4, none⟩ = some (.slice (some ad) ks.length c) ∧ w2.cell? ⟨W.heap.size, 0, none⟩ = some (.int .i64 6) ∧ w2.cell? ⟨W.heap.size + 1, 0, none⟩ = some (.string r.f0) ∧ w2.cell? ⟨W.heap.size + 1, 1, none⟩ = some (.string r.f1) ∧ w2.cell? ⟨W.heap.size + 1, 2, none⟩ = some (.string r.f2) ∧ w2.cell? ⟨W.heap.size + 1, 3, none⟩ = some (.string r.f3) ∧ w2.cell? ⟨W.heap.size + 1, 4, none⟩ = some (.int .i64 r.f4) ∧ w2.cell? ⟨W.heap.size + 1, 5, none⟩ = some (.int .i64 r.f5) ∧ w2.cell? (ad.add (k * 5)) = some (.int .i64 y.f0) ∧ w2.cell? ⟨(ad.add (k * 5)).block, (ad.add (k * 5)).off + 1, none⟩ = some (.string y.f1) ∧ w2.cell? ⟨(ad.add (k * 5)).block, (ad.add (k * 5)).off + 2, none⟩ = some (.int .i64 y.f2) ∧ w2.cell? ⟨(ad.add (k * 5)).block, (ad.add (k * 5)).off + 3, none⟩ = some (.int .i64 y.f3) ∧ w2.cell? ⟨(ad.add (k * 5)).block, (ad.add (k * 5)).off + 4, none⟩ = some (.slice A4 y.f4.length c4)) from fun w1 w2 h hb => ⟨⟨below_tr h.1.out hb⟩, below_cell hb h.2.1, below_cell hb h.2.2.1, below_cell hb h.2.2.2.1, below_cell hb h.2.2.2.2.1, below_cell hb h.2.2.2.2.2.1, below_cell hb h.2.2.2.2.2.2.1, below_cell hb h.2.2.2.2.2.2.2.1, below_cell hb h.2.2.2.2.2.2.2.2.1, below_cell hb h.2.2.2.2.2.2.2.2.2.1, below_cell hb h.2.2.2.2.2.2.2.2.2.2.1, below_cell hb h.2.2.2.2.2.2.2.2.2.2.2.1, below_cell hb h.2.2.2.2.2.2.2.2.2.2.2.2.1, below_cell hb h.2.2.2.2.2.2.2.2.2.2.2.2.2⟩)
      have HS0 := Lib.hid (show (Aside0 (Below wr.heap.size wr wr.drew) ∧ wr.drew.cell? ⟨W.heap.size, 4, none⟩ = some (.slice (some ad) ks.length c) ∧ wr.drew.cell? ⟨W.heap.size, 0, none⟩ = some (.int .i64 6) ∧ wr.drew.cell? ⟨W.heap.size + 1, 0, none⟩ = some (.string r.f0) ∧ wr.drew.cell? ⟨W.heap.size + 1, 1, none⟩ = some (.string r.f1) ∧ wr.drew.cell? ⟨W.heap.size + 1, 2, none⟩ = some (.string r.f2) ∧ wr.drew.cell? ⟨W.heap.size + 1, 3, none⟩ = some (.string r.f3) ∧ wr.drew.cell? ⟨W.heap.size + 1, 4, none⟩ = some (.int .i64 r.f4) ∧ wr.drew.cell? ⟨W.heap.size + 1, 5, none⟩ = some (.int .i64 r.f5) ∧ wr.drew.cell? (ad.add (k * 5)) = some (.int .i64 y.f0) ∧ wr.drew.cell? ⟨(ad.add (k * 5)).block, (ad.add (k * 5)).off + 1, none⟩ = some (.string y.f1) ∧ wr.drew.cell? ⟨(ad.add (k * 5)).block, (ad.add (k * 5)).off + 2, none⟩ = some (.int .i64 y.f2) ∧ wr.drew.cell? ⟨(ad.add (k * 5)).block, (ad.add (k * 5)).off + 3, none⟩ = some (.int .i64 y.f3) ∧ wr.drew.cell? ⟨(ad.add (k * 5)).block, (ad.add (k * 5)).off + 4, none⟩ = some (.slice A4 y.f4.length c4)) from ⟨⟨below_drew (Below.refl _ _)⟩, q4, q0, p0, p1, p2, p3, p4, p5, g0, g1, g2, g3, g4⟩)
      clear hC4 hl4 hdy
      generalize hq : mt d y r = q at *
      have HQ := Lib.hid hq
      clear hq
      go_wp2_with fail
      go_region_held3 (fun w' => (Aside0 (Below wr.heap.size wr w') ∧ w'.cell? ⟨W.heap.size, 4, none⟩ = some (.slice (some ad) ks.length c) ∧ w'.cell? ⟨W.heap.size, 0, none⟩ = some (.int .i64 6) ∧ w'.cell? ⟨W.heap.size + 1, 0, none⟩ = some (.string r.f0) ∧ w'.cell? ⟨W.heap.size + 1, 1, none⟩ = some (.string r.f1) ∧ w'.cell? ⟨W.heap.size + 1, 2, none⟩ = some (.string r.f2) ∧ w'.cell? ⟨W.heap.size + 1, 3, none⟩ = some (.string r.f3) ∧ w'.cell? ⟨W.heap.size + 1, 4, none⟩ = some (.int .i64 r.f4) ∧ w'.cell? ⟨W.heap.size + 1, 5, none⟩ = some (.int .i64 r.f5) ∧ w'.cell? (ad.add (k * 5)) = some (.int .i64 y.f0) ∧ w'.cell? ⟨(ad.add (k * 5)).block, (ad.add (k * 5)).off + 1, none⟩ = some (.string y.f1) ∧ w'.cell? ⟨(ad.add (k * 5)).block, (ad.add (k * 5)).off + 2, none⟩ = some (.int .i64 y.f2) ∧ w'.cell? ⟨(ad.add (k * 5)).block, (ad.add (k * 5)).off + 3, none⟩ = some (.int .i64 y.f3) ∧ w'.cell? ⟨(ad.add (k * 5)).block, (ad.add (k * 5)).off + 4, none⟩ = some (.slice A4 y.f4.length c4))) (first | assumption | with_reducible exact HS0.out | with_reducible exact HKEEP.out _ _ (by assumption) hb) (first | (go_at_call 56; refine (HL _ (by assumption)).out.mono ?_; rintro e w3 ⟨rfl, hb⟩))
      have HBX := Lib.hid (below_tr HBW.out (Aside0.out (And.left (by assumption))))
      have HXQ := Lib.hid (show (Aside0 (Below wr.heap.size wr w3) ∧ w3.cell? ⟨W.heap.size, 4, none⟩ = some (.slice (some ad) ks.length c) ∧ w3.cell? ⟨W.heap.size, 0, none⟩ = some (.int .i64 6) ∧ w3.cell? ⟨W.heap.size + 1, 0, none⟩ = some (.string r.f0) ∧ w3.cell? ⟨W.heap.size + 1, 1, none⟩ = some (.string r.f1) ∧ w3.cell? ⟨W.heap.size + 1, 2, none⟩ = some (.string r.f2) ∧ w3.cell? ⟨W.heap.size + 1, 3, none⟩ = some (.string r.f3) ∧ w3.cell? ⟨W.heap.size + 1, 4, none⟩ = some (.int .i64 r.f4) ∧ w3.cell? ⟨W.heap.size + 1, 5, none⟩ = some (.int .i64 r.f5) ∧ w3.cell? (ad.add (k * 5)) = some (.int .i64 y.f0) ∧ w3.cell? ⟨(ad.add (k * 5)).block, (ad.add (k * 5)).off + 1, none⟩ = some (.string y.f1) ∧ w3.cell? ⟨(ad.add (k * 5)).block, (ad.add (k * 5)).off + 2, none⟩ = some (.int .i64 y.f2) ∧ w3.cell? ⟨(ad.add (k * 5)).block, (ad.add (k * 5)).off + 3, none⟩ = some (.int .i64 y.f3) ∧ w3.cell? ⟨(ad.add (k * 5)).block, (ad.add (k * 5)).off + 4, none⟩ = some (.slice A4 y.f4.length c4)) from by assumption)
      have t0 := HXQ.out.2.2.1
      cases q
      · go_wp2
        all_goals first
          | (go_ret; exact ⟨ret_b (by rw [← HR.out, HI.out, HDR.out, List.any_cons, HQ.out]; simp), below_tr HB.out HBX.out⟩)
          | (go_roundw
             case rel => exact ⟨k + 1, by go_num, by omega, ⟨by rw [HI.out, HDR.out, List.any_cons, HQ.out]; simp⟩, ⟨HBX.out⟩⟩
             case measure => simp [intOf]; omega)
      · go_wp2
        all_goals first
          | (go_ret; exact ⟨ret_b (by rw [← HR.out, HI.out, HDR.out, List.any_cons, HQ.out]; simp), below_tr HB.out HBX.out⟩)
          | (go_roundw
             case rel => exact ⟨k + 1, by go_num, by omega, ⟨by rw [HI.out, HDR.out, List.any_cons, HQ.out]; simp⟩, ⟨HBX.out⟩⟩
             case measure => simp [intOf]; omega)
    · have HE := Lib.hid (show R = true from by rw [← HR.out, HI.out, List.drop_of_length_le (by omega)]; rfl)
      go_wp2
      go_ret
      exact ⟨ret_b HE.out.symm, below_tr HB.out HBW.out⟩

set_option maxHeartbeats 4000000 in
theorem matchR_op8 (d : Nat) (IH : MatchR d) (nm : ByteArray) (fr tt : Int) (ks : List S52) (hd : ∀ y ∈ ks, dp d y) (r : S73) (A : Option Addr) (c : Nat) (W : World) (hC : Kd.C k52 W A ks.length ks) (hl : ks.length ≤ c) : Calls Tryz.prog 56 #[.agg #[.int .i64 8, .string nm, .int .i64 fr, .int .i64 tt, .slice A ks.length c], .agg #[.string r.f0, .string r.f1, .string r.f2, .string r.f3, .int .i64 r.f4, .int .i64 r.f5]] W fun e W' => e = .returned (.bool (if ks.length = 0 then true else !mt d (rd_T52 ks 0) r)) ∧ Below W.heap.size W W' := by
  have HB := Lib.hid (show Below W.heap.size W ((W.alloc (.cells #[.int .i64 8, .string nm, .int .i64 fr, .int .i64 tt, .slice A ks.length c] 52 (0, 0))).alloc (.cells #[.string r.f0, .string r.f1, .string r.f2, .string r.f3, .int .i64 r.f4, .int .i64 r.f5] 73 (0, 0))) from below_alloc (below_alloc (Below.refl _ _) _) _)
  have hz1 : (W.alloc (.cells #[.int .i64 8, .string nm, .int .i64 fr, .int .i64 tt, .slice A ks.length c] 52 (0, 0))).heap.size = W.heap.size + 1 := by show (W.heap.push _).size = _; rw [Array.size_push]
  have HYX := Lib.hid ((Below.block (below_alloc (Below.refl _ (W.alloc (.cells #[.int .i64 8, .string nm, .int .i64 fr, .int .i64 tt, .slice A ks.length c] 52 (0, 0)))) (.cells #[.string r.f0, .string r.f1, .string r.f2, .string r.f3, .int .i64 r.f4, .int .i64 r.f5] 73 (0, 0))) W.heap.size (blk_lt (new_blk W (.cells #[.int .i64 8, .string nm, .int .i64 fr, .int .i64 tt, .slice A ks.length c] 52 (0, 0))))).trans (new_blk W (.cells #[.int .i64 8, .string nm, .int .i64 fr, .int .i64 tt, .slice A ks.length c] 52 (0, 0))))
  have hy2 := new_blk (W.alloc (.cells #[.int .i64 8, .string nm, .int .i64 fr, .int .i64 tt, .slice A ks.length c] 52 (0, 0))) (.cells #[.string r.f0, .string r.f1, .string r.f2, .string r.f3, .int .i64 r.f4, .int .i64 r.f5] 73 (0, 0))
  rw [hz1] at hy2
  have HYR := Lib.hid hy2
  have HC3 := Lib.hid (Kd.C_below hC HB.out)
  have hm : ks.length ≤ 9223372036854775807 := hC.2.1
  clear hz1 hy2 hC
  by_cases h0 : ks.length = 0
  · rw [if_pos h0]
    have h0' : ((ks.length : Int) == 0) = true := by simp [h0]
    clear hd IH h0
    go_enter Tryz.func56, Tryz.ntmps56
    go_wp2_with fail
    go_quiet (fail)
    go_wp2
    go_ret
    exact ⟨rfl, pw_below_drewN HB.out _⟩
  · rw [if_neg h0]
    have hk0 : 0 < ks.length := by omega
    have h0' : ((ks.length : Int) == 0) = false := by simp [h0]
    have hk1 : (0 : Int) < (ks.length : Int) := by omega
    have HYX2 := HYX
    have HYR2 := HYR
    have q0 : ((W.alloc (.cells #[.int .i64 8, .string nm, .int .i64 fr, .int .i64 tt, .slice A ks.length c] 52 (0, 0))).alloc (.cells #[.string r.f0, .string r.f1, .string r.f2, .string r.f3, .int .i64 r.f4, .int .i64 r.f5] 73 (0, 0))).cell? ⟨W.heap.size, 0, none⟩ = some (.int .i64 8) := (blk_cell HYX2.out 0).trans rfl
    have q4 : ((W.alloc (.cells #[.int .i64 8, .string nm, .int .i64 fr, .int .i64 tt, .slice A ks.length c] 52 (0, 0))).alloc (.cells #[.string r.f0, .string r.f1, .string r.f2, .string r.f3, .int .i64 r.f4, .int .i64 r.f5] 73 (0, 0))).cell? ⟨W.heap.size, 4, none⟩ = some (.slice A ks.length c) := (blk_cell HYX2.out 4).trans rfl
    have p0 : ((W.alloc (.cells #[.int .i64 8, .string nm, .int .i64 fr, .int .i64 tt, .slice A ks.length c] 52 (0, 0))).alloc (.cells #[.string r.f0, .string r.f1, .string r.f2, .string r.f3, .int .i64 r.f4, .int .i64 r.f5] 73 (0, 0))).cell? ⟨W.heap.size + 1, 0, none⟩ = some (.string r.f0) := (blk_cell HYR2.out 0).trans rfl
    have p1 : ((W.alloc (.cells #[.int .i64 8, .string nm, .int .i64 fr, .int .i64 tt, .slice A ks.length c] 52 (0, 0))).alloc (.cells #[.string r.f0, .string r.f1, .string r.f2, .string r.f3, .int .i64 r.f4, .int .i64 r.f5] 73 (0, 0))).cell? ⟨W.heap.size + 1, 1, none⟩ = some (.string r.f1) := (blk_cell HYR2.out 1).trans rfl
    have p2 : ((W.alloc (.cells #[.int .i64 8, .string nm, .int .i64 fr, .int .i64 tt, .slice A ks.length c] 52 (0, 0))).alloc (.cells #[.string r.f0, .string r.f1, .string r.f2, .string r.f3, .int .i64 r.f4, .int .i64 r.f5] 73 (0, 0))).cell? ⟨W.heap.size + 1, 2, none⟩ = some (.string r.f2) := (blk_cell HYR2.out 2).trans rfl
    have p3 : ((W.alloc (.cells #[.int .i64 8, .string nm, .int .i64 fr, .int .i64 tt, .slice A ks.length c] 52 (0, 0))).alloc (.cells #[.string r.f0, .string r.f1, .string r.f2, .string r.f3, .int .i64 r.f4, .int .i64 r.f5] 73 (0, 0))).cell? ⟨W.heap.size + 1, 3, none⟩ = some (.string r.f3) := (blk_cell HYR2.out 3).trans rfl
    have p4 : ((W.alloc (.cells #[.int .i64 8, .string nm, .int .i64 fr, .int .i64 tt, .slice A ks.length c] 52 (0, 0))).alloc (.cells #[.string r.f0, .string r.f1, .string r.f2, .string r.f3, .int .i64 r.f4, .int .i64 r.f5] 73 (0, 0))).cell? ⟨W.heap.size + 1, 4, none⟩ = some (.int .i64 r.f4) := (blk_cell HYR2.out 4).trans rfl
    have p5 : ((W.alloc (.cells #[.int .i64 8, .string nm, .int .i64 fr, .int .i64 tt, .slice A ks.length c] 52 (0, 0))).alloc (.cells #[.string r.f0, .string r.f1, .string r.f2, .string r.f3, .int .i64 r.f4, .int .i64 r.f5] 73 (0, 0))).cell? ⟨W.heap.size + 1, 5, none⟩ = some (.int .i64 r.f5) := (blk_cell HYR2.out 5).trans rfl
    obtain ⟨ad, A4, c4, e, g0, g1, g2, g3, g4, hl4, hC4⟩ := at_T52 HC3.out 0 (by omega) (by omega)
    subst e
    rw [show (0 : Int).toNat * 5 = 0 from rfl, show ad.add 0 = ad by obtain ⟨b, o, s⟩ := ad; unfold Addr.add; cases s <;> simp] at g0 g1 g2 g3 g4
    have hdy := hd _ (rd_mem52 hk0)
    rw [show ((0 : Nat) : Int) = 0 from rfl] at hdy
    generalize rd_T52 ks 0 = y at *
    have HIH := Lib.hid IH
    clear hd IH h0
    go_enter Tryz.func56, Tryz.ntmps56
    go_wp2_with fail
    generalize ((W.alloc (.cells #[.int .i64 8, .string nm, .int .i64 fr, .int .i64 tt, .slice (some ad) ks.length c] 52 (0, 0))).alloc (.cells #[.string r.f0, .string r.f1, .string r.f2, .string r.f3, .int .i64 r.f4, .int .i64 r.f5] 73 (0, 0))) = W4 at *
    have HL := fun w' (h : (Aside0 (Below W4.heap.size W4 w') ∧ w'.cell? ⟨W.heap.size, 4, none⟩ = some (.slice (some ad) ks.length c) ∧ w'.cell? ⟨W.heap.size, 0, none⟩ = some (.int .i64 8) ∧ w'.cell? ⟨W.heap.size + 1, 0, none⟩ = some (.string r.f0) ∧ w'.cell? ⟨W.heap.size + 1, 1, none⟩ = some (.string r.f1) ∧ w'.cell? ⟨W.heap.size + 1, 2, none⟩ = some (.string r.f2) ∧ w'.cell? ⟨W.heap.size + 1, 3, none⟩ = some (.string r.f3) ∧ w'.cell? ⟨W.heap.size + 1, 4, none⟩ = some (.int .i64 r.f4) ∧ w'.cell? ⟨W.heap.size + 1, 5, none⟩ = some (.int .i64 r.f5) ∧ w'.cell? ad = some (.int .i64 y.f0) ∧ w'.cell? ⟨ad.block, ad.off + 1, none⟩ = some (.string y.f1) ∧ w'.cell? ⟨ad.block, ad.off + 2, none⟩ = some (.int .i64 y.f2) ∧ w'.cell? ⟨ad.block, ad.off + 3, none⟩ = some (.int .i64 y.f3) ∧ w'.cell? ⟨ad.block, ad.off + 4, none⟩ = some (.slice A4 y.f4.length c4))) => Lib.hid (HIH.out y r A4 c4 w' hdy (Kd.C_below hC4 h.1.out) hl4)
    have HKEEP := Lib.hid (show ∀ w1 w2 : World, (Aside0 (Below W4.heap.size W4 w1) ∧ w1.cell? ⟨W.heap.size, 4, none⟩ = some (.slice (some ad) ks.length c) ∧ w1.cell? ⟨W.heap.size, 0, none⟩ = some (.int .i64 8) ∧ w1.cell? ⟨W.heap.size + 1, 0, none⟩ = some (.string r.f0) ∧ w1.cell? ⟨W.heap.size + 1, 1, none⟩ = some (.string r.f1) ∧ w1.cell? ⟨W.heap.size + 1, 2, none⟩ = some (.string r.f2) ∧ w1.cell? ⟨W.heap.size + 1, 3, none⟩ = some (.string r.f3) ∧ w1.cell? ⟨W.heap.size + 1, 4, none⟩ = some (.int .i64 r.f4) ∧ w1.cell? ⟨W.heap.size + 1, 5, none⟩ = some (.int .i64 r.f5) ∧ w1.cell? ad = some (.int .i64 y.f0) ∧ w1.cell? ⟨ad.block, ad.off + 1, none⟩ = some (.string y.f1) ∧ w1.cell? ⟨ad.block, ad.off + 2, none⟩ = some (.int .i64 y.f2) ∧ w1.cell? ⟨ad.block, ad.off + 3, none⟩ = some (.int .i64 y.f3) ∧ w1.cell? ⟨ad.block, ad.off + 4, none⟩ = some (.slice A4 y.f4.length c4)) → Below w1.heap.size w1 w2 → (Aside0 (Below W4.heap.size W4 w2) ∧ w2.cell? ⟨W.heap.size, 4, none⟩ = some (.slice (some ad) ks.length c) ∧ w2.cell? ⟨W.heap.size, 0, none⟩ = some (.int .i64 8) ∧ w2.cell? ⟨W.heap.size + 1, 0, none⟩ = some (.string r.f0) ∧ w2.cell? ⟨W.heap.size + 1, 1, none⟩ = some (.string r.f1) ∧ w2.cell? ⟨W.heap.size + 1, 2, none⟩ = some (.string r.f2) ∧ w2.cell? ⟨W.heap.size + 1, 3, none⟩ = some (.string r.f3) ∧ w2.cell? ⟨W.heap.size + 1, 4, none⟩ = some (.int .i64 r.f4) ∧ w2.cell? ⟨W.heap.size + 1, 5, none⟩ = some (.int .i64 r.f5) ∧ w2.cell? ad = some (.int .i64 y.f0) ∧ w2.cell? ⟨ad.block, ad.off + 1, none⟩ = some (.string y.f1) ∧ w2.cell? ⟨ad.block, ad.off + 2, none⟩ = some (.int .i64 y.f2) ∧ w2.cell? ⟨ad.block, ad.off + 3, none⟩ = some (.int .i64 y.f3) ∧ w2.cell? ⟨ad.block, ad.off + 4, none⟩ = some (.slice A4 y.f4.length c4)) from fun w1 w2 h hb => ⟨⟨below_tr h.1.out hb⟩, below_cell hb h.2.1, below_cell hb h.2.2.1, below_cell hb h.2.2.2.1, below_cell hb h.2.2.2.2.1, below_cell hb h.2.2.2.2.2.1, below_cell hb h.2.2.2.2.2.2.1, below_cell hb h.2.2.2.2.2.2.2.1, below_cell hb h.2.2.2.2.2.2.2.2.1, below_cell hb h.2.2.2.2.2.2.2.2.2.1, below_cell hb h.2.2.2.2.2.2.2.2.2.2.1, below_cell hb h.2.2.2.2.2.2.2.2.2.2.2.1, below_cell hb h.2.2.2.2.2.2.2.2.2.2.2.2.1, below_cell hb h.2.2.2.2.2.2.2.2.2.2.2.2.2⟩)
    have HS0 := Lib.hid (show (Aside0 (Below W4.heap.size W4 W4.drew) ∧ W4.drew.cell? ⟨W.heap.size, 4, none⟩ = some (.slice (some ad) ks.length c) ∧ W4.drew.cell? ⟨W.heap.size, 0, none⟩ = some (.int .i64 8) ∧ W4.drew.cell? ⟨W.heap.size + 1, 0, none⟩ = some (.string r.f0) ∧ W4.drew.cell? ⟨W.heap.size + 1, 1, none⟩ = some (.string r.f1) ∧ W4.drew.cell? ⟨W.heap.size + 1, 2, none⟩ = some (.string r.f2) ∧ W4.drew.cell? ⟨W.heap.size + 1, 3, none⟩ = some (.string r.f3) ∧ W4.drew.cell? ⟨W.heap.size + 1, 4, none⟩ = some (.int .i64 r.f4) ∧ W4.drew.cell? ⟨W.heap.size + 1, 5, none⟩ = some (.int .i64 r.f5) ∧ W4.drew.cell? ad = some (.int .i64 y.f0) ∧ W4.drew.cell? ⟨ad.block, ad.off + 1, none⟩ = some (.string y.f1) ∧ W4.drew.cell? ⟨ad.block, ad.off + 2, none⟩ = some (.int .i64 y.f2) ∧ W4.drew.cell? ⟨ad.block, ad.off + 3, none⟩ = some (.int .i64 y.f3) ∧ W4.drew.cell? ⟨ad.block, ad.off + 4, none⟩ = some (.slice A4 y.f4.length c4)) from ⟨⟨below_drew (Below.refl _ _)⟩, q4, q0, p0, p1, p2, p3, p4, p5, g0, g1, g2, g3, g4⟩)
    clear hC4 hl4 hdy
    go_region_held3 (fun w' => (Aside0 (Below W4.heap.size W4 w') ∧ w'.cell? ⟨W.heap.size, 4, none⟩ = some (.slice (some ad) ks.length c) ∧ w'.cell? ⟨W.heap.size, 0, none⟩ = some (.int .i64 8) ∧ w'.cell? ⟨W.heap.size + 1, 0, none⟩ = some (.string r.f0) ∧ w'.cell? ⟨W.heap.size + 1, 1, none⟩ = some (.string r.f1) ∧ w'.cell? ⟨W.heap.size + 1, 2, none⟩ = some (.string r.f2) ∧ w'.cell? ⟨W.heap.size + 1, 3, none⟩ = some (.string r.f3) ∧ w'.cell? ⟨W.heap.size + 1, 4, none⟩ = some (.int .i64 r.f4) ∧ w'.cell? ⟨W.heap.size + 1, 5, none⟩ = some (.int .i64 r.f5) ∧ w'.cell? ad = some (.int .i64 y.f0) ∧ w'.cell? ⟨ad.block, ad.off + 1, none⟩ = some (.string y.f1) ∧ w'.cell? ⟨ad.block, ad.off + 2, none⟩ = some (.int .i64 y.f2) ∧ w'.cell? ⟨ad.block, ad.off + 3, none⟩ = some (.int .i64 y.f3) ∧ w'.cell? ⟨ad.block, ad.off + 4, none⟩ = some (.slice A4 y.f4.length c4))) (first | assumption | with_reducible exact HS0.out | with_reducible exact HKEEP.out _ _ (by assumption) hb) (first | (go_at_call 56; refine (HL _ (by assumption)).out.mono ?_; rintro e w3 ⟨rfl, hb⟩))
    have HBX := Lib.hid (below_tr HB.out (Aside0.out (And.left (by assumption))))
    go_wp2
    go_ret
    exact ⟨rfl, HBX.out⟩
/-- What the document's scope matches. -/
theorem matchR_any : ∀ d, MatchR d
  | 0 => fun x r A c W hd => absurd hd id
  | d + 1 => by
    intro x r A c W hd hC hl
    obtain ⟨o, nm, fr, tt, ks⟩ := x
    have hd' : ∀ y ∈ ks, dp d y := hd
    simp only at hC hl
    show Calls Tryz.prog 56 #[.agg #[.int .i64 o, .string nm, .int .i64 fr, .int .i64 tt, .slice A ks.length c], .agg #[.string r.f0, .string r.f1, .string r.f2, .string r.f3, .int .i64 r.f4, .int .i64 r.f5]] W fun e W' => e = .returned (.bool (if o = 1 then true else if o = 2 then (r.f1.toList == nm.toList) else if o = 3 then (r.f2.toList == nm.toList) else if o = 4 then (r.f3.toList == nm.toList)
      else if o = 5 then (decide (r.f4 ≥ fr) && decide (r.f4 ≤ tt)) else if o = 7 then ks.any (fun y => mt d y r) else if o = 6 then !(ks.any (fun y => !mt d y r))
      else if o = 8 then (if ks.length = 0 then true else !mt d (rd_T52 ks 0) r) else false)) ∧ Below W.heap.size W W'
    by_cases h1 : o = 1
    · rw [if_pos h1]; subst h1; exact matchR_op1 nm fr tt ks r A c W
    by_cases h2 : o = 2
    · rw [if_neg h1, if_pos h2]; subst h2; exact matchR_op2 nm fr tt ks r A c W
    by_cases h3 : o = 3
    · rw [if_neg h1, if_neg h2, if_pos h3]; subst h3; exact matchR_op3 nm fr tt ks r A c W
    by_cases h4 : o = 4
    · rw [if_neg h1, if_neg h2, if_neg h3, if_pos h4]; subst h4; exact matchR_op4 nm fr tt ks r A c W
    by_cases h5 : o = 5
    · rw [if_neg h1, if_neg h2, if_neg h3, if_neg h4, if_pos h5]; subst h5; exact matchR_op5 nm fr tt ks r A c W
    by_cases h7 : o = 7
    · rw [if_neg h1, if_neg h2, if_neg h3, if_neg h4, if_neg h5, if_pos h7]; subst h7; exact matchR_op7 d (matchR_any d) nm fr tt ks hd' r A c W hC hl
    by_cases h6 : o = 6
    · rw [if_neg h1, if_neg h2, if_neg h3, if_neg h4, if_neg h5, if_neg h7, if_pos h6]; subst h6; exact matchR_op6 d (matchR_any d) nm fr tt ks hd' r A c W hC hl
    by_cases h8 : o = 8
    · rw [if_neg h1, if_neg h2, if_neg h3, if_neg h4, if_neg h5, if_neg h7, if_neg h6, if_pos h8]; subst h8; exact matchR_op8 d (matchR_any d) nm fr tt ks hd' r A c W hC hl
    rw [if_neg h1, if_neg h2, if_neg h3, if_neg h4, if_neg h5, if_neg h7, if_neg h6, if_neg h8]
    exact matchR_else o h1 h2 h3 h4 h5 h6 h7 h8 nm fr tt ks r A c W
end Go.Proofs.YtafigkikblpbnaaGreat.PG
namespace Go.Proofs.YtafigkikblpbnaaGreat.PG
open Go.RowKit Go.Proofs.YtafigkikblpbnaaGreatW.PrintWords Go.Proofs.YtafigkikblpbnaaGreatW.PrintLast Go.Proofs.YtafigkikblpbnaaGreatW.PrintMore
set_option linter.unusedVariables false
set_option linter.unusedSimpArgs false
set_option maxRecDepth 100000
theorem dp_all : ∀ (l : List S52), (∀ y ∈ l, ∃ d, dp d y) → ∃ d, ∀ y ∈ l, dp d y
  | [], _ => ⟨0, fun y hy => by cases hy⟩
  | x :: l, h => by
    obtain ⟨d1, h1⟩ := h x (List.mem_cons.2 (.inl rfl))
    obtain ⟨d2, h2⟩ := dp_all l (fun y hy => h y (List.mem_cons.2 (.inr hy)))
    refine ⟨max d1 d2, fun y hy => ?_⟩
    rcases List.mem_cons.1 hy with rfl | hy
    · exact dp_up _ _ _ (Nat.le_max_left _ _) h1
    · exact dp_up _ _ _ (Nat.le_max_right _ _) (h2 y hy)
/-- Every scope has a depth. -/
theorem ex_dp (x : S52) : ∃ d, dp d x := by
  obtain ⟨o, nm, fr, tt, ks⟩ := x
  obtain ⟨d, hd⟩ := dp_all ks (fun y hy => ex_dp y)
  exact ⟨d + 1, hd⟩
termination_by SizeOf.sizeOf x
decreasing_by
  have := List.sizeOf_lt_of_mem hy
  simp_wf
  omega
theorem ex_dpH (l : List S100) : ∃ d, ∀ x ∈ l, dp d x.f1 := by
  obtain ⟨d, hd⟩ := dp_all (l.map (·.f1)) (fun y hy => ex_dp y)
  exact ⟨d, fun x hx => hd _ (List.mem_map.2 ⟨x, hx, rfl⟩)⟩
/-- A record is held. -/
def heldP (d : Nat) (l : List S100) (r : S73) : Bool := l.any fun x => x.f2 && mt d x.f1 r
theorem sorted_uniq {α : Type} {r : α → α → Prop} (asy : ∀ a b, r a b → ¬ r b a) : ∀ (l1 l2 : List α), l1.Pairwise r → l2.Pairwise r → l1.Perm l2 → l1 = l2
  | [], l2, _, _, hp => hp.nil_eq
  | a :: l1, [], _, _, hp => absurd hp.length_eq (by simp)
  | a :: l1, b :: l2, h1, h2, hp => by
    rw [List.pairwise_cons] at h1 h2
    have e : a = b := by
      rcases List.mem_cons.1 (hp.mem_iff.1 (List.mem_cons.2 (.inl rfl) : a ∈ a :: l1)) with e | ha
      · exact e
      · rcases List.mem_cons.1 (hp.mem_iff.2 (List.mem_cons.2 (.inl rfl) : b ∈ b :: l2)) with e | hb
        · exact e.symm
        · exact absurd (h1.1 b hb) (asy _ _ (h2.1 a ha))
    subst e
    rw [sorted_uniq asy l1 l2 h1.2 h2.2 hp.cons_inv]
end Go.Proofs.YtafigkikblpbnaaGreat.PG
namespace Go.Proofs.YtafigkikblpbnaaGreat.PG
open Go.RowKit Go.Proofs.YtafigkikblpbnaaGreatW.PrintWords Go.Proofs.YtafigkikblpbnaaGreatW.PrintLast Go.Proofs.YtafigkikblpbnaaGreatW.PrintMore
set_option linter.unusedVariables false
set_option linter.unusedSimpArgs false
set_option maxRecDepth 100000
theorem tab25_5 : rtab .any (opsOf Tryz.f25 5) = (true, [([], []), ([], []), ([0, 1], [0, 1]), ([2], [2]), ([3], [3]), ([4], [4]), ([5], [5]), ([5], [5]), ([6, 7, 5], [5, 6, 7]), ([8, 5], [5, 8]), ([9, 5], [5, 9]), ([5], [5]), ([10, 11, 5, 5], [5, 10, 11]), ([5, 12], [5, 12])]) := by kernel_rfl

/-- The names of the holds that hold a record. -/
def onL (d : Nat) (l : List S100) (r : S73) : List ByteArray := (l.filter fun x => x.f2 && mt d x.f1 r).map (·.f0)
theorem onL_len (d : Nat) (l : List S100) (r : S73) : (onL d l r).length ≤ l.length := by
  unfold onL
  rw [List.length_map]
  exact List.length_filter_le _ _
theorem take_rd100 {l : List S100} {k : Nat} (h : k < l.length) : l.take (k + 1) = l.take k ++ [rd_T100 l (k : Int)] := by
  have : rd_T100 l (k : Int) = l[k] := by unfold rd_T100; rw [Int.toNat_natCast, List.getD_eq_getElem?_getD, List.getElem?_eq_getElem h]; rfl
  rw [this, List.take_succ_eq_append_getElem h]
theorem onL_snoc (d : Nat) (l : List S100) (r : S73) (y : S100) : onL d (l ++ [y]) r = onL d l r ++ (if (y.f2 && mt d y.f1 r) = true then [y.f0] else []) := by
  unfold onL
  rw [List.filter_append, List.map_append, List.filter_cons]
  split <;> rfl
theorem onL_any (d : Nat) (l : List S100) (r : S73) : decide (0 < (onL d l r).length) = heldP d l r := by
  unfold onL heldP
  rw [List.length_map]
  induction l with
  | nil => rfl
  | cons x l ih =>
    rw [List.filter_cons, List.any_cons]
    cases h : (x.f2 && mt d x.f1 r)
    · rw [if_neg (by decide), Bool.false_or]; exact ih
    · rw [if_pos rfl, Bool.true_or]; simp
set_option maxHeartbeats 2000000 in
theorem On_any (d : Nat) (l : List S100) (r : S73) (A : Option Addr) (c : Nat) (W : World) (hd : ∀ x ∈ l, dp d x.f1) (hC : Kd.C k100 W A l.length l) (hn : l.length ≤ 1000000) :
    Calls Tryz.prog 25 #[.slice A l.length c, .agg #[.string r.f0, .string r.f1, .string r.f2, .string r.f3, .int .i64 r.f4, .int .i64 r.f5]] W fun e w' => ∃ A' c', e = .returned (.slice A' (onL d l r).length c') ∧ Below W.heap.size W w' := by
  have HB := Lib.hid (show Below W.heap.size W (W.alloc (.cells #[.string r.f0, .string r.f1, .string r.f2, .string r.f3, .int .i64 r.f4, .int .i64 r.f5] 73 (0, 0))) from below_alloc (Below.refl _ _) _)
  have HY := Lib.hid (new_blk W (.cells #[.string r.f0, .string r.f1, .string r.f2, .string r.f3, .int .i64 r.f4, .int .i64 r.f5] 73 (0, 0)))
  have HC := Lib.hid (Kd.C_below hC HB.out)
  have HD := Lib.hid hd
  clear hC hd
  go_enter Tryz.func25, Tryz.ntmps25
  go_wp2
  generalize W.alloc (.cells #[.string r.f0, .string r.f1, .string r.f2, .string r.f3, .int .i64 r.f4, .int .i64 r.f5] 73 (0, 0)) = W1 at *
  go_loopw [5, 6] (fun v5 v6 wr => ∃ k : Nat, v6 = .int .i64 k ∧ k ≤ l.length ∧ Aside0 (Kd.R Kd.string 9 wr W1.heap.size (fun _ => True) v5 (onL d (l.take k) r)) ∧ Aside0 (Below W1.heap.size W1 wr)) (fun _ v6 _ => l.length - (intOf v6).toNat)
  case atStart => exact ⟨0, rfl, Nat.zero_le _, ⟨Kd.R_nil _ _ _ _ _⟩, ⟨Below.refl _ _⟩⟩
  case round =>
    obtain ⟨k, rfl, hk, HO, HBW⟩ := hrel
    have HY2 := Lib.hid ((HBW.out.block W.heap.size (blk_lt HY.out)).trans HY.out)
    have q0 : wr.cell? ⟨W.heap.size, 0, none⟩ = some (.string r.f0) := (blk_cell HY2.out 0).trans rfl
    have q1 : wr.cell? ⟨W.heap.size, 1, none⟩ = some (.string r.f1) := (blk_cell HY2.out 1).trans rfl
    have q2 : wr.cell? ⟨W.heap.size, 2, none⟩ = some (.string r.f2) := (blk_cell HY2.out 2).trans rfl
    have q3 : wr.cell? ⟨W.heap.size, 3, none⟩ = some (.string r.f3) := (blk_cell HY2.out 3).trans rfl
    have q4 : wr.cell? ⟨W.heap.size, 4, none⟩ = some (.int .i64 r.f4) := (blk_cell HY2.out 4).trans rfl
    have q5 : wr.cell? ⟨W.heap.size, 5, none⟩ = some (.int .i64 r.f5) := (blk_cell HY2.out 5).trans rfl
    by_cases hlt : k < l.length
    · have hlt2 : (k : Int) < (l.length : Int) := by omega
      obtain ⟨ad, A4, c4, e, h0, h1, h2, h3, h4, h5, h6, hl4, hC4⟩ := at_T100 (Kd.C_below HC.out HBW.out) (k : Int) (by omega) (by omega)
      subst e
      simp only [Int.toNat_natCast] at h0 h1 h2 h3 h4 h5 h6
      have HT := Lib.hid (take_rd100 hlt)
      have hdd := HD.out _ (rd_mem100 hlt)
      generalize rd_T100 l (k : Int) = y at *
      have HM := fun w' (h : Below wr.heap.size wr w') => Lib.hid (matchR_any d y.f1 r A4 c4 w' hdd (Kd.C_below hC4 h) hl4)
      have HE := Lib.hid (onL_snoc d (l.take k) r y)
      generalize hm : mt d y.f1 r = m at *
      clear hm hdd hC4 hl4
      cases hf : y.f2
      · rw [hf] at h6 HE
        go_wp2_with fail
        go_quiet (fail)
        have HB3 := Lib.hid (pw_below_drewN HBW.out nq)
        have HO3 := Lib.hid (Kd.R_drewN HO.out nq)
        go_wp2
        go_roundw
        case rel => exact ⟨k + 1, by go_num, by omega, ⟨by rw [HT.out, HE.out]; simpa using HO3.out⟩, ⟨HB3.out⟩⟩
        case measure => simp [intOf]; omega
      · rw [hf] at h6 HE
        go_wp2_with fail
        refine WL.start (n := 14) (S := fun w' => Aside0 (Below wr.heap.size wr w') ∧ w'.cell? ⟨W.heap.size, 0, none⟩ = some (.string r.f0) ∧ w'.cell? ⟨W.heap.size, 1, none⟩ = some (.string r.f1) ∧ w'.cell? ⟨W.heap.size, 2, none⟩ = some (.string r.f2) ∧ w'.cell? ⟨W.heap.size, 3, none⟩ = some (.string r.f3) ∧ w'.cell? ⟨W.heap.size, 4, none⟩ = some (.int .i64 r.f4) ∧ w'.cell? ⟨W.heap.size, 5, none⟩ = some (.int .i64 r.f5) ∧ w'.cell? (ad.add (k * 7)) = some (.string y.f0) ∧ w'.cell? ⟨(ad.add (k * 7)).block, (ad.add (k * 7)).off + 1, none⟩ = some (.int .i64 y.f1.f0) ∧ w'.cell? ⟨(ad.add (k * 7)).block, (ad.add (k * 7)).off + 2, none⟩ = some (.string y.f1.f1) ∧ w'.cell? ⟨(ad.add (k * 7)).block, (ad.add (k * 7)).off + 3, none⟩ = some (.int .i64 y.f1.f2) ∧ w'.cell? ⟨(ad.add (k * 7)).block, (ad.add (k * 7)).off + 4, none⟩ = some (.int .i64 y.f1.f3) ∧ w'.cell? ⟨(ad.add (k * 7)).block, (ad.add (k * 7)).off + 5, none⟩ = some (.slice A4 y.f1.f4.length c4) ∧ w'.cell? ⟨(ad.add (k * 7)).block, (ad.add (k * 7)).off + 6, none⟩ = some (.bool true)) (ds := []) [false, false, false, false, false, false, false, false, false, false, false, false, false, false] (by kernel_rfl) rfl rfl ⟨⟨below_drew (Below.refl _ _)⟩, q0, q1, q2, q3, q4, q5, h0, h1, h2, h3, h4, h5, h6⟩ (fun hHeld => ?_)
        refine WL.tab tab25_5 (fun HT_ => ?_)
        refine WL.more [0, 1, 2, 3, 4, 5, 6, 7, 8, 9, 10, 11, 12, 13] ?_
        repeat (first
          | (refine WL.off (lb' := ?_) (ys := ?_) rfl rfl (by rfl) ?_ HT_.out ?_ (fun _ _ _ h => h) ?_ ?_; rotate_left 2; (focus dsimp only [List.set_cons_zero, List.set_cons_succ]; rfl); (focus kernel_rfl); (focus dsimp only [List.set_cons_zero, List.set_cons_succ]; rfl))
          | (refine WL.pure (lb' := ?_) (v := ?_) (ys := ?_) rfl rfl (by rfl) ?_ HT_.out ?_ (fun _ _ _ h => h) ?_ ?_ ?_; rotate_left 3; (focus dsimp only [List.set_cons_zero, List.set_cons_succ]; rfl); (focus kernel_rfl); (focus intro w'; go_simp; with_reducible rfl); (focus dsimp only [List.set_cons_zero, List.set_cons_succ]; rfl))
          | (refine WL.take (lb' := ?_) (v := ?_) (ys := ?_) rfl rfl (by rfl) ?_ HT_.out ?_ (fun _ _ _ h => h) hHeld ?_ ?_ ?_; rotate_left 3; (focus dsimp only [List.set_cons_zero, List.set_cons_succ]; rfl); (focus kernel_rfl); (focus rintro w' ⟨s0, s1, s2, s3, s4, s5, s6, s7, s8, s9, s10, s11, s12, s13⟩; go_simp; with_reducible rfl); (focus dsimp only [List.set_cons_zero, List.set_cons_succ]; rfl))
          | (refine WL.one (lb' := ?_) rfl rfl ?_ HT_.out ?_ (by decide) (fun K hK => ?_); rotate_left; (focus dsimp only [List.set_cons_zero, List.set_cons_succ]; rfl); (focus kernel_rfl); first
              | (refine goes_ Tryz.func56 (by kernel_rfl) rfl #[.agg #[.int .i64 y.f1.f0, .string y.f1.f1, .int .i64 y.f1.f2, .int .i64 y.f1.f3, .slice A4 y.f1.f4.length c4], .agg #[.string r.f0, .string r.f1, .string r.f2, .string r.f3, .int .i64 r.f4, .int .i64 r.f5]] (by rfl) rfl rfl (by simp only [List.map_toArray, List.map_cons, List.map_nil]; rfl) ?_; (with_reducible refine ((HM _ hHeld.1.out).out).mono ?_); rintro e w3 ⟨rfl, hb⟩; refine ⟨_, rfl, ?_⟩; refine hK.out _ _ (by have h_ := hHeld.2; refine ⟨⟨below_tr hHeld.1.out hb⟩, ?_⟩; repeat (first | exact below_cell hb h_ | (refine ⟨below_cell hb h_.1, ?_⟩; replace h_ := h_.2))) (fun hHeld => ?_); clear hK K; refine WL.put (ys := ?_) ?_ ?_; rotate_left; (focus dsimp only [List.set_cons_zero, List.set_cons_succ]; rfl))))
        refine WL.done HT_.out (by kernel_rfl) ?_
        have HBW3 := Lib.hid (below_tr HBW.out hHeld.1.out)
        have HO3 := Lib.hid (Kd.R_below HO.out hHeld.1.out)
        clear q0 q1 q2 q3 q4 q5 h0 h1 h2 h3 h4 h5 h6 HY2
        obtain ⟨_, q0, q1, q2, q3, q4, q5, h0, h1, h2, h3, h4, h5, h6⟩ := hHeld
        cases m
        · go_wp2
          go_roundw
          case rel => exact ⟨k + 1, by go_num, by omega, ⟨by rw [HT.out, HE.out]; simpa using HO3.out⟩, ⟨HBW3.out⟩⟩
          case measure => simp [intOf]; omega
        · go_wp2_with ((with_reducible refine gate_builtin (b := .append) (xs := #[.tmp 27, .tmp 33]) rfl ?_); at_builtin; refine Kd.R_append Kd.string (w0 := W1) W1.heap.size rfl (.tmp 27) (.tmp 33) 42 9 (.string ⟨#[]⟩) 16 rfl Tryz.underlying42 info9 rfl (by decide) (by omega) u5 (onL d (l.take k) r) y.f0 [.string y.f0] (fun _ => True) (fun _ => False) rfl rfl rfl (fun _ hk => hk.elim) (fun _ _ => trivial) HO3.out HBW3.out HBW3.out.size (by have := onL_len d (l.take k) r; rw [List.length_take] at this; omega) ?_; intro v9 w4 ho hb hg hat; clear hg hat)
          go_roundw
          case rel => exact ⟨k + 1, by go_num, by omega, ⟨by rw [HT.out, HE.out]; simpa using ho⟩, ⟨hb⟩⟩
          case measure => simp [intOf]; omega
    · have hk2 : k = l.length := by omega
      have HE := Lib.hid (show onL d (l.take k) r = onL d l r from by rw [hk2, List.take_length])
      clear hk2
      obtain ⟨A6, c6, rfl, hl6, hC6⟩ := Kd.R_reads HO.out
      rw [HE.out]
      clear hC6
      go_wp2
      go_ret
      exact ⟨A6, c6, rfl, below_tr HB.out HBW.out⟩
end Go.Proofs.YtafigkikblpbnaaGreat.PG
namespace Go.Proofs.YtafigkikblpbnaaGreat.PG
set_option maxRecDepth 100000
open Go.RowKit Go.Proofs.YtafigkikblpbnaaGreatW.PrintWords Go.Proofs.YtafigkikblpbnaaGreatW.PrintLast Go.Proofs.YtafigkikblpbnaaGreatW.PrintMore

set_option maxHeartbeats 400000 in
theorem at1r_any (nm name m : ByteArray) (o d t : Int) (ks : Value) (p : Addr) (w : World) (hc : w.cell? p = some (.string name)) :
    Calls Tryz.prog 122 #[.agg #[.string nm, .int .i64 o, .int .i64 d, .string m, ks, .int .i64 t], .pointer (some p)] w fun e w' => e = .returned (.bool (nm.toList == name.toList)) ∧ Below w.heap.size w w' := by
  have hlt := World.block_lt_of_cell? w p hc
  have hne : p.block ≠ w.heap.size := by omega
  have hc2 : ∀ o, (w.alloc o).cell? p = some (.string name) := fun o => (Below.cell (below_alloc (Below.refl _ _) o) hlt).trans hc
  go_enter Tryz.func122, Tryz.ntmps122
  go_wp2
  go_ret
  exact ⟨rfl, below_alloc (Below.refl _ _) _⟩

theorem drop_rd49 {l : List S97} {i : Nat} (h : i < l.length) : l.drop i = rd_T97 l (i : Int) :: l.drop (i + 1) := by
  rw [List.drop_eq_getElem_cons h]
  simp [rd_T97, List.getElem?_eq_getElem h, List.getD_eq_getElem?_getD]
def isN (name : ByteArray) (x : S97) : Bool := x.f0.toList == name.toList

set_option maxHeartbeats 400000 in
theorem idxr_any (name : ByteArray) (A : Option Addr) (c : Nat) (l : List S97) (p : Addr) (w : World) (hr : Kd.C k97 w A l.length l) (hp : w.cell? p = some (.string name)) :
    Calls Tryz.prog 121 #[.slice A l.length c, .func (Fn.func 122) #[] #[.pointer (some p)]] w fun e w' => e = .returned (.int .i64 (ix (isN name) l 0)) ∧ Below w.heap.size w w' := by
  have hm : l.length ≤ 9223372036854775807 := hr.2.1
  go_enter Tryz.func121, Tryz.ntmps121
  go_wp2
  go_loopw [8] (fun v8 wr => ∃ k : Nat, k ≤ l.length ∧ v8 = .int .i64 k ∧ Aside0 (Below w.heap.size w wr) ∧ Aside0 (ix (isN name) l 0 = ix (isN name) (l.drop k) k)) (fun v8 _ => l.length - (intOf v8).toNat)
  case atStart => exact ⟨0, Nat.zero_le _, rfl, ⟨Below.refl _ _⟩, ⟨by rw [List.drop_zero]⟩⟩
  case round =>
    obtain ⟨k, hk, rfl, HB, HI⟩ := hrel
    by_cases hlt : k < l.length
    · obtain ⟨ad, A4, c4, e, h0, h1, h2, h3, h4, h5, _, _⟩ := at_T97 (Kd.C_below hr HB.out) (k : Int) (by omega) (by omega)
      subst e
      simp only [Int.toNat_natCast] at h0 h1 h2 h3 h4 h5
      have hd := drop_rd49 hlt
      have HI2 := Lib.hid (show ix (isN name) l 0 = if ((rd_T97 l (k : Int)).f0.toList == name.toList) = true then (k : Int) else ix (isN name) (l.drop (k + 1)) (k + 1) by rw [HI.out, hd]; rfl)
      clear hd
      generalize rd_T97 l (k : Int) = x at *
      by_cases ht : (x.f0.toList == name.toList) = true
      · have HT := Lib.hid ht
        go_wp2_with (go_at_call 122; refine (at1r_any x.f0 name _ _ _ _ _ p _ (below_cell HB.out hp)).mono ?_; rintro e w2 ⟨rfl, hb⟩; clear h0 h1 h2 h3 h4 h5)
        go_ret
        exact ⟨ret_i (by rw [HI2.out, if_pos HT.out]), below_tr HB.out hb⟩
      · have HT := Lib.hid ht
        have hf : (x.f0.toList == name.toList) = false := Bool.eq_false_iff.mpr ht
        clear ht
        go_wp2_with (go_at_call 122; refine (at1r_any x.f0 name _ _ _ _ _ p _ (below_cell HB.out hp)).mono ?_; rintro e w2 ⟨rfl, hb⟩; clear h0 h1 h2 h3 h4 h5)
        go_roundw
        case rel => exact ⟨k + 1, by omega, by go_num, ⟨below_tr HB.out hb⟩, ⟨by rw [HI2.out, if_neg HT.out]⟩⟩
        case measure => simp [intOf]; omega
    · have hk2 : k = l.length := by omega
      have HK := Lib.hid hk2
      clear hk2
      go_wp2
      go_ret
      exact ⟨ret_i (by rw [HI.out, HK.out, List.drop_of_length_le (Nat.le_refl _)]; rfl), HB.out⟩

set_option maxHeartbeats 8000000 in
set_option maxRecDepth 100000 in
theorem find_any (P0_ : Nat → Prop) (A0 : Option Addr) (c0 : Nat) (l0 : List S97) (a1 : ByteArray) (w : World) (hs0 : Kd.V k97 97 w w.heap.size (fun k_ => P0_ k_) (.slice A0 l0.length c0) l0) (x : S97) (b : Bool) (hx : (if 0 ≤ ix (isN a1) l0 0 then (rd_T97 l0 (ix (isN a1) l0 0), true) else if 0 ≤ ix (isN ⟨#[]⟩) l0 0 then (rd_T97 l0 (ix (isN ⟨#[]⟩) l0 0), true) else (z97, false)) = (x, b)) :
    Calls Tryz.prog 81 #[.slice A0 l0.length c0, .string a1] w fun e w' => ∃ v4_ : Value, e = .returned (.tuple #[.agg #[.string x.f0, .int .i64 x.f1.f0, .int .i64 x.f1.f1, .string x.f1.f2, v4_, .int .i64 x.f2], .bool b]) ∧ Kd.V k95 95 w' w.heap.size (fun k_ => (P0_ k_ ∨ w.heap.size ≤ k_)) v4_ x.f1.f3 ∧ Below w.heap.size w w' := by
  have hu49 := Tryz.underlying97
  have HX := Lib.hid hx
  clear hx
  have HO0 := Aside0.mk (show Kd.V k97 97 w w.heap.size (fun k_ => (P0_ k_ ∨ w.heap.size ≤ k_)) (.slice A0 l0.length c0) l0 from Kd.V_mono hs0 (fun k_ hk => .inl hk))
  go_enter Tryz.func81, Tryz.ntmps81
  go_wp2_with (first | ((with_reducible refine gate_dst (N := 4) rfl ?_); refine box_event ?hg (N := 4) ?hd (cs := #[.string (⟨#[]⟩ : ByteArray), .int .i64 0, .int .i64 0, .string (⟨#[]⟩ : ByteArray), .slice none 0 0, .int .i64 0]) (t := 97) ?hr ?_; (case hd => rfl); (case hg => rfl); (case hr => first | (go_simp; done) | (go_simp; rfl)); intro gb4 hggb4 wgb4 hbox hbgb4; have HVb := Lib.hid (Kd.V_below (Kd.V_elderB HO0.out gb4 (Nat.le_of_eq hggb4.symm)) hbgb4); have Hg4 := Lib.hid (show w.heap.size ≤ gb4 by omega); clear hggb4))
  have HV0 := Kd.V_alloc HVb.out (.cells #[.string a1, .string (⟨#[]⟩ : ByteArray)] 9)
  have hB0 := below_alloc hbgb4 (.cells #[.string a1, .string (⟨#[]⟩ : ByteArray)] 9)
  have hL0 : (wgb4.alloc (.cells #[.string a1, .string (⟨#[]⟩ : ByteArray)] 9)).cell? ⟨wgb4.heap.size, 0, none⟩ = some (.string a1) := by simp
  have hL1 : (wgb4.alloc (.cells #[.string a1, .string (⟨#[]⟩ : ByteArray)] 9)).cell? ⟨wgb4.heap.size, 1, none⟩ = some (.string (⟨#[]⟩ : ByteArray)) := by simp
  have hG : (wgb4.alloc (.cells #[.string a1, .string (⟨#[]⟩ : ByteArray)] 9)).heap[gb4]? = wgb4.heap[gb4]? := by
    rw [hbox]; exact blk_alloc hbox _
  rw [hbox] at hG
  generalize hwL : wgb4.alloc (.cells #[.string a1, .string (⟨#[]⟩ : ByteArray)] 9) = wL at *
  have hbL : wgb4.heap.size < wL.heap.size := World.block_lt_of_cell? wL _ hL0
  have h4L : gb4 < wL.heap.size := (Array.getElem?_eq_some_iff.1 hG).1
  have hsL : w.heap.size ≤ wL.heap.size := hB0.size
  have hg4 : w.heap.size ≤ gb4 := Hg4.out
  have hCL := (Kd.V_reads' HV0).2.2
  generalize wgb4.heap.size = bl at *
  clear hwL hbox hbgb4
  go_loopw [12] (fun v12 wr => ∃ k : Nat, k ≤ 2 ∧ v12 = .int .i64 k ∧ Aside0 (Below wL.heap.size wL wr) ∧ Aside0 (1 ≤ k → ¬ 0 ≤ ix (isN a1) l0 0) ∧ Aside0 (2 ≤ k → ¬ 0 ≤ ix (isN ⟨#[]⟩) l0 0)) (fun v12 _ => 2 - (intOf v12).toNat)
  case atStart => exact ⟨0, by omega, rfl, ⟨Below.refl _ _⟩, ⟨fun h => by omega⟩, ⟨fun h => by omega⟩⟩
  case round =>
    obtain ⟨k, hk, rfl, HB, HI1, HI2⟩ := hrel
    have hL0' := below_cell HB.out hL0
    have hL1' := below_cell HB.out hL1
    have hk3 : k = 0 ∨ k = 1 ∨ k = 2 := by omega
    rcases hk3 with rfl | rfl | rfl
    · have hi := ix_range (isN a1) l0 0
      have hcall := Lib.hid (idxr_any a1 A0 c0 l0 ⟨wr.heap.size, 0, none⟩ (wr.alloc (.cells #[.string a1] 9)) (Kd.C_below hCL (below_alloc HB.out _)) (by simp))
      generalize hiv : ix (isN a1) l0 0 = iv at hi hcall
      have HIV := Lib.hid hiv
      clear hiv
      by_cases h0 : 0 ≤ iv
      · have hge := Lib.hid (show 0 ≤ ix (isN a1) l0 0 by rw [HIV.out]; exact h0)
        have hilt : iv < l0.length := by omega
        have hb0 : decide (iv ≥ 0) = true := decide_eq_true h0
        have hxb := (by have hh := HX.out; rw [if_pos hge.out] at hh; exact hh)
        rw [HIV.out] at hxb
        obtain ⟨hx1, hx2⟩ := Prod.mk.inj hxb
        subst hx2
        clear hxb hi
        obtain ⟨ad, A4, c4, e, g0, g1, g2, g3, g4, g5, gl, _⟩ := at_T97 hCL iv (by omega) (by omega)
        subst e
        obtain ⟨ce, hce, hMe, hcc⟩ := Kd.V_get HV0 z97 iv (by omega) (by omega)
        obtain ⟨ua4, uc4, rfl, ul4, ge4⟩ := k97_openF hMe
        have hv4 := hcc 4 _ rfl
        rw [add_field _ _ 4 (by omega)] at hv4
        replace hv4 := Option.some.inj (hv4.symm.trans g4)
        injection hv4 with hva_ hvn_ hvc_
        rw [hva_] at ge4
        rw [hvc_] at ul4
        have HL := show Kd.V k95 95 wL w.heap.size _ _ ((rd_T97 l0 iv).f1.f3) from Kd.V_mk ul4 ge4
        clear hcc hce hva_ hvn_ hvc_ ge4 ul4
        rw [hx1] at g0 g1 g2 g3 g4 g5 HL
        clear hx1
        have HL := Lib.hid HL
        go_wp2_with (go_at_call 121; refine hcall.out.mono ?_; rintro e w2 ⟨rfl, hb⟩; have HB2 := Lib.hid (below_tr (below_alloc HB.out _) hb); have G4 := blk_below hG HB2.out; have g0 := below_cell HB2.out g0; have g1 := below_cell HB2.out g1; have g2 := below_cell HB2.out g2; have g3 := below_cell HB2.out g3; have g4 := below_cell HB2.out g4; have g5 := below_cell HB2.out g5; have q0 := (blk_cell G4 0).trans rfl; have q1 := (blk_cell G4 1).trans rfl; have q2 := (blk_cell G4 2).trans rfl; have q3 := (blk_cell G4 3).trans rfl; have q4 := (blk_cell G4 4).trans rfl; have q5 := (blk_cell G4 5).trans rfl; have z0 := blk_frozen G4 0; have z1 := blk_frozen G4 1; have z2 := blk_frozen G4 2; have z3 := blk_frozen G4 3; have z4 := blk_frozen G4 4; have z5 := blk_frozen G4 5)
        have HBw : Below w.heap.size w w2 := below_then hB0 hsL HB2.out
        refine bodyPost_ret (results_ct rfl _ _ gb4 97 #[.string x.f0, .int .i64 x.f1.f0, .int .i64 x.f1.f1, .string x.f1.f2, .slice A4 x.f1.f3.length c4, .int .i64 x.f2] (0, 0) _ rfl (by refine blk_put (cs := #[.string x.f0, .int .i64 x.f1.f0, .int .i64 x.f1.f1, .string x.f1.f2, .slice A4 x.f1.f3.length c4, .int .i64 0]) ?_ 5 _ rfl; refine blk_put (cs := #[.string x.f0, .int .i64 x.f1.f0, .int .i64 x.f1.f1, .string x.f1.f2, .slice none 0 0, .int .i64 0]) ?_ 4 _ rfl; refine blk_put (cs := #[.string x.f0, .int .i64 x.f1.f0, .int .i64 x.f1.f1, .string (⟨#[]⟩ : ByteArray), .slice none 0 0, .int .i64 0]) ?_ 3 _ rfl; refine blk_put (cs := #[.string x.f0, .int .i64 x.f1.f0, .int .i64 0, .string (⟨#[]⟩ : ByteArray), .slice none 0 0, .int .i64 0]) ?_ 2 _ rfl; refine blk_put (cs := #[.string x.f0, .int .i64 0, .int .i64 0, .string (⟨#[]⟩ : ByteArray), .slice none 0 0, .int .i64 0]) ?_ 1 _ rfl; refine blk_put (cs := #[.string (⟨#[]⟩ : ByteArray), .int .i64 0, .int .i64 0, .string (⟨#[]⟩ : ByteArray), .slice none 0 0, .int .i64 0]) ?_ 0 _ rfl; exact G4) Tryz.underlying97 rfl (by kernel_rfl)) rfl ?_
        exact ⟨_, rfl, Kd.V_mono (Kd.V_far (p := ⟨gb4, 5, none⟩) (Kd.V_far (p := ⟨gb4, 4, none⟩) (Kd.V_far (p := ⟨gb4, 3, none⟩) (Kd.V_far (p := ⟨gb4, 2, none⟩) (Kd.V_far (p := ⟨gb4, 1, none⟩) (Kd.V_far (p := ⟨gb4, 0, none⟩) (Kd.V_mono (Kd.V_below HL.out HB2.out) (fun k_ hk => (⟨hk, hk.2⟩ : _ ∧ k_ ≠ gb4))) (fun _ hk => hk.2) (.string x.f0)) (fun _ hk => hk.2) (.int .i64 x.f1.f0)) (fun _ hk => hk.2) (.int .i64 x.f1.f1)) (fun _ hk => hk.2) (.string x.f1.f2)) (fun _ hk => hk.2) (.slice A4 x.f1.f3.length c4)) (fun _ hk => hk.2) (.int .i64 x.f2)) (fun _ hk => hk.1.1), by (with_reducible refine below_set (below_set (below_set (below_set (below_set (below_set HBw hg4) hg4) hg4) hg4) hg4) hg4)⟩
      · have hlt := Lib.hid (show ¬ 0 ≤ ix (isN a1) l0 0 by rw [HIV.out]; exact h0)
        have hb0 : decide (iv ≥ 0) = false := decide_eq_false h0
        clear h0 hi
        go_wp2_with (go_at_call 121; refine hcall.out.mono ?_; rintro e w2 ⟨rfl, hb⟩; have HB2 := Lib.hid (below_tr (below_alloc HB.out _) hb))
        go_roundw
        case rel => exact ⟨1, by omega, by go_num, ⟨HB2.out⟩, ⟨by intro _; have h1 := hlt.out; have h2 := HIV.out; omega⟩, ⟨fun h => by omega⟩⟩
        case measure => simp [intOf]
    · have hi := ix_range (isN ⟨#[]⟩) l0 0
      have hcall := Lib.hid (idxr_any ⟨#[]⟩ A0 c0 l0 ⟨wr.heap.size, 0, none⟩ (wr.alloc (.cells #[.string ⟨#[]⟩] 9)) (Kd.C_below hCL (below_alloc HB.out _)) (by simp))
      generalize hiv : ix (isN ⟨#[]⟩) l0 0 = iv at hi hcall
      have HIV := Lib.hid hiv
      clear hiv
      by_cases h0 : 0 ≤ iv
      · have hge := Lib.hid (show 0 ≤ ix (isN ⟨#[]⟩) l0 0 by rw [HIV.out]; exact h0)
        have hilt : iv < l0.length := by omega
        have hb0 : decide (iv ≥ 0) = true := decide_eq_true h0
        have hxb := (by have hh := HX.out; rw [if_neg (HI1.out (by omega)), if_pos hge.out] at hh; exact hh)
        rw [HIV.out] at hxb
        obtain ⟨hx1, hx2⟩ := Prod.mk.inj hxb
        subst hx2
        clear hxb hi
        obtain ⟨ad, A4, c4, e, g0, g1, g2, g3, g4, g5, gl, _⟩ := at_T97 hCL iv (by omega) (by omega)
        subst e
        obtain ⟨ce, hce, hMe, hcc⟩ := Kd.V_get HV0 z97 iv (by omega) (by omega)
        obtain ⟨ua4, uc4, rfl, ul4, ge4⟩ := k97_openF hMe
        have hv4 := hcc 4 _ rfl
        rw [add_field _ _ 4 (by omega)] at hv4
        replace hv4 := Option.some.inj (hv4.symm.trans g4)
        injection hv4 with hva_ hvn_ hvc_
        rw [hva_] at ge4
        rw [hvc_] at ul4
        have HL := show Kd.V k95 95 wL w.heap.size _ _ ((rd_T97 l0 iv).f1.f3) from Kd.V_mk ul4 ge4
        clear hcc hce hva_ hvn_ hvc_ ge4 ul4
        rw [hx1] at g0 g1 g2 g3 g4 g5 HL
        clear hx1
        have HL := Lib.hid HL
        go_wp2_with (go_at_call 121; refine hcall.out.mono ?_; rintro e w2 ⟨rfl, hb⟩; have HB2 := Lib.hid (below_tr (below_alloc HB.out _) hb); have G4 := blk_below hG HB2.out; have g0 := below_cell HB2.out g0; have g1 := below_cell HB2.out g1; have g2 := below_cell HB2.out g2; have g3 := below_cell HB2.out g3; have g4 := below_cell HB2.out g4; have g5 := below_cell HB2.out g5; have q0 := (blk_cell G4 0).trans rfl; have q1 := (blk_cell G4 1).trans rfl; have q2 := (blk_cell G4 2).trans rfl; have q3 := (blk_cell G4 3).trans rfl; have q4 := (blk_cell G4 4).trans rfl; have q5 := (blk_cell G4 5).trans rfl; have z0 := blk_frozen G4 0; have z1 := blk_frozen G4 1; have z2 := blk_frozen G4 2; have z3 := blk_frozen G4 3; have z4 := blk_frozen G4 4; have z5 := blk_frozen G4 5)
        have HBw : Below w.heap.size w w2 := below_then hB0 hsL HB2.out
        refine bodyPost_ret (results_ct rfl _ _ gb4 97 #[.string x.f0, .int .i64 x.f1.f0, .int .i64 x.f1.f1, .string x.f1.f2, .slice A4 x.f1.f3.length c4, .int .i64 x.f2] (0, 0) _ rfl (by refine blk_put (cs := #[.string x.f0, .int .i64 x.f1.f0, .int .i64 x.f1.f1, .string x.f1.f2, .slice A4 x.f1.f3.length c4, .int .i64 0]) ?_ 5 _ rfl; refine blk_put (cs := #[.string x.f0, .int .i64 x.f1.f0, .int .i64 x.f1.f1, .string x.f1.f2, .slice none 0 0, .int .i64 0]) ?_ 4 _ rfl; refine blk_put (cs := #[.string x.f0, .int .i64 x.f1.f0, .int .i64 x.f1.f1, .string (⟨#[]⟩ : ByteArray), .slice none 0 0, .int .i64 0]) ?_ 3 _ rfl; refine blk_put (cs := #[.string x.f0, .int .i64 x.f1.f0, .int .i64 0, .string (⟨#[]⟩ : ByteArray), .slice none 0 0, .int .i64 0]) ?_ 2 _ rfl; refine blk_put (cs := #[.string x.f0, .int .i64 0, .int .i64 0, .string (⟨#[]⟩ : ByteArray), .slice none 0 0, .int .i64 0]) ?_ 1 _ rfl; refine blk_put (cs := #[.string (⟨#[]⟩ : ByteArray), .int .i64 0, .int .i64 0, .string (⟨#[]⟩ : ByteArray), .slice none 0 0, .int .i64 0]) ?_ 0 _ rfl; exact G4) Tryz.underlying97 rfl (by kernel_rfl)) rfl ?_
        exact ⟨_, rfl, Kd.V_mono (Kd.V_far (p := ⟨gb4, 5, none⟩) (Kd.V_far (p := ⟨gb4, 4, none⟩) (Kd.V_far (p := ⟨gb4, 3, none⟩) (Kd.V_far (p := ⟨gb4, 2, none⟩) (Kd.V_far (p := ⟨gb4, 1, none⟩) (Kd.V_far (p := ⟨gb4, 0, none⟩) (Kd.V_mono (Kd.V_below HL.out HB2.out) (fun k_ hk => (⟨hk, hk.2⟩ : _ ∧ k_ ≠ gb4))) (fun _ hk => hk.2) (.string x.f0)) (fun _ hk => hk.2) (.int .i64 x.f1.f0)) (fun _ hk => hk.2) (.int .i64 x.f1.f1)) (fun _ hk => hk.2) (.string x.f1.f2)) (fun _ hk => hk.2) (.slice A4 x.f1.f3.length c4)) (fun _ hk => hk.2) (.int .i64 x.f2)) (fun _ hk => hk.1.1), by (with_reducible refine below_set (below_set (below_set (below_set (below_set (below_set HBw hg4) hg4) hg4) hg4) hg4) hg4)⟩
      · have hlt := Lib.hid (show ¬ 0 ≤ ix (isN ⟨#[]⟩) l0 0 by rw [HIV.out]; exact h0)
        have hb0 : decide (iv ≥ 0) = false := decide_eq_false h0
        clear h0 hi
        go_wp2_with (go_at_call 121; refine hcall.out.mono ?_; rintro e w2 ⟨rfl, hb⟩; have HB2 := Lib.hid (below_tr (below_alloc HB.out _) hb))
        go_roundw
        case rel => exact ⟨2, by omega, by go_num, ⟨HB2.out⟩, ⟨by intro _; have h1 := HI1.out (by omega); omega⟩, ⟨by intro _; have h1 := hlt.out; have h2 := HIV.out; omega⟩⟩
        case measure => simp [intOf]
    · have hxb := (by have hh := HX.out; rw [if_neg (HI1.out (by omega)), if_neg (HI2.out (by omega))] at hh; exact hh : (z97, false) = (x, b))
      obtain ⟨hx1, hx2⟩ := Prod.mk.inj hxb
      subst hx1 hx2
      have G4 := blk_below hG HB.out
      have q0 := (blk_cell G4 0).trans rfl; have q1 := (blk_cell G4 1).trans rfl; have q2 := (blk_cell G4 2).trans rfl; have q3 := (blk_cell G4 3).trans rfl; have q4 := (blk_cell G4 4).trans rfl; have q5 := (blk_cell G4 5).trans rfl; have z0 := blk_frozen G4 0; have z1 := blk_frozen G4 1; have z2 := blk_frozen G4 2; have z3 := blk_frozen G4 3; have z4 := blk_frozen G4 4; have z5 := blk_frozen G4 5
      go_wp2
      have HBw : Below w.heap.size w wr := below_then hB0 hsL HB.out
      refine bodyPost_ret (results_ct rfl _ _ gb4 97 #[.string (⟨#[]⟩ : ByteArray), .int .i64 0, .int .i64 0, .string (⟨#[]⟩ : ByteArray), .slice none 0 0, .int .i64 0] (0, 0) _ rfl (by refine blk_put (cs := #[.string (⟨#[]⟩ : ByteArray), .int .i64 0, .int .i64 0, .string (⟨#[]⟩ : ByteArray), .slice none 0 0, .int .i64 0]) ?_ 5 _ rfl; refine blk_put (cs := #[.string (⟨#[]⟩ : ByteArray), .int .i64 0, .int .i64 0, .string (⟨#[]⟩ : ByteArray), .slice none 0 0, .int .i64 0]) ?_ 4 _ rfl; refine blk_put (cs := #[.string (⟨#[]⟩ : ByteArray), .int .i64 0, .int .i64 0, .string (⟨#[]⟩ : ByteArray), .slice none 0 0, .int .i64 0]) ?_ 3 _ rfl; refine blk_put (cs := #[.string (⟨#[]⟩ : ByteArray), .int .i64 0, .int .i64 0, .string (⟨#[]⟩ : ByteArray), .slice none 0 0, .int .i64 0]) ?_ 2 _ rfl; refine blk_put (cs := #[.string (⟨#[]⟩ : ByteArray), .int .i64 0, .int .i64 0, .string (⟨#[]⟩ : ByteArray), .slice none 0 0, .int .i64 0]) ?_ 1 _ rfl; refine blk_put (cs := #[.string (⟨#[]⟩ : ByteArray), .int .i64 0, .int .i64 0, .string (⟨#[]⟩ : ByteArray), .slice none 0 0, .int .i64 0]) ?_ 0 _ rfl; exact G4) Tryz.underlying97 rfl (by kernel_rfl)) rfl ?_
      exact ⟨_, rfl, Kd.V_nil _ _ _ _ _, by (with_reducible refine below_set (below_set (below_set (below_set (below_set (below_set HBw hg4) hg4) hg4) hg4) hg4) hg4)⟩

def find2 (l0 : List S97) (a1 : ByteArray) : S97 × Bool := if 0 ≤ ix (isN a1) l0 0 then (rd_T97 l0 (ix (isN a1) l0 0), true) else if 0 ≤ ix (isN ⟨#[]⟩) l0 0 then (rd_T97 l0 (ix (isN ⟨#[]⟩) l0 0), true) else (z97, false)
def rule_Find.f (l0 : List S97) (a1 : ByteArray) : Option (ByteArray × Int × Int × ByteArray × (List (S95)) × Int × Bool) :=
  some ((find2 l0 a1).1.f0, (find2 l0 a1).1.f1.f0, (find2 l0 a1).1.f1.f1, (find2 l0 a1).1.f1.f2, (find2 l0 a1).1.f1.f3, (find2 l0 a1).1.f2, (find2 l0 a1).2)
theorem rule_Find.calls (P0_ : Nat → Prop) (A0 : Option Addr) (c0 : Nat) (l0 : List (S97)) (a1 : ByteArray) (r1 : ByteArray) (r2 : Int) (r3 : Int) (r4 : ByteArray) (r5 : List (S95)) (r6 : Int) (r7 : Bool) (w : World) (hs0 : Kd.V k97 97 w w.heap.size (fun k_ => P0_ k_) (.slice A0 l0.length c0) l0) (h : rule_Find.f l0 a1 = some (r1, r2, r3, r4, r5, r6, r7)) :
    Calls Tryz.prog 81 #[.slice A0 l0.length c0, .string a1] w fun e w' => ∃ v4_ : Value, e = .returned (.tuple #[.agg #[.string r1, .int .i64 r2, .int .i64 r3, .string r4, v4_, .int .i64 r6], .bool r7]) ∧ Kd.V k95 95 w' w.heap.size (fun k_ => (P0_ k_ ∨ w.heap.size ≤ k_)) v4_ r5 ∧ Below w.heap.size w w' := by
  unfold rule_Find.f at h
  simp only [Option.some.injEq, Prod.mk.injEq] at h
  obtain ⟨rfl, rfl, rfl, rfl, rfl, rfl, rfl⟩ := h
  exact find_any P0_ A0 c0 l0 a1 w hs0 _ _ rfl
end Go.Proofs.YtafigkikblpbnaaGreat.PG
