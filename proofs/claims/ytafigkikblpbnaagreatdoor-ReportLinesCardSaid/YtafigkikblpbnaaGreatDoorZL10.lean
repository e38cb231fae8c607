/- Scopes: what they match. Depths, and lists in order; no condition beyond each theorem its own. -/
import Derived.Test.YtafigkikblpbnaaGreatDoorZL09
import Derived.Test.YtafigkikblpbnaaGreatDoorZL04
namespace Go.Proofs.YtafigkikblpbnaaGreatDoor.PG
open Go.RowKit Go.Proofs.YtafigkikblpbnaaGreatDoorW.PrintWords Go.Proofs.YtafigkikblpbnaaGreatDoorW.PrintLast Go.Proofs.YtafigkikblpbnaaGreatDoorW.PrintMore
set_option linter.unusedVariables false
set_option linter.unusedSimpArgs false
set_option maxRecDepth 100000

set_option maxHeartbeats 1000000 in
theorem match_op7 (d : Nat) (IH : MatchAt d) (nm : ByteArray) (fr tt : Int) (ks : List S76) (hd : ∀ y ∈ ks, dp d y) (r : S48) (A : Option Addr) (c : Nat) (W : World) (hC : Kd.C k76 W A ks.length ks) (hl : ks.length ≤ c) : Calls Tryz.prog 34 #[.agg #[.int .i64 7, .string nm, .int .i64 fr, .int .i64 tt, .slice A ks.length c], .agg #[.string r.f0, .string r.f1, .string r.f2, .string r.f3, .int .i64 r.f4, .int .i64 r.f5]] W fun e W' => e = .returned (.bool (ks.any (fun y => mt d y r))) ∧ Below W.heap.size W W' := by
  have hz : ((W.alloc (.cells #[.int .i64 7, .string nm, .int .i64 fr, .int .i64 tt, .slice A ks.length c] 76 (0, 0))).alloc (.cells #[.string r.f0, .string r.f1, .string r.f2, .string r.f3, .int .i64 r.f4, .int .i64 r.f5] 48 (0, 0))).heap.size = W.heap.size + 1 + 1 := by show ((W.heap.push _).push _).size = _; rw [Array.size_push, Array.size_push]
  have hst := run_store_new ((W.alloc (.cells #[.int .i64 7, .string nm, .int .i64 fr, .int .i64 tt, .slice A ks.length c] 76 (0, 0))).alloc (.cells #[.string r.f0, .string r.f1, .string r.f2, .string r.f3, .int .i64 r.f4, .int .i64 r.f5] 48 (0, 0))) .nilFunc (.func (Fn.func 57) #[] #[.pointer (some ⟨W.heap.size + 1, 0, none⟩)]) 106 rfl
  rw [hz] at hst
  have HB := Lib.hid (show Below W.heap.size W (((W.alloc (.cells #[.int .i64 7, .string nm, .int .i64 fr, .int .i64 tt, .slice A ks.length c] 76 (0, 0))).alloc (.cells #[.string r.f0, .string r.f1, .string r.f2, .string r.f3, .int .i64 r.f4, .int .i64 r.f5] 48 (0, 0))).alloc (.cells #[(.func (Fn.func 57) #[] #[.pointer (some ⟨W.heap.size + 1, 0, none⟩)])] 106 (0, 0))) from below_alloc (below_alloc (below_alloc (Below.refl _ _) _) _) _)
  have hb1 := Below.block (below_alloc (below_alloc (Below.refl _ (W.alloc (.cells #[.int .i64 7, .string nm, .int .i64 fr, .int .i64 tt, .slice A ks.length c] 76 (0, 0)))) (.cells #[.string r.f0, .string r.f1, .string r.f2, .string r.f3, .int .i64 r.f4, .int .i64 r.f5] 48 (0, 0))) (.cells #[(.func (Fn.func 57) #[] #[.pointer (some ⟨W.heap.size + 1, 0, none⟩)])] 106 (0, 0))) W.heap.size (blk_lt (new_blk W (.cells #[.int .i64 7, .string nm, .int .i64 fr, .int .i64 tt, .slice A ks.length c] 76 (0, 0))))
  have HYX := Lib.hid (hb1.trans (new_blk W (.cells #[.int .i64 7, .string nm, .int .i64 fr, .int .i64 tt, .slice A ks.length c] 76 (0, 0))))
  have hz1 : (W.alloc (.cells #[.int .i64 7, .string nm, .int .i64 fr, .int .i64 tt, .slice A ks.length c] 76 (0, 0))).heap.size = W.heap.size + 1 := by show (W.heap.push _).size = _; rw [Array.size_push]
  have hy2 := new_blk (W.alloc (.cells #[.int .i64 7, .string nm, .int .i64 fr, .int .i64 tt, .slice A ks.length c] 76 (0, 0))) (.cells #[.string r.f0, .string r.f1, .string r.f2, .string r.f3, .int .i64 r.f4, .int .i64 r.f5] 48 (0, 0))
  rw [hz1] at hy2
  have hb2 := Below.block (below_alloc (Below.refl _ ((W.alloc (.cells #[.int .i64 7, .string nm, .int .i64 fr, .int .i64 tt, .slice A ks.length c] 76 (0, 0))).alloc (.cells #[.string r.f0, .string r.f1, .string r.f2, .string r.f3, .int .i64 r.f4, .int .i64 r.f5] 48 (0, 0)))) (.cells #[(.func (Fn.func 57) #[] #[.pointer (some ⟨W.heap.size + 1, 0, none⟩)])] 106 (0, 0))) (W.heap.size + 1) (by rw [hz]; omega)
  have HYR := Lib.hid (hb2.trans hy2)
  have hy3 := new_blk ((W.alloc (.cells #[.int .i64 7, .string nm, .int .i64 fr, .int .i64 tt, .slice A ks.length c] 76 (0, 0))).alloc (.cells #[.string r.f0, .string r.f1, .string r.f2, .string r.f3, .int .i64 r.f4, .int .i64 r.f5] 48 (0, 0))) (.cells #[(.func (Fn.func 57) #[] #[.pointer (some ⟨W.heap.size + 1, 0, none⟩)])] 106 (0, 0))
  rw [hz] at hy3
  have HYF := Lib.hid hy3
  have HC3 := Lib.hid (Kd.C_below hC HB.out)
  clear hz hz1 hy2 hb1 hb2 hy3 hC
  have HCALL := Lib.hid (contS1 (fun y => mt d y r) A c ks (W.heap.size + 1) (((W.alloc (.cells #[.int .i64 7, .string nm, .int .i64 fr, .int .i64 tt, .slice A ks.length c] 76 (0, 0))).alloc (.cells #[.string r.f0, .string r.f1, .string r.f2, .string r.f3, .int .i64 r.f4, .int .i64 r.f5] 48 (0, 0))).alloc (.cells #[(.func (Fn.func 57) #[] #[.pointer (some ⟨W.heap.size + 1, 0, none⟩)])] 106 (0, 0))) HC3.out (fun x hx A4 c4 W' hb hC4 hl4 => lit1_any d IH x r A4 c4 (W.heap.size + 1) W' (hd x hx) hC4 hl4 ((hb.block _ (blk_lt HYR.out)).trans HYR.out)))
  clear hd IH
  go_enter Tryz.func34, Tryz.ntmps34
  go_wp2_with fail
  refine HCALL.out.mono ?_
  rintro e w2 ⟨rfl, hb⟩
  have HB2 := Lib.hid (below_tr HB.out hb)
  clear hb
  go_wp2
  go_ret
  exact ⟨rfl, HB2.out⟩

set_option maxHeartbeats 1000000 in
theorem match_op6 (d : Nat) (IH : MatchAt d) (nm : ByteArray) (fr tt : Int) (ks : List S76) (hd : ∀ y ∈ ks, dp d y) (r : S48) (A : Option Addr) (c : Nat) (W : World) (hC : Kd.C k76 W A ks.length ks) (hl : ks.length ≤ c) : Calls Tryz.prog 34 #[.agg #[.int .i64 6, .string nm, .int .i64 fr, .int .i64 tt, .slice A ks.length c], .agg #[.string r.f0, .string r.f1, .string r.f2, .string r.f3, .int .i64 r.f4, .int .i64 r.f5]] W fun e W' => e = .returned (.bool (!(ks.any (fun y => !mt d y r)))) ∧ Below W.heap.size W W' := by
  have hz : ((W.alloc (.cells #[.int .i64 6, .string nm, .int .i64 fr, .int .i64 tt, .slice A ks.length c] 76 (0, 0))).alloc (.cells #[.string r.f0, .string r.f1, .string r.f2, .string r.f3, .int .i64 r.f4, .int .i64 r.f5] 48 (0, 0))).heap.size = W.heap.size + 1 + 1 := by show ((W.heap.push _).push _).size = _; rw [Array.size_push, Array.size_push]
  have hst := run_store_new ((W.alloc (.cells #[.int .i64 6, .string nm, .int .i64 fr, .int .i64 tt, .slice A ks.length c] 76 (0, 0))).alloc (.cells #[.string r.f0, .string r.f1, .string r.f2, .string r.f3, .int .i64 r.f4, .int .i64 r.f5] 48 (0, 0))) .nilFunc (.func (Fn.func 57) #[] #[.pointer (some ⟨W.heap.size + 1, 0, none⟩)]) 106 rfl
  rw [hz] at hst
  have HB := Lib.hid (show Below W.heap.size W (((W.alloc (.cells #[.int .i64 6, .string nm, .int .i64 fr, .int .i64 tt, .slice A ks.length c] 76 (0, 0))).alloc (.cells #[.string r.f0, .string r.f1, .string r.f2, .string r.f3, .int .i64 r.f4, .int .i64 r.f5] 48 (0, 0))).alloc (.cells #[(.func (Fn.func 57) #[] #[.pointer (some ⟨W.heap.size + 1, 0, none⟩)])] 106 (0, 0))) from below_alloc (below_alloc (below_alloc (Below.refl _ _) _) _) _)
  have hb1 := Below.block (below_alloc (below_alloc (Below.refl _ (W.alloc (.cells #[.int .i64 6, .string nm, .int .i64 fr, .int .i64 tt, .slice A ks.length c] 76 (0, 0)))) (.cells #[.string r.f0, .string r.f1, .string r.f2, .string r.f3, .int .i64 r.f4, .int .i64 r.f5] 48 (0, 0))) (.cells #[(.func (Fn.func 57) #[] #[.pointer (some ⟨W.heap.size + 1, 0, none⟩)])] 106 (0, 0))) W.heap.size (blk_lt (new_blk W (.cells #[.int .i64 6, .string nm, .int .i64 fr, .int .i64 tt, .slice A ks.length c] 76 (0, 0))))
  have HYX := Lib.hid (hb1.trans (new_blk W (.cells #[.int .i64 6, .string nm, .int .i64 fr, .int .i64 tt, .slice A ks.length c] 76 (0, 0))))
  have hz1 : (W.alloc (.cells #[.int .i64 6, .string nm, .int .i64 fr, .int .i64 tt, .slice A ks.length c] 76 (0, 0))).heap.size = W.heap.size + 1 := by show (W.heap.push _).size = _; rw [Array.size_push]
  have hy2 := new_blk (W.alloc (.cells #[.int .i64 6, .string nm, .int .i64 fr, .int .i64 tt, .slice A ks.length c] 76 (0, 0))) (.cells #[.string r.f0, .string r.f1, .string r.f2, .string r.f3, .int .i64 r.f4, .int .i64 r.f5] 48 (0, 0))
  rw [hz1] at hy2
  have hb2 := Below.block (below_alloc (Below.refl _ ((W.alloc (.cells #[.int .i64 6, .string nm, .int .i64 fr, .int .i64 tt, .slice A ks.length c] 76 (0, 0))).alloc (.cells #[.string r.f0, .string r.f1, .string r.f2, .string r.f3, .int .i64 r.f4, .int .i64 r.f5] 48 (0, 0)))) (.cells #[(.func (Fn.func 57) #[] #[.pointer (some ⟨W.heap.size + 1, 0, none⟩)])] 106 (0, 0))) (W.heap.size + 1) (by rw [hz]; omega)
  have HYR := Lib.hid (hb2.trans hy2)
  have hy3 := new_blk ((W.alloc (.cells #[.int .i64 6, .string nm, .int .i64 fr, .int .i64 tt, .slice A ks.length c] 76 (0, 0))).alloc (.cells #[.string r.f0, .string r.f1, .string r.f2, .string r.f3, .int .i64 r.f4, .int .i64 r.f5] 48 (0, 0))) (.cells #[(.func (Fn.func 57) #[] #[.pointer (some ⟨W.heap.size + 1, 0, none⟩)])] 106 (0, 0))
  rw [hz] at hy3
  have HYF := Lib.hid hy3
  have HC3 := Lib.hid (Kd.C_below hC HB.out)
  clear hz hz1 hy2 hb1 hb2 hy3 hC
  have HCALL := Lib.hid (contS2 (fun y => !mt d y r) A c ks (W.heap.size + 1 + 1) (((W.alloc (.cells #[.int .i64 6, .string nm, .int .i64 fr, .int .i64 tt, .slice A ks.length c] 76 (0, 0))).alloc (.cells #[.string r.f0, .string r.f1, .string r.f2, .string r.f3, .int .i64 r.f4, .int .i64 r.f5] 48 (0, 0))).alloc (.cells #[(.func (Fn.func 57) #[] #[.pointer (some ⟨W.heap.size + 1, 0, none⟩)])] 106 (0, 0))) HC3.out (fun x hx A4 c4 W' hb hC4 hl4 => lit2_any d IH x r A4 c4 (W.heap.size + 1) (W.heap.size + 1 + 1) W' (hd x hx) hC4 hl4 ((hb.block _ (blk_lt HYR.out)).trans HYR.out) ((hb.block _ (blk_lt HYF.out)).trans HYF.out)))
  clear hd IH
  generalize ks.any (fun y => !mt d y r) = q at *
  go_enter Tryz.func34, Tryz.ntmps34
  go_wp2_with fail
  refine HCALL.out.mono ?_
  rintro e w2 ⟨rfl, hb⟩
  have HB2 := Lib.hid (below_tr HB.out hb)
  clear hb
  go_wp2
  go_ret
  exact ⟨rfl, HB2.out⟩

set_option maxHeartbeats 1000000 in
theorem match_op8 (d : Nat) (IH : MatchAt d) (nm : ByteArray) (fr tt : Int) (ks : List S76) (hd : ∀ y ∈ ks, dp d y) (r : S48) (A : Option Addr) (c : Nat) (W : World) (hC : Kd.C k76 W A ks.length ks) (hl : ks.length ≤ c) : Calls Tryz.prog 34 #[.agg #[.int .i64 8, .string nm, .int .i64 fr, .int .i64 tt, .slice A ks.length c], .agg #[.string r.f0, .string r.f1, .string r.f2, .string r.f3, .int .i64 r.f4, .int .i64 r.f5]] W fun e W' => e = .returned (.bool (if ks.length = 0 then true else !mt d (rd_T76 ks 0) r)) ∧ Below W.heap.size W W' := by
  have hz : ((W.alloc (.cells #[.int .i64 8, .string nm, .int .i64 fr, .int .i64 tt, .slice A ks.length c] 76 (0, 0))).alloc (.cells #[.string r.f0, .string r.f1, .string r.f2, .string r.f3, .int .i64 r.f4, .int .i64 r.f5] 48 (0, 0))).heap.size = W.heap.size + 1 + 1 := by show ((W.heap.push _).push _).size = _; rw [Array.size_push, Array.size_push]
  have hst := run_store_new ((W.alloc (.cells #[.int .i64 8, .string nm, .int .i64 fr, .int .i64 tt, .slice A ks.length c] 76 (0, 0))).alloc (.cells #[.string r.f0, .string r.f1, .string r.f2, .string r.f3, .int .i64 r.f4, .int .i64 r.f5] 48 (0, 0))) .nilFunc (.func (Fn.func 57) #[] #[.pointer (some ⟨W.heap.size + 1, 0, none⟩)]) 106 rfl
  rw [hz] at hst
  have HB := Lib.hid (show Below W.heap.size W (((W.alloc (.cells #[.int .i64 8, .string nm, .int .i64 fr, .int .i64 tt, .slice A ks.length c] 76 (0, 0))).alloc (.cells #[.string r.f0, .string r.f1, .string r.f2, .string r.f3, .int .i64 r.f4, .int .i64 r.f5] 48 (0, 0))).alloc (.cells #[(.func (Fn.func 57) #[] #[.pointer (some ⟨W.heap.size + 1, 0, none⟩)])] 106 (0, 0))) from below_alloc (below_alloc (below_alloc (Below.refl _ _) _) _) _)
  have hb1 := Below.block (below_alloc (below_alloc (Below.refl _ (W.alloc (.cells #[.int .i64 8, .string nm, .int .i64 fr, .int .i64 tt, .slice A ks.length c] 76 (0, 0)))) (.cells #[.string r.f0, .string r.f1, .string r.f2, .string r.f3, .int .i64 r.f4, .int .i64 r.f5] 48 (0, 0))) (.cells #[(.func (Fn.func 57) #[] #[.pointer (some ⟨W.heap.size + 1, 0, none⟩)])] 106 (0, 0))) W.heap.size (blk_lt (new_blk W (.cells #[.int .i64 8, .string nm, .int .i64 fr, .int .i64 tt, .slice A ks.length c] 76 (0, 0))))
  have HYX := Lib.hid (hb1.trans (new_blk W (.cells #[.int .i64 8, .string nm, .int .i64 fr, .int .i64 tt, .slice A ks.length c] 76 (0, 0))))
  have hz1 : (W.alloc (.cells #[.int .i64 8, .string nm, .int .i64 fr, .int .i64 tt, .slice A ks.length c] 76 (0, 0))).heap.size = W.heap.size + 1 := by show (W.heap.push _).size = _; rw [Array.size_push]
  have hy2 := new_blk (W.alloc (.cells #[.int .i64 8, .string nm, .int .i64 fr, .int .i64 tt, .slice A ks.length c] 76 (0, 0))) (.cells #[.string r.f0, .string r.f1, .string r.f2, .string r.f3, .int .i64 r.f4, .int .i64 r.f5] 48 (0, 0))
  rw [hz1] at hy2
  have hb2 := Below.block (below_alloc (Below.refl _ ((W.alloc (.cells #[.int .i64 8, .string nm, .int .i64 fr, .int .i64 tt, .slice A ks.length c] 76 (0, 0))).alloc (.cells #[.string r.f0, .string r.f1, .string r.f2, .string r.f3, .int .i64 r.f4, .int .i64 r.f5] 48 (0, 0)))) (.cells #[(.func (Fn.func 57) #[] #[.pointer (some ⟨W.heap.size + 1, 0, none⟩)])] 106 (0, 0))) (W.heap.size + 1) (by rw [hz]; omega)
  have HYR := Lib.hid (hb2.trans hy2)
  have hy3 := new_blk ((W.alloc (.cells #[.int .i64 8, .string nm, .int .i64 fr, .int .i64 tt, .slice A ks.length c] 76 (0, 0))).alloc (.cells #[.string r.f0, .string r.f1, .string r.f2, .string r.f3, .int .i64 r.f4, .int .i64 r.f5] 48 (0, 0))) (.cells #[(.func (Fn.func 57) #[] #[.pointer (some ⟨W.heap.size + 1, 0, none⟩)])] 106 (0, 0))
  rw [hz] at hy3
  have HYF := Lib.hid hy3
  have HC3 := Lib.hid (Kd.C_below hC HB.out)
  clear hz hz1 hy2 hb1 hb2 hy3 hC
  have q4 : (((W.alloc (.cells #[.int .i64 8, .string nm, .int .i64 fr, .int .i64 tt, .slice A ks.length c] 76 (0, 0))).alloc (.cells #[.string r.f0, .string r.f1, .string r.f2, .string r.f3, .int .i64 r.f4, .int .i64 r.f5] 48 (0, 0))).alloc (.cells #[(.func (Fn.func 57) #[] #[.pointer (some ⟨W.heap.size + 1, 0, none⟩)])] 106 (0, 0))).cell? ⟨W.heap.size, 4, none⟩ = some (.slice A ks.length c) := (blk_cell HYX.out 4).trans rfl
  have q0 : (((W.alloc (.cells #[.int .i64 8, .string nm, .int .i64 fr, .int .i64 tt, .slice A ks.length c] 76 (0, 0))).alloc (.cells #[.string r.f0, .string r.f1, .string r.f2, .string r.f3, .int .i64 r.f4, .int .i64 r.f5] 48 (0, 0))).alloc (.cells #[(.func (Fn.func 57) #[] #[.pointer (some ⟨W.heap.size + 1, 0, none⟩)])] 106 (0, 0))).cell? ⟨W.heap.size, 0, none⟩ = some (.int .i64 8) := (blk_cell HYX.out 0).trans rfl
  have q5 : (((W.alloc (.cells #[.int .i64 8, .string nm, .int .i64 fr, .int .i64 tt, .slice A ks.length c] 76 (0, 0))).alloc (.cells #[.string r.f0, .string r.f1, .string r.f2, .string r.f3, .int .i64 r.f4, .int .i64 r.f5] 48 (0, 0))).alloc (.cells #[(.func (Fn.func 57) #[] #[.pointer (some ⟨W.heap.size + 1, 0, none⟩)])] 106 (0, 0))).cell? ⟨W.heap.size + 1 + 1, 0, none⟩ = some ((.func (Fn.func 57) #[] #[.pointer (some ⟨W.heap.size + 1, 0, none⟩)])) := (blk_cell HYF.out 0).trans rfl
  have hm : ks.length ≤ 9223372036854775807 := HC3.out.2.1
  by_cases h0 : ks.length = 0
  · rw [if_pos h0]
    have h0' : ((ks.length : Int) == 0) = true := by simp [h0]
    clear hd IH h0
    go_enter Tryz.func34, Tryz.ntmps34
    go_wp2_with fail
    go_quiet (fail)
    go_wp2
    go_ret
    exact ⟨rfl, pw_below_drewN HB.out _⟩
  · rw [if_neg h0]
    have hk0 : 0 < ks.length := by omega
    have h0' : ((ks.length : Int) == 0) = false := by simp [h0]
    have hk1 : (0 : Int) < (ks.length : Int) := by omega
    obtain ⟨ad, A4, c4, e, g0, g1, g2, g3, g4, hl4, hC4⟩ := at_T76 HC3.out 0 (by omega) (by omega)
    subst e
    rw [show (0 : Int).toNat * 5 = 0 from rfl, show ad.add 0 = ad by obtain ⟨b, o, s⟩ := ad; unfold Addr.add; cases s <;> simp] at g0 g1 g2 g3 g4
    have hdy := hd _ (rd_mem52 hk0)
    rw [show ((0 : Nat) : Int) = 0 from rfl] at hdy
    generalize rd_T76 ks 0 = y at *
    generalize hW4 : (((W.alloc (.cells #[.int .i64 8, .string nm, .int .i64 fr, .int .i64 tt, .slice (some ad) ks.length c] 76 (0, 0))).alloc (.cells #[.string r.f0, .string r.f1, .string r.f2, .string r.f3, .int .i64 r.f4, .int .i64 r.f5] 48 (0, 0))).alloc (.cells #[(.func (Fn.func 57) #[] #[.pointer (some ⟨W.heap.size + 1, 0, none⟩)])] 106 (0, 0))) = W4 at *
    have HL := fun w' (h : (Aside0 (Below W4.heap.size W4 w') ∧ w'.cell? ⟨W.heap.size, 4, none⟩ = some (.slice (some ad) ks.length c) ∧ w'.cell? ⟨W.heap.size + 1 + 1, 0, none⟩ = some ((.func (Fn.func 57) #[] #[.pointer (some ⟨W.heap.size + 1, 0, none⟩)])) ∧ w'.cell? ad = some (.int .i64 y.f0) ∧ w'.cell? ⟨ad.block, ad.off + 1, none⟩ = some (.string y.f1) ∧ w'.cell? ⟨ad.block, ad.off + 2, none⟩ = some (.int .i64 y.f2) ∧ w'.cell? ⟨ad.block, ad.off + 3, none⟩ = some (.int .i64 y.f3) ∧ w'.cell? ⟨ad.block, ad.off + 4, none⟩ = some (.slice A4 y.f4.length c4))) => Lib.hid (lit1_any d IH y r A4 c4 (W.heap.size + 1) w' hdy (Kd.C_below hC4 h.1.out) hl4 ((h.1.out.block _ (blk_lt HYR.out)).trans HYR.out))
    have HKEEP := Lib.hid (show ∀ w1 w2 : World, (Aside0 (Below W4.heap.size W4 w1) ∧ w1.cell? ⟨W.heap.size, 4, none⟩ = some (.slice (some ad) ks.length c) ∧ w1.cell? ⟨W.heap.size + 1 + 1, 0, none⟩ = some ((.func (Fn.func 57) #[] #[.pointer (some ⟨W.heap.size + 1, 0, none⟩)])) ∧ w1.cell? ad = some (.int .i64 y.f0) ∧ w1.cell? ⟨ad.block, ad.off + 1, none⟩ = some (.string y.f1) ∧ w1.cell? ⟨ad.block, ad.off + 2, none⟩ = some (.int .i64 y.f2) ∧ w1.cell? ⟨ad.block, ad.off + 3, none⟩ = some (.int .i64 y.f3) ∧ w1.cell? ⟨ad.block, ad.off + 4, none⟩ = some (.slice A4 y.f4.length c4)) → Below w1.heap.size w1 w2 → (Aside0 (Below W4.heap.size W4 w2) ∧ w2.cell? ⟨W.heap.size, 4, none⟩ = some (.slice (some ad) ks.length c) ∧ w2.cell? ⟨W.heap.size + 1 + 1, 0, none⟩ = some ((.func (Fn.func 57) #[] #[.pointer (some ⟨W.heap.size + 1, 0, none⟩)])) ∧ w2.cell? ad = some (.int .i64 y.f0) ∧ w2.cell? ⟨ad.block, ad.off + 1, none⟩ = some (.string y.f1) ∧ w2.cell? ⟨ad.block, ad.off + 2, none⟩ = some (.int .i64 y.f2) ∧ w2.cell? ⟨ad.block, ad.off + 3, none⟩ = some (.int .i64 y.f3) ∧ w2.cell? ⟨ad.block, ad.off + 4, none⟩ = some (.slice A4 y.f4.length c4)) from fun w1 w2 h hb => ⟨⟨below_tr h.1.out hb⟩, below_cell hb h.2.1, below_cell hb h.2.2.1, below_cell hb h.2.2.2.1, below_cell hb h.2.2.2.2.1, below_cell hb h.2.2.2.2.2.1, below_cell hb h.2.2.2.2.2.2.1, below_cell hb h.2.2.2.2.2.2.2⟩)
    have HS0 := Lib.hid (show (Aside0 (Below W4.heap.size W4 W4.drew) ∧ W4.drew.cell? ⟨W.heap.size, 4, none⟩ = some (.slice (some ad) ks.length c) ∧ W4.drew.cell? ⟨W.heap.size + 1 + 1, 0, none⟩ = some ((.func (Fn.func 57) #[] #[.pointer (some ⟨W.heap.size + 1, 0, none⟩)])) ∧ W4.drew.cell? ad = some (.int .i64 y.f0) ∧ W4.drew.cell? ⟨ad.block, ad.off + 1, none⟩ = some (.string y.f1) ∧ W4.drew.cell? ⟨ad.block, ad.off + 2, none⟩ = some (.int .i64 y.f2) ∧ W4.drew.cell? ⟨ad.block, ad.off + 3, none⟩ = some (.int .i64 y.f3) ∧ W4.drew.cell? ⟨ad.block, ad.off + 4, none⟩ = some (.slice A4 y.f4.length c4)) from ⟨⟨below_drew (Below.refl _ _)⟩, q4, q5, g0, g1, g2, g3, g4⟩)
    clear hd IH hW4 hC4 hl4
    go_enter Tryz.func34, Tryz.ntmps34
    go_wp2_with fail
    go_region_held3 (fun w' => (Aside0 (Below W4.heap.size W4 w') ∧ w'.cell? ⟨W.heap.size, 4, none⟩ = some (.slice (some ad) ks.length c) ∧ w'.cell? ⟨W.heap.size + 1 + 1, 0, none⟩ = some ((.func (Fn.func 57) #[] #[.pointer (some ⟨W.heap.size + 1, 0, none⟩)])) ∧ w'.cell? ad = some (.int .i64 y.f0) ∧ w'.cell? ⟨ad.block, ad.off + 1, none⟩ = some (.string y.f1) ∧ w'.cell? ⟨ad.block, ad.off + 2, none⟩ = some (.int .i64 y.f2) ∧ w'.cell? ⟨ad.block, ad.off + 3, none⟩ = some (.int .i64 y.f3) ∧ w'.cell? ⟨ad.block, ad.off + 4, none⟩ = some (.slice A4 y.f4.length c4))) (first | assumption | with_reducible exact HS0.out | with_reducible exact HKEEP.out _ _ (by assumption) hb) (first | (go_at_call 57; refine (HL _ (by assumption)).out.mono ?_; rintro e w3 ⟨rfl, hb⟩))
    have HBX := Lib.hid (below_tr HB.out (Aside0.out (And.left (by assumption))))
    go_wp2
    go_ret
    exact ⟨rfl, HBX.out⟩
theorem match_else (o : Int) (h1 : o ≠ 1) (h2 : o ≠ 2) (h3 : o ≠ 3) (h4 : o ≠ 4) (h5 : o ≠ 5) (h6 : o ≠ 6) (h7 : o ≠ 7) (h8 : o ≠ 8) (nm : ByteArray) (fr tt : Int) (ks : List S76) (r : S48) (A : Option Addr) (c : Nat) (W : World) : Calls Tryz.prog 34 #[.agg #[.int .i64 o, .string nm, .int .i64 fr, .int .i64 tt, .slice A ks.length c], .agg #[.string r.f0, .string r.f1, .string r.f2, .string r.f3, .int .i64 r.f4, .int .i64 r.f5]] W fun e W' => e = .returned (.bool false) ∧ Below W.heap.size W W' := by
  have hz : ((W.alloc (.cells #[.int .i64 o, .string nm, .int .i64 fr, .int .i64 tt, .slice A ks.length c] 76 (0, 0))).alloc (.cells #[.string r.f0, .string r.f1, .string r.f2, .string r.f3, .int .i64 r.f4, .int .i64 r.f5] 48 (0, 0))).heap.size = W.heap.size + 1 + 1 := by show ((W.heap.push _).push _).size = _; rw [Array.size_push, Array.size_push]
  have hst := run_store_new ((W.alloc (.cells #[.int .i64 o, .string nm, .int .i64 fr, .int .i64 tt, .slice A ks.length c] 76 (0, 0))).alloc (.cells #[.string r.f0, .string r.f1, .string r.f2, .string r.f3, .int .i64 r.f4, .int .i64 r.f5] 48 (0, 0))) .nilFunc (.func (Fn.func 57) #[] #[.pointer (some ⟨W.heap.size + 1, 0, none⟩)]) 106 rfl
  rw [hz] at hst
  have b1 : (o == 1) = false := by simp [h1]
  have b2 : (o == 2) = false := by simp [h2]
  have b3 : (o == 3) = false := by simp [h3]
  have b4 : (o == 4) = false := by simp [h4]
  have b5 : (o == 5) = false := by simp [h5]
  have b6 : (o == 6) = false := by simp [h6]
  have b7 : (o == 7) = false := by simp [h7]
  have b8 : (o == 8) = false := by simp [h8]
  clear h1 h2 h3 h4 h5 h6 h7 h8
  go_enter Tryz.func34, Tryz.ntmps34
  go_wp2
  go_ret
  exact ⟨rfl, below_alloc (below_alloc (below_alloc (Below.refl _ _) _) _) _⟩
/-- A scope matches, however deep. -/
theorem match_any : ∀ d, MatchAt d
  | 0 => fun x r A c W hd => absurd hd id
  | d + 1 => by
    intro x r A c W hd hC hl
    obtain ⟨o, nm, fr, tt, ks⟩ := x
    have hd' : ∀ y ∈ ks, dp d y := hd
    simp only at hC hl
    show Calls Tryz.prog 34 #[.agg #[.int .i64 o, .string nm, .int .i64 fr, .int .i64 tt, .slice A ks.length c], .agg #[.string r.f0, .string r.f1, .string r.f2, .string r.f3, .int .i64 r.f4, .int .i64 r.f5]] W fun e W' => e = .returned (.bool (if o = 1 then true else if o = 2 then (r.f1.toList == nm.toList) else if o = 3 then (r.f2.toList == nm.toList) else if o = 4 then (r.f3.toList == nm.toList)
      else if o = 5 then (decide (r.f4 ≥ fr) && decide (r.f4 ≤ tt)) else if o = 7 then ks.any (fun y => mt d y r) else if o = 6 then !(ks.any (fun y => !mt d y r))
      else if o = 8 then (if ks.length = 0 then true else !mt d (rd_T76 ks 0) r) else false)) ∧ Below W.heap.size W W'
    by_cases h1 : o = 1
    · rw [if_pos h1]; subst h1; exact match_op1 nm fr tt ks r A c W
    by_cases h2 : o = 2
    · rw [if_neg h1, if_pos h2]; subst h2; exact match_op2 nm fr tt ks r A c W
    by_cases h3 : o = 3
    · rw [if_neg h1, if_neg h2, if_pos h3]; subst h3; exact match_op3 nm fr tt ks r A c W
    by_cases h4 : o = 4
    · rw [if_neg h1, if_neg h2, if_neg h3, if_pos h4]; subst h4; exact match_op4 nm fr tt ks r A c W
    by_cases h5 : o = 5
    · rw [if_neg h1, if_neg h2, if_neg h3, if_neg h4, if_pos h5]; subst h5; exact match_op5 nm fr tt ks r A c W
    by_cases h7 : o = 7
    · rw [if_neg h1, if_neg h2, if_neg h3, if_neg h4, if_neg h5, if_pos h7]; subst h7; exact match_op7 d (match_any d) nm fr tt ks hd' r A c W hC hl
    by_cases h6 : o = 6
    · rw [if_neg h1, if_neg h2, if_neg h3, if_neg h4, if_neg h5, if_neg h7, if_pos h6]; subst h6; exact match_op6 d (match_any d) nm fr tt ks hd' r A c W hC hl
    by_cases h8 : o = 8
    · rw [if_neg h1, if_neg h2, if_neg h3, if_neg h4, if_neg h5, if_neg h7, if_neg h6, if_pos h8]; subst h8; exact match_op8 d (match_any d) nm fr tt ks hd' r A c W hC hl
    rw [if_neg h1, if_neg h2, if_neg h3, if_neg h4, if_neg h5, if_neg h7, if_neg h6, if_neg h8]
    exact match_else o h1 h2 h3 h4 h5 h6 h7 h8 nm fr tt ks r A c W
/-- Every scope is so deep. -/
theorem dp_up : ∀ d e x, d ≤ e → dp d x → dp e x
  | 0, _, _, _, h => absurd h id
  | d + 1, 0, _, h, _ => absurd h (by omega)
  | d + 1, e + 1, x, h, hx => fun y hy => dp_up d e y (by omega) (hx y hy)
end Go.Proofs.YtafigkikblpbnaaGreatDoor.PG
namespace Go.Proofs.YtafigkikblpbnaaGreatDoor.PG
open Go.RowKit Go.Proofs.YtafigkikblpbnaaGreatDoorW.PrintWords Go.Proofs.YtafigkikblpbnaaGreatDoorW.PrintLast Go.Proofs.YtafigkikblpbnaaGreatDoorW.PrintMore
set_option linter.unusedVariables false
set_option linter.unusedSimpArgs false
set_option maxRecDepth 100000
theorem dp_all : ∀ (l : List S76), (∀ y ∈ l, ∃ d, dp d y) → ∃ d, ∀ y ∈ l, dp d y
  | [], _ => ⟨0, fun y hy => by cases hy⟩
  | x :: l, h => by
    obtain ⟨d1, h1⟩ := h x (List.mem_cons.2 (.inl rfl))
    obtain ⟨d2, h2⟩ := dp_all l (fun y hy => h y (List.mem_cons.2 (.inr hy)))
    refine ⟨max d1 d2, fun y hy => ?_⟩
    rcases List.mem_cons.1 hy with rfl | hy
    · exact dp_up _ _ _ (Nat.le_max_left _ _) h1
    · exact dp_up _ _ _ (Nat.le_max_right _ _) (h2 y hy)
/-- Every scope has a depth. -/
theorem ex_dp (x : S76) : ∃ d, dp d x := by
  obtain ⟨o, nm, fr, tt, ks⟩ := x
  obtain ⟨d, hd⟩ := dp_all ks (fun y hy => ex_dp y)
  exact ⟨d + 1, hd⟩
termination_by SizeOf.sizeOf x
decreasing_by
  have := List.sizeOf_lt_of_mem hy
  simp_wf
  omega
theorem ex_dpH (l : List S78) : ∃ d, ∀ x ∈ l, dp d x.f1 := by
  obtain ⟨d, hd⟩ := dp_all (l.map (·.f1)) (fun y hy => ex_dp y)
  exact ⟨d, fun x hx => hd _ (List.mem_map.2 ⟨x, hx, rfl⟩)⟩
end Go.Proofs.YtafigkikblpbnaaGreatDoor.PG
