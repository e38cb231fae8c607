/- Certificates that may be: the functions answer. Milestones that may be. Where a name stands. Cases and subjects that may be: the function answers; no condition beyond each theorem its own. -/
import Derived.Test.YtafigkikblpbnaaGreatDoorZC04
namespace Go.Proofs.YtafigkikblpbnaaGreatDoor.PG
open Go.RowKit Go.Proofs.YtafigkikblpbnaaGreatDoorW.PrintWords Go.Proofs.YtafigkikblpbnaaGreatDoorW.PrintLast Go.Proofs.YtafigkikblpbnaaGreatDoorW.PrintMore
set_option linter.unusedVariables false
set_option linter.unusedSimpArgs false
set_option maxRecDepth 100000

/-- It answers an event and a truth value; nothing that was there is turned. -/
def GotB (w : World) (e : Ending) (w' : World) : Prop :=
  ∃ (a b : Int) (s u : ByteArray) (r : Bool), e = .returned (.tuple #[.agg #[.int .i64 a, .int .i64 b, .string s, .string u], .bool r]) ∧ s.size ≤ 140737488351232 ∧ u.size ≤ 140737488351232 ∧ Below w.heap.size w w'
set_option maxHeartbeats 4000000 in
theorem Event25_any (x : S84) (A : Option Addr) (c : Nat) (W : World) (hC : (Kd.int .u8).C W A x.f3.length x.f3) (hc : x.f3.length ≤ c) (hx : x.f3.length ≤ 140737488351232) (hz : x.f0.size ≤ 140737488351232) : Calls Tryz.prog 107 #[.agg #[.string x.f0, .int .i64 x.f1, .int .u64 x.f2, .slice A x.f3.length c]] W (GotB W) := by
  have hbA := below_alloc (Below.refl W.heap.size W) (.cells #[.string x.f0, .int .i64 x.f1, .int .u64 x.f2, .slice A x.f3.length c] 84 (0, 0))
  have hbB := below_alloc hbA (.cells #[.int .i64 0, .int .i64 0, .string ⟨#[]⟩, .string ⟨#[]⟩] 152 (0, 0))
  have hyA := (Below.block (below_alloc (Below.refl _ (W.alloc (.cells #[.string x.f0, .int .i64 x.f1, .int .u64 x.f2, .slice A x.f3.length c] 84 (0, 0)))) (.cells #[.int .i64 0, .int .i64 0, .string ⟨#[]⟩, .string ⟨#[]⟩] 152 (0, 0))) W.heap.size (blk_lt (new_blk W (.cells #[.string x.f0, .int .i64 x.f1, .int .u64 x.f2, .slice A x.f3.length c] 84 (0, 0))))).trans (new_blk W (.cells #[.string x.f0, .int .i64 x.f1, .int .u64 x.f2, .slice A x.f3.length c] 84 (0, 0)))
  have hsz : (W.alloc (.cells #[.string x.f0, .int .i64 x.f1, .int .u64 x.f2, .slice A x.f3.length c] 84 (0, 0))).heap.size = W.heap.size + 1 := by show (W.heap.push _).size = _; rw [Array.size_push]
  have hyB := new_blk (W.alloc (.cells #[.string x.f0, .int .i64 x.f1, .int .u64 x.f2, .slice A x.f3.length c] 84 (0, 0))) (.cells #[.int .i64 0, .int .i64 0, .string ⟨#[]⟩, .string ⟨#[]⟩] 152 (0, 0))
  rw [hsz] at hyB
  have HG := Lib.hid (Get23_any x.f3 A c ((W.alloc (.cells #[.string x.f0, .int .i64 x.f1, .int .u64 x.f2, .slice A x.f3.length c] 84 (0, 0))).alloc (.cells #[.int .i64 0, .int .i64 0, .string ⟨#[]⟩, .string ⟨#[]⟩] 152 (0, 0))) (Kd.C_below hC hbB) hc hx)
  have hr0 : W.heap.size ≤ W.heap.size + 1 := Nat.le_succ _
  have q3 : ((W.alloc (.cells #[.string x.f0, .int .i64 x.f1, .int .u64 x.f2, .slice A x.f3.length c] 84 (0, 0))).alloc (.cells #[.int .i64 0, .int .i64 0, .string ⟨#[]⟩, .string ⟨#[]⟩] 152 (0, 0))).cell? ⟨W.heap.size, 3, none⟩ = some (.slice A x.f3.length c) := (blk_cell hyA 3).trans rfl
  have HBB := Lib.hid hbB
  have HYA := Lib.hid hyA
  have HYB := Lib.hid hyB
  have HR0 := Lib.hid hr0
  clear hC hbA hbB hyA hyB hr0 hsz
  go_enter Tryz.func107, Tryz.ntmps107
  go_wp2_with fail
  refine HG.out.mono ?_
  generalize ((W.alloc (.cells #[.string x.f0, .int .i64 x.f1, .int .u64 x.f2, .slice A x.f3.length c] 84 (0, 0))).alloc (.cells #[.int .i64 0, .int .i64 0, .string ⟨#[]⟩, .string ⟨#[]⟩] 152 (0, 0))) = W1 at *
  generalize W.heap.size + 1 = r0 at *
  rintro e w2 ⟨a, b, r, s, u, rfl, hs, hu, hb⟩
  have hb3 := below_tr hb (below_alloc (Below.refl w2.heap.size w2) (.cells #[.int .i64 a, .int .i64 b, .string s, .string u] 152 (0, 0)))
  have HY3 := Lib.hid ((hb3.block W.heap.size (blk_lt HYA.out)).trans HYA.out)
  have HZ3 := Lib.hid ((hb3.block r0 (blk_lt HYB.out)).trans HYB.out)
  have HE3 := Lib.hid (new_blk w2 (.cells #[.int .i64 a, .int .i64 b, .string s, .string u] 152 (0, 0)))
  have HB3 := Lib.hid (below_tr HBB.out hb3)
  clear hb hb3 q3
  by_cases h0 : r = 0
  · subst h0
    have HM := Lib.hid (Ends23_any a b s u hs hu (w2.alloc (.cells #[.int .i64 a, .int .i64 b, .string s, .string u] 152 (0, 0))))
    go_wp2_with fail
    refine HM.out.mono ?_
    rintro e w4 ⟨q, rfl, hb⟩
    have HY4 := Lib.hid ((hb.block W.heap.size (blk_lt HY3.out)).trans HY3.out)
    have HZ4 := Lib.hid ((hb.block r0 (blk_lt HZ3.out)).trans HZ3.out)
    have HE4 := Lib.hid ((hb.block w2.heap.size (blk_lt HE3.out)).trans HE3.out)
    have HB4 := Lib.hid (below_tr HB3.out hb)
    clear hb
    have q0 : w4.cell? ⟨W.heap.size, 0, none⟩ = some (.string x.f0) := (blk_cell HY4.out 0).trans rfl
    have t0 : w4.cell? ⟨w2.heap.size, 0, none⟩ = some (.int .i64 a) := (blk_cell HE4.out 0).trans rfl
    have t1 : w4.cell? ⟨w2.heap.size, 1, none⟩ = some (.int .i64 b) := (blk_cell HE4.out 1).trans rfl
    have t2 : w4.cell? ⟨w2.heap.size, 2, none⟩ = some (.string s) := (blk_cell HE4.out 2).trans rfl
    have t3 : w4.cell? ⟨w2.heap.size, 3, none⟩ = some (.string u) := (blk_cell HE4.out 3).trans rfl
    cases q
    · skip
      have k0 : (w4).cell? ⟨r0, 0, none⟩ = some (.int .i64 0) := (blk_cell HZ4.out 0).trans rfl
      have kf0 := blk_frozen HZ4.out 0
      have kb0 := Lib.hid (blk_set HZ4.out 0 (.int .i64 0))
      have k1 : ((w4).setCell ⟨r0, 0, none⟩ (.int .i64 0)).cell? ⟨r0, 1, none⟩ = some (.int .i64 0) := (blk_cell kb0.out 1).trans rfl
      have kf1 := blk_frozen kb0.out 1
      have kb1 := Lib.hid (blk_set kb0.out 1 (.int .i64 0))
      have k2 : (((w4).setCell ⟨r0, 0, none⟩ (.int .i64 0)).setCell ⟨r0, 1, none⟩ (.int .i64 0)).cell? ⟨r0, 2, none⟩ = some (.string ⟨#[]⟩) := (blk_cell kb1.out 2).trans rfl
      have kf2 := blk_frozen kb1.out 2
      have kb2 := Lib.hid (blk_set kb1.out 2 (.string ⟨#[]⟩))
      have k3 : ((((w4).setCell ⟨r0, 0, none⟩ (.int .i64 0)).setCell ⟨r0, 1, none⟩ (.int .i64 0)).setCell ⟨r0, 2, none⟩ (.string ⟨#[]⟩)).cell? ⟨r0, 3, none⟩ = some (.string ⟨#[]⟩) := (blk_cell kb2.out 3).trans rfl
      have kf3 := blk_frozen kb2.out 3
      have kb3 := Lib.hid (blk_set kb2.out 3 (.string ⟨#[]⟩))
      go_wp2
      refine bodyPost_ret (results4_tmp (p := 2) (u := 3) (by kernel_rfl) _ _ r0 _ rfl kb3.out rfl) rfl ?_
      exact ⟨0, 0, ⟨#[]⟩, ⟨#[]⟩, false, rfl, Nat.zero_le _, Nat.zero_le _, (below_set (j := 3) (v := .string ⟨#[]⟩) (below_set (j := 2) (v := .string ⟨#[]⟩) (below_set (j := 1) (v := .int .i64 0) (below_set (j := 0) (v := .int .i64 0) HB4.out HR0.out) HR0.out) HR0.out) HR0.out)⟩
    by_cases hse : s.toList.isEmpty = true
    · skip
      have k0 : (w4).cell? ⟨r0, 0, none⟩ = some (.int .i64 0) := (blk_cell HZ4.out 0).trans rfl
      have kf0 := blk_frozen HZ4.out 0
      have kb0 := Lib.hid (blk_set HZ4.out 0 (.int .i64 0))
      have k1 : ((w4).setCell ⟨r0, 0, none⟩ (.int .i64 0)).cell? ⟨r0, 1, none⟩ = some (.int .i64 0) := (blk_cell kb0.out 1).trans rfl
      have kf1 := blk_frozen kb0.out 1
      have kb1 := Lib.hid (blk_set kb0.out 1 (.int .i64 0))
      have k2 : (((w4).setCell ⟨r0, 0, none⟩ (.int .i64 0)).setCell ⟨r0, 1, none⟩ (.int .i64 0)).cell? ⟨r0, 2, none⟩ = some (.string ⟨#[]⟩) := (blk_cell kb1.out 2).trans rfl
      have kf2 := blk_frozen kb1.out 2
      have kb2 := Lib.hid (blk_set kb1.out 2 (.string ⟨#[]⟩))
      have k3 : ((((w4).setCell ⟨r0, 0, none⟩ (.int .i64 0)).setCell ⟨r0, 1, none⟩ (.int .i64 0)).setCell ⟨r0, 2, none⟩ (.string ⟨#[]⟩)).cell? ⟨r0, 3, none⟩ = some (.string ⟨#[]⟩) := (blk_cell kb2.out 3).trans rfl
      have kf3 := blk_frozen kb2.out 3
      have kb3 := Lib.hid (blk_set kb2.out 3 (.string ⟨#[]⟩))
      go_wp2
      refine bodyPost_ret (results4_tmp (p := 2) (u := 3) (by kernel_rfl) _ _ r0 _ rfl kb3.out rfl) rfl ?_
      exact ⟨0, 0, ⟨#[]⟩, ⟨#[]⟩, false, rfl, Nat.zero_le _, Nat.zero_le _, (below_set (j := 3) (v := .string ⟨#[]⟩) (below_set (j := 2) (v := .string ⟨#[]⟩) (below_set (j := 1) (v := .int .i64 0) (below_set (j := 0) (v := .int .i64 0) HB4.out HR0.out) HR0.out) HR0.out) HR0.out)⟩
    have hse' : s.toList.isEmpty = false := by simpa using hse
    clear hse
    by_cases hsr : s.toList = x.f0.toList
    · have hsr' : (s.toList == x.f0.toList) = true := by simp [hsr]
      have hsr2 : (s.toList != x.f0.toList) = false := by simp [hsr]
      clear hsr
      have k0 : (w4).cell? ⟨r0, 0, none⟩ = some (.int .i64 0) := (blk_cell HZ4.out 0).trans rfl
      have kf0 := blk_frozen HZ4.out 0
      have kb0 := Lib.hid (blk_set HZ4.out 0 (.int .i64 a))
      have k1 : ((w4).setCell ⟨r0, 0, none⟩ (.int .i64 a)).cell? ⟨r0, 1, none⟩ = some (.int .i64 0) := (blk_cell kb0.out 1).trans rfl
      have kf1 := blk_frozen kb0.out 1
      have kb1 := Lib.hid (blk_set kb0.out 1 (.int .i64 b))
      have k2 : (((w4).setCell ⟨r0, 0, none⟩ (.int .i64 a)).setCell ⟨r0, 1, none⟩ (.int .i64 b)).cell? ⟨r0, 2, none⟩ = some (.string ⟨#[]⟩) := (blk_cell kb1.out 2).trans rfl
      have kf2 := blk_frozen kb1.out 2
      have kb2 := Lib.hid (blk_set kb1.out 2 (.string s))
      have k3 : ((((w4).setCell ⟨r0, 0, none⟩ (.int .i64 a)).setCell ⟨r0, 1, none⟩ (.int .i64 b)).setCell ⟨r0, 2, none⟩ (.string s)).cell? ⟨r0, 3, none⟩ = some (.string ⟨#[]⟩) := (blk_cell kb2.out 3).trans rfl
      have kf3 := blk_frozen kb2.out 3
      have kb3 := Lib.hid (blk_set kb2.out 3 (.string u))
      go_wp2
      refine bodyPost_ret (results4_tmp (p := 2) (u := 3) (by kernel_rfl) _ _ r0 _ rfl kb3.out rfl) rfl ?_
      exact ⟨a, b, s, u, true, rfl, hs, hu, (below_set (j := 3) (v := .string u) (below_set (j := 2) (v := .string s) (below_set (j := 1) (v := .int .i64 b) (below_set (j := 0) (v := .int .i64 a) HB4.out HR0.out) HR0.out) HR0.out) HR0.out)⟩
    · have hsr' : (s.toList == x.f0.toList) = false := by simp [hsr]
      have hsr2 : (s.toList != x.f0.toList) = true := by simp [hsr]
      clear hsr
      have k0 : (w4).cell? ⟨r0, 0, none⟩ = some (.int .i64 0) := (blk_cell HZ4.out 0).trans rfl
      have kf0 := blk_frozen HZ4.out 0
      have kb0 := Lib.hid (blk_set HZ4.out 0 (.int .i64 0))
      have k1 : ((w4).setCell ⟨r0, 0, none⟩ (.int .i64 0)).cell? ⟨r0, 1, none⟩ = some (.int .i64 0) := (blk_cell kb0.out 1).trans rfl
      have kf1 := blk_frozen kb0.out 1
      have kb1 := Lib.hid (blk_set kb0.out 1 (.int .i64 0))
      have k2 : (((w4).setCell ⟨r0, 0, none⟩ (.int .i64 0)).setCell ⟨r0, 1, none⟩ (.int .i64 0)).cell? ⟨r0, 2, none⟩ = some (.string ⟨#[]⟩) := (blk_cell kb1.out 2).trans rfl
      have kf2 := blk_frozen kb1.out 2
      have kb2 := Lib.hid (blk_set kb1.out 2 (.string ⟨#[]⟩))
      have k3 : ((((w4).setCell ⟨r0, 0, none⟩ (.int .i64 0)).setCell ⟨r0, 1, none⟩ (.int .i64 0)).setCell ⟨r0, 2, none⟩ (.string ⟨#[]⟩)).cell? ⟨r0, 3, none⟩ = some (.string ⟨#[]⟩) := (blk_cell kb2.out 3).trans rfl
      have kf3 := blk_frozen kb2.out 3
      have kb3 := Lib.hid (blk_set kb2.out 3 (.string ⟨#[]⟩))
      go_wp2
      refine bodyPost_ret (results4_tmp (p := 2) (u := 3) (by kernel_rfl) _ _ r0 _ rfl kb3.out rfl) rfl ?_
      exact ⟨0, 0, ⟨#[]⟩, ⟨#[]⟩, false, rfl, Nat.zero_le _, Nat.zero_le _, (below_set (j := 3) (v := .string ⟨#[]⟩) (below_set (j := 2) (v := .string ⟨#[]⟩) (below_set (j := 1) (v := .int .i64 0) (below_set (j := 0) (v := .int .i64 0) HB4.out HR0.out) HR0.out) HR0.out) HR0.out)⟩
  · skip
    have k0 : ((w2.alloc (.cells #[.int .i64 a, .int .i64 b, .string s, .string u] 152 (0, 0)))).cell? ⟨r0, 0, none⟩ = some (.int .i64 0) := (blk_cell HZ3.out 0).trans rfl
    have kf0 := blk_frozen HZ3.out 0
    have kb0 := Lib.hid (blk_set HZ3.out 0 (.int .i64 0))
    have k1 : (((w2.alloc (.cells #[.int .i64 a, .int .i64 b, .string s, .string u] 152 (0, 0)))).setCell ⟨r0, 0, none⟩ (.int .i64 0)).cell? ⟨r0, 1, none⟩ = some (.int .i64 0) := (blk_cell kb0.out 1).trans rfl
    have kf1 := blk_frozen kb0.out 1
    have kb1 := Lib.hid (blk_set kb0.out 1 (.int .i64 0))
    have k2 : ((((w2.alloc (.cells #[.int .i64 a, .int .i64 b, .string s, .string u] 152 (0, 0)))).setCell ⟨r0, 0, none⟩ (.int .i64 0)).setCell ⟨r0, 1, none⟩ (.int .i64 0)).cell? ⟨r0, 2, none⟩ = some (.string ⟨#[]⟩) := (blk_cell kb1.out 2).trans rfl
    have kf2 := blk_frozen kb1.out 2
    have kb2 := Lib.hid (blk_set kb1.out 2 (.string ⟨#[]⟩))
    have k3 : (((((w2.alloc (.cells #[.int .i64 a, .int .i64 b, .string s, .string u] 152 (0, 0)))).setCell ⟨r0, 0, none⟩ (.int .i64 0)).setCell ⟨r0, 1, none⟩ (.int .i64 0)).setCell ⟨r0, 2, none⟩ (.string ⟨#[]⟩)).cell? ⟨r0, 3, none⟩ = some (.string ⟨#[]⟩) := (blk_cell kb2.out 3).trans rfl
    have kf3 := blk_frozen kb2.out 3
    have kb3 := Lib.hid (blk_set kb2.out 3 (.string ⟨#[]⟩))
    go_wp2
    refine bodyPost_ret (results4_tmp (p := 2) (u := 3) (by kernel_rfl) _ _ r0 _ rfl kb3.out rfl) rfl ?_
    exact ⟨0, 0, ⟨#[]⟩, ⟨#[]⟩, false, rfl, Nat.zero_le _, Nat.zero_le _, (below_set (j := 3) (v := .string ⟨#[]⟩) (below_set (j := 2) (v := .string ⟨#[]⟩) (below_set (j := 1) (v := .int .i64 0) (below_set (j := 0) (v := .int .i64 0) HB3.out HR0.out) HR0.out) HR0.out) HR0.out)⟩
set_option maxHeartbeats 2000000 in
theorem May25_any (x : S84) (A : Option Addr) (c : Nat) (W : World) (hC : (Kd.int .u8).C W A x.f3.length x.f3) (hc : x.f3.length ≤ c) (hx : x.f3.length ≤ 140737488351232) (hz : x.f0.size ≤ 140737488351232) : Calls Tryz.prog 75 #[.agg #[.string x.f0, .int .i64 x.f1, .int .u64 x.f2, .slice A x.f3.length c]] W (RBb W) := by
  have hbA := below_alloc (Below.refl W.heap.size W) (.cells #[.string x.f0, .int .i64 x.f1, .int .u64 x.f2, .slice A x.f3.length c] 84 (0, 0))
  have HYA := Lib.hid (new_blk W (.cells #[.string x.f0, .int .i64 x.f1, .int .u64 x.f2, .slice A x.f3.length c] 84 (0, 0)))
  have HBA := Lib.hid hbA
  have HE := Lib.hid (Event25_any x A c (W.alloc (.cells #[.string x.f0, .int .i64 x.f1, .int .u64 x.f2, .slice A x.f3.length c] 84 (0, 0))) (Kd.C_below hC hbA) hc hx hz)
  clear hC hbA
  go_enter Tryz.func75, Tryz.ntmps75
  go_wp2_with fail
  refine HE.out.mono ?_
  rintro e w2 ⟨a, b, s, u, r, rfl, hs, hu, hb⟩
  have hb3 := below_tr hb (below_alloc (Below.refl w2.heap.size w2) (.cells #[.int .i64 a, .int .i64 b, .string s, .string u] 152 (0, 0)))
  have HY3 := Lib.hid ((hb3.block W.heap.size (blk_lt HYA.out)).trans HYA.out)
  have HB3 := Lib.hid (below_tr HBA.out hb3)
  clear hb hb3
  have q1 : (w2.alloc (.cells #[.int .i64 a, .int .i64 b, .string s, .string u] 152 (0, 0))).cell? ⟨W.heap.size, 1, none⟩ = some (.int .i64 x.f1) := (blk_cell HY3.out 1).trans rfl
  go_wp2
  all_goals (go_ret; exact RBb.mk HB3.out)
end Go.Proofs.YtafigkikblpbnaaGreatDoor.PG
namespace Go.Proofs.YtafigkikblpbnaaGreatDoor.PG
open Go.RowKit Go.Proofs.YtafigkikblpbnaaGreatDoorW.PrintWords Go.Proofs.YtafigkikblpbnaaGreatDoorW.PrintLast Go.Proofs.YtafigkikblpbnaaGreatDoorW.PrintMore
set_option linter.unusedVariables false
set_option linter.unusedSimpArgs false
set_option maxRecDepth 100000

theorem rd_mem134 {l : List S126} {k : Nat} (h : k < l.length) : rd_T126 l (k : Int) ∈ l := by
  have : rd_T126 l (k : Int) = l[k] := by unfold rd_T126; rw [Int.toNat_natCast, List.getD_eq_getElem?_getD, List.getElem?_eq_getElem h]; rfl
  rw [this]; exact List.getElem_mem h
set_option maxHeartbeats 4000000 in
theorem miles_any (l : List S126) (A : Option Addr) (c : Nat) (W : World) (hC : Kd.C k126 W A l.length l) (hl : l.length ≤ c) (hz : ∀ x ∈ l, x.f0.size ≤ 140737488351232) :
    Calls Tryz.prog 69 #[.slice A l.length c] W (RBq (l.length ≤ 8) W) := by
  have HZ := Lib.hid hz
  clear hz
  have hm : l.length ≤ 9223372036854775807 := hC.2.1
  go_enter Tryz.func69, Tryz.ntmps69
  go_wp2
  go_loopw [3] (fun v3 wr => ∃ k : Nat, v3 = .int .i64 k ∧ k ≤ l.length ∧ Aside0 (Below W.heap.size W wr)) (fun v3 _ => l.length - (intOf v3).toNat)
  case atStart => exact ⟨0, rfl, Nat.zero_le _, ⟨Below.refl _ _⟩⟩
  case round =>
    obtain ⟨k, rfl, hk, HB⟩ := hrel
    by_cases hlt : k < l.length
    · have hlt2 : (k : Int) < (l.length : Int) := by omega
      obtain ⟨ad, e, h0, h1⟩ := at_T126 (Kd.C_below hC HB.out) (k : Int) (by omega) (by omega)
      subst e
      simp only [Int.toNat_natCast] at h0 h1
      have HW := fun w => Lib.hid (word_any2 (rd_T126 l (k : Int)).f0 (HZ.out _ (rd_mem134 hlt)) w)
      have HTK := fun w => Lib.hid (tick_any (rd_T126 l (k : Int)).f1 w)
      generalize rd_T126 l (k : Int) = y at *
      go_wp2_with (first | (go_at_call 105; refine (HW _).out.mono ?_; rintro e w2 ⟨b, rfl, hb1, rfl⟩) | (go_at_call 41; refine (HTK _).out.mono ?_; rintro e w3 ⟨b2, rfl, rfl⟩))
      all_goals first
        | (go_ret; exact RBq.no HB.out)
        | skip
      all_goals (go_loopw [4] (fun v4 wp => ∃ j : Nat, v4 = .int .i64 j ∧ j ≤ k ∧ Aside0 (Below W.heap.size W wp)) (fun v4 _ => k - (intOf v4).toNat))
      case atStart => exact ⟨0, rfl, Nat.zero_le _, ⟨HB.out⟩⟩
      case round =>
        obtain ⟨j, rfl, hj, HBP⟩ := hrel
        by_cases hjq : j < k
        · have hjq2 : (j : Int) < (k : Int) := by omega
          have hjl : (j : Int) < (l.length : Int) := by omega
          obtain ⟨ad1, e1, h0', h1'⟩ := at_T126 (Kd.C_below hC HBP.out) (j : Int) (by omega) (by omega)
          obtain ⟨ad2, e2, g0, g1⟩ := at_T126 (Kd.C_below hC HBP.out) (k : Int) (by omega) (by omega)
          injection e1 with e1
          injection e2 with e2
          subst e1
          subst e2
          simp only [Int.toNat_natCast] at h0' h1' g0 g1
          generalize rd_T126 l (j : Int) = y1 at *
          generalize rd_T126 l (k : Int) = z1 at *
          clear h1' g1
          go_wp2_with fail
          go_quiet (fail)
          have HBN := Lib.hid (pw_below_drewN HBP.out nq)
          go_wp2
          all_goals first
            | (go_ret; exact RBq.no HBN.out)
            | (go_roundw
               case rel => exact ⟨j + 1, by go_num, by omega, ⟨HBN.out⟩⟩
               case measure => simp [intOf]; omega)
        · go_wp2
          go_roundw
          case rel => exact ⟨k + 1, by go_num, by omega, ⟨HBP.out⟩⟩
          case measure => simp [intOf]; omega
    · by_cases h8 : l.length ≤ 8
      · have h8' : (l.length : Int) ≤ 8 := by omega
        go_wp2
        go_ret
        exact ⟨true, rfl, fun _ => h8, HB.out⟩
      · have h8' : ¬ (l.length : Int) ≤ 8 := by omega
        go_wp2
        go_ret
        exact RBq.no HB.out
end Go.Proofs.YtafigkikblpbnaaGreatDoor.PG
namespace Go.Proofs.YtafigkikblpbnaaGreatDoor.PG
open Go.RowKit Go.Proofs.YtafigkikblpbnaaGreatDoorW.PrintWords Go.Proofs.YtafigkikblpbnaaGreatDoorW.PrintLast Go.Proofs.YtafigkikblpbnaaGreatDoorW.PrintMore
set_option linter.unusedVariables false
set_option linter.unusedSimpArgs false
set_option maxRecDepth 100000

theorem drop_T59 {l : List S61} {i : Nat} (h : i < l.length) : l.drop i = rd_T61 l (i : Int) :: l.drop (i + 1) := by
  rw [List.drop_eq_getElem_cons h]
  simp [rd_T61, List.getElem?_eq_getElem h, List.getD_eq_getElem?_getD]
/-- Whose name it is. -/
def nm59 (t : ByteArray) (x : S61) : Bool := x.f0.toList == t.toList

theorem drop_T108 {l : List S115} {i : Nat} (h : i < l.length) : l.drop i = rd_T115 l (i : Int) :: l.drop (i + 1) := by
  rw [List.drop_eq_getElem_cons h]
  simp [rd_T115, List.getElem?_eq_getElem h, List.getD_eq_getElem?_getD]
/-- Whose name it is. -/
def nm108 (t : ByteArray) (x : S115) : Bool := x.f0.toList == t.toList

theorem drop_T73 {l : List S48} {i : Nat} (h : i < l.length) : l.drop i = rd_T48 l (i : Int) :: l.drop (i + 1) := by
  rw [List.drop_eq_getElem_cons h]
  simp [rd_T48, List.getElem?_eq_getElem h, List.getD_eq_getElem?_getD]
/-- Whose name it is. -/
def nm73 (t : ByteArray) (x : S48) : Bool := x.f0.toList == t.toList

theorem drop_T61 {l : List S84} {i : Nat} (h : i < l.length) : l.drop i = rd_T84 l (i : Int) :: l.drop (i + 1) := by
  rw [List.drop_eq_getElem_cons h]
  simp [rd_T84, List.getElem?_eq_getElem h, List.getD_eq_getElem?_getD]
/-- Whose name it is. -/
def nm61 (t : ByteArray) (x : S84) : Bool := x.f0.toList == t.toList

theorem drop_T100 {l : List S78} {i : Nat} (h : i < l.length) : l.drop i = rd_T78 l (i : Int) :: l.drop (i + 1) := by
  rw [List.drop_eq_getElem_cons h]
  simp [rd_T78, List.getElem?_eq_getElem h, List.getD_eq_getElem?_getD]
/-- Whose name it is. -/
def nm100 (t : ByteArray) (x : S78) : Bool := x.f0.toList == t.toList

set_option maxHeartbeats 1000000 in
theorem Case_eq (s : S31) (A2 A3 A4 A5 A6 A7 A8 : Option Addr) (c2 c3 c4 c5 c6 c7 c8 : Nat) (t : ByteArray) (W : World) (hs : Rs W s A2 A3 A4 A5 A6 A7 A8 c2 c3 c4 c5 c6 c7 c8) : Calls Tryz.prog 24 #[.agg #[.int .i64 s.f0, .int .u64 s.f1, .slice A2 s.f2.length c2, .slice A3 s.f3.length c3, .slice A4 s.f4.length c4, .slice A5 s.f5.length c5, .slice A6 s.f6.length c6, .slice A7 s.f7.length c7, .slice A8 s.f8.length c8, .int .i64 s.f9], .string t] W fun e w' => e = .returned (.int .i64 (ix (nm59 t) s.f3 0)) ∧ Below W.heap.size W w' := by
  have HB := Lib.hid (show Below W.heap.size W (W.alloc (.cells #[.int .i64 s.f0, .int .u64 s.f1, .slice A2 s.f2.length c2, .slice A3 s.f3.length c3, .slice A4 s.f4.length c4, .slice A5 s.f5.length c5, .slice A6 s.f6.length c6, .slice A7 s.f7.length c7, .slice A8 s.f8.length c8, .int .i64 s.f9] 31 (0, 0))) from below_alloc (Below.refl _ _) _)
  have HY := Lib.hid (new_blk W (.cells #[.int .i64 s.f0, .int .u64 s.f1, .slice A2 s.f2.length c2, .slice A3 s.f3.length c3, .slice A4 s.f4.length c4, .slice A5 s.f5.length c5, .slice A6 s.f6.length c6, .slice A7 s.f7.length c7, .slice A8 s.f8.length c8, .int .i64 s.f9] 31 (0, 0)))
  have HG := Lib.hid (Kd.C_below hs.g3 HB.out)
  have hm : s.f3.length ≤ 9223372036854775807 := hs.g3.2.1
  have q3 : (W.alloc (.cells #[.int .i64 s.f0, .int .u64 s.f1, .slice A2 s.f2.length c2, .slice A3 s.f3.length c3, .slice A4 s.f4.length c4, .slice A5 s.f5.length c5, .slice A6 s.f6.length c6, .slice A7 s.f7.length c7, .slice A8 s.f8.length c8, .int .i64 s.f9] 31 (0, 0))).cell? ⟨W.heap.size, 3, none⟩ = some (.slice A3 s.f3.length c3) := (blk_cell HY.out 3).trans rfl
  clear hs
  go_enter Tryz.func24, Tryz.ntmps24
  go_wp2
  generalize W.alloc (.cells #[.int .i64 s.f0, .int .u64 s.f1, .slice A2 s.f2.length c2, .slice A3 s.f3.length c3, .slice A4 s.f4.length c4, .slice A5 s.f5.length c5, .slice A6 s.f6.length c6, .slice A7 s.f7.length c7, .slice A8 s.f8.length c8, .int .i64 s.f9] 31 (0, 0)) = W1 at *
  go_loopw [5] (fun v5 wr => ∃ k : Nat, v5 = .int .i64 k ∧ k ≤ s.f3.length ∧ Aside0 (wr = W1) ∧ Aside0 (ix (nm59 t) s.f3 0 = ix (nm59 t) (s.f3.drop k) k)) (fun v5 _ => s.f3.length - (intOf v5).toNat)
  case atStart => exact ⟨0, rfl, Nat.zero_le _, ⟨rfl⟩, ⟨by rw [List.drop_zero]⟩⟩
  case round =>
    obtain ⟨k, rfl, hk, HW, HI⟩ := hrel
    obtain rfl := HW.out
    by_cases hlt : k < s.f3.length
    · have hlt2 : (k : Int) < (s.f3.length : Int) := by omega
      obtain ⟨ad, A4_, c4_, e, h0, h1, hl4, hC4⟩ := at_T61 HG.out (k : Int) (by omega) (by omega)
      subst e
      simp only [Int.toNat_natCast] at h0 h1
      have hd := drop_T59 hlt
      have HI2 := Lib.hid (show ix (nm59 t) s.f3 0 = if ((rd_T61 s.f3 (k : Int)).f0.toList == t.toList) = true then (k : Int) else ix (nm59 t) (s.f3.drop (k + 1)) (k + 1) by rw [HI.out, hd]; rfl)
      clear hd hl4 hC4
      generalize rd_T61 s.f3 (k : Int) = y at *
      by_cases ht : (y.f0.toList == t.toList) = true
      · have HT := Lib.hid ht
        go_wp2
        go_ret
        exact ⟨ret_i (by rw [HI2.out, if_pos HT.out]), HB.out⟩
      · have HT := Lib.hid ht
        have hf : (y.f0.toList == t.toList) = false := Bool.eq_false_iff.mpr ht
        clear ht
        go_wp2
        go_roundw
        case rel => exact ⟨k + 1, by go_num, by omega, ⟨by first | rfl | trivial⟩, ⟨by rw [HI2.out, if_neg HT.out]⟩⟩
        case measure => simp [intOf]; omega
    · have HK := Lib.hid (show k = s.f3.length by omega)
      go_wp2
      go_ret
      exact ⟨ret_i (by rw [HI.out, HK.out, List.drop_of_length_le (Nat.le_refl _)]; rfl), HB.out⟩

set_option maxHeartbeats 1000000 in
theorem Sub_eq (s : S31) (A2 A3 A4 A5 A6 A7 A8 : Option Addr) (c2 c3 c4 c5 c6 c7 c8 : Nat) (t : ByteArray) (W : World) (hs : Rs W s A2 A3 A4 A5 A6 A7 A8 c2 c3 c4 c5 c6 c7 c8) : Calls Tryz.prog 70 #[.agg #[.int .i64 s.f0, .int .u64 s.f1, .slice A2 s.f2.length c2, .slice A3 s.f3.length c3, .slice A4 s.f4.length c4, .slice A5 s.f5.length c5, .slice A6 s.f6.length c6, .slice A7 s.f7.length c7, .slice A8 s.f8.length c8, .int .i64 s.f9], .string t] W fun e w' => e = .returned (.int .i64 (ix (nm108 t) s.f4 0)) ∧ Below W.heap.size W w' := by
  have HB := Lib.hid (show Below W.heap.size W (W.alloc (.cells #[.int .i64 s.f0, .int .u64 s.f1, .slice A2 s.f2.length c2, .slice A3 s.f3.length c3, .slice A4 s.f4.length c4, .slice A5 s.f5.length c5, .slice A6 s.f6.length c6, .slice A7 s.f7.length c7, .slice A8 s.f8.length c8, .int .i64 s.f9] 31 (0, 0))) from below_alloc (Below.refl _ _) _)
  have HY := Lib.hid (new_blk W (.cells #[.int .i64 s.f0, .int .u64 s.f1, .slice A2 s.f2.length c2, .slice A3 s.f3.length c3, .slice A4 s.f4.length c4, .slice A5 s.f5.length c5, .slice A6 s.f6.length c6, .slice A7 s.f7.length c7, .slice A8 s.f8.length c8, .int .i64 s.f9] 31 (0, 0)))
  have HG := Lib.hid (Kd.C_below hs.g4 HB.out)
  have hm : s.f4.length ≤ 9223372036854775807 := hs.g4.2.1
  have q4 : (W.alloc (.cells #[.int .i64 s.f0, .int .u64 s.f1, .slice A2 s.f2.length c2, .slice A3 s.f3.length c3, .slice A4 s.f4.length c4, .slice A5 s.f5.length c5, .slice A6 s.f6.length c6, .slice A7 s.f7.length c7, .slice A8 s.f8.length c8, .int .i64 s.f9] 31 (0, 0))).cell? ⟨W.heap.size, 4, none⟩ = some (.slice A4 s.f4.length c4) := (blk_cell HY.out 4).trans rfl
  clear hs
  go_enter Tryz.func70, Tryz.ntmps70
  go_wp2
  generalize W.alloc (.cells #[.int .i64 s.f0, .int .u64 s.f1, .slice A2 s.f2.length c2, .slice A3 s.f3.length c3, .slice A4 s.f4.length c4, .slice A5 s.f5.length c5, .slice A6 s.f6.length c6, .slice A7 s.f7.length c7, .slice A8 s.f8.length c8, .int .i64 s.f9] 31 (0, 0)) = W1 at *
  go_loopw [5] (fun v5 wr => ∃ k : Nat, v5 = .int .i64 k ∧ k ≤ s.f4.length ∧ Aside0 (wr = W1) ∧ Aside0 (ix (nm108 t) s.f4 0 = ix (nm108 t) (s.f4.drop k) k)) (fun v5 _ => s.f4.length - (intOf v5).toNat)
  case atStart => exact ⟨0, rfl, Nat.zero_le _, ⟨rfl⟩, ⟨by rw [List.drop_zero]⟩⟩
  case round =>
    obtain ⟨k, rfl, hk, HW, HI⟩ := hrel
    obtain rfl := HW.out
    by_cases hlt : k < s.f4.length
    · have hlt2 : (k : Int) < (s.f4.length : Int) := by omega
      obtain ⟨ad, e, h0, h1, h2⟩ := at_T115 HG.out (k : Int) (by omega) (by omega)
      subst e
      simp only [Int.toNat_natCast] at h0 h1 h2
      have hd := drop_T108 hlt
      have HI2 := Lib.hid (show ix (nm108 t) s.f4 0 = if ((rd_T115 s.f4 (k : Int)).f0.toList == t.toList) = true then (k : Int) else ix (nm108 t) (s.f4.drop (k + 1)) (k + 1) by rw [HI.out, hd]; rfl)
      clear hd
      generalize rd_T115 s.f4 (k : Int) = y at *
      by_cases ht : (y.f0.toList == t.toList) = true
      · have HT := Lib.hid ht
        go_wp2
        go_ret
        exact ⟨ret_i (by rw [HI2.out, if_pos HT.out]), HB.out⟩
      · have HT := Lib.hid ht
        have hf : (y.f0.toList == t.toList) = false := Bool.eq_false_iff.mpr ht
        clear ht
        go_wp2
        go_roundw
        case rel => exact ⟨k + 1, by go_num, by omega, ⟨by first | rfl | trivial⟩, ⟨by rw [HI2.out, if_neg HT.out]⟩⟩
        case measure => simp [intOf]; omega
    · have HK := Lib.hid (show k = s.f4.length by omega)
      go_wp2
      go_ret
      exact ⟨ret_i (by rw [HI.out, HK.out, List.drop_of_length_le (Nat.le_refl _)]; rfl), HB.out⟩

set_option maxHeartbeats 1000000 in
theorem Rec_eq (s : S31) (A2 A3 A4 A5 A6 A7 A8 : Option Addr) (c2 c3 c4 c5 c6 c7 c8 : Nat) (t : ByteArray) (W : World) (hs : Rs W s A2 A3 A4 A5 A6 A7 A8 c2 c3 c4 c5 c6 c7 c8) : Calls Tryz.prog 71 #[.agg #[.int .i64 s.f0, .int .u64 s.f1, .slice A2 s.f2.length c2, .slice A3 s.f3.length c3, .slice A4 s.f4.length c4, .slice A5 s.f5.length c5, .slice A6 s.f6.length c6, .slice A7 s.f7.length c7, .slice A8 s.f8.length c8, .int .i64 s.f9], .string t] W fun e w' => e = .returned (.int .i64 (ix (nm73 t) s.f5 0)) ∧ Below W.heap.size W w' := by
  have HB := Lib.hid (show Below W.heap.size W (W.alloc (.cells #[.int .i64 s.f0, .int .u64 s.f1, .slice A2 s.f2.length c2, .slice A3 s.f3.length c3, .slice A4 s.f4.length c4, .slice A5 s.f5.length c5, .slice A6 s.f6.length c6, .slice A7 s.f7.length c7, .slice A8 s.f8.length c8, .int .i64 s.f9] 31 (0, 0))) from below_alloc (Below.refl _ _) _)
  have HY := Lib.hid (new_blk W (.cells #[.int .i64 s.f0, .int .u64 s.f1, .slice A2 s.f2.length c2, .slice A3 s.f3.length c3, .slice A4 s.f4.length c4, .slice A5 s.f5.length c5, .slice A6 s.f6.length c6, .slice A7 s.f7.length c7, .slice A8 s.f8.length c8, .int .i64 s.f9] 31 (0, 0)))
  have HG := Lib.hid (Kd.C_below hs.g5 HB.out)
  have hm : s.f5.length ≤ 9223372036854775807 := hs.g5.2.1
  have q5 : (W.alloc (.cells #[.int .i64 s.f0, .int .u64 s.f1, .slice A2 s.f2.length c2, .slice A3 s.f3.length c3, .slice A4 s.f4.length c4, .slice A5 s.f5.length c5, .slice A6 s.f6.length c6, .slice A7 s.f7.length c7, .slice A8 s.f8.length c8, .int .i64 s.f9] 31 (0, 0))).cell? ⟨W.heap.size, 5, none⟩ = some (.slice A5 s.f5.length c5) := (blk_cell HY.out 5).trans rfl
  clear hs
  go_enter Tryz.func71, Tryz.ntmps71
  go_wp2
  generalize W.alloc (.cells #[.int .i64 s.f0, .int .u64 s.f1, .slice A2 s.f2.length c2, .slice A3 s.f3.length c3, .slice A4 s.f4.length c4, .slice A5 s.f5.length c5, .slice A6 s.f6.length c6, .slice A7 s.f7.length c7, .slice A8 s.f8.length c8, .int .i64 s.f9] 31 (0, 0)) = W1 at *
  go_loopw [5] (fun v5 wr => ∃ k : Nat, v5 = .int .i64 k ∧ k ≤ s.f5.length ∧ Aside0 (wr = W1) ∧ Aside0 (ix (nm73 t) s.f5 0 = ix (nm73 t) (s.f5.drop k) k)) (fun v5 _ => s.f5.length - (intOf v5).toNat)
  case atStart => exact ⟨0, rfl, Nat.zero_le _, ⟨rfl⟩, ⟨by rw [List.drop_zero]⟩⟩
  case round =>
    obtain ⟨k, rfl, hk, HW, HI⟩ := hrel
    obtain rfl := HW.out
    by_cases hlt : k < s.f5.length
    · have hlt2 : (k : Int) < (s.f5.length : Int) := by omega
      obtain ⟨ad, e, h0, h1, h2, h3, h4, h5⟩ := at_T48 HG.out (k : Int) (by omega) (by omega)
      subst e
      simp only [Int.toNat_natCast] at h0 h1 h2 h3 h4 h5
      have hd := drop_T73 hlt
      have HI2 := Lib.hid (show ix (nm73 t) s.f5 0 = if ((rd_T48 s.f5 (k : Int)).f0.toList == t.toList) = true then (k : Int) else ix (nm73 t) (s.f5.drop (k + 1)) (k + 1) by rw [HI.out, hd]; rfl)
      clear hd
      generalize rd_T48 s.f5 (k : Int) = y at *
      by_cases ht : (y.f0.toList == t.toList) = true
      · have HT := Lib.hid ht
        go_wp2
        go_ret
        exact ⟨ret_i (by rw [HI2.out, if_pos HT.out]), HB.out⟩
      · have HT := Lib.hid ht
        have hf : (y.f0.toList == t.toList) = false := Bool.eq_false_iff.mpr ht
        clear ht
        go_wp2
        go_roundw
        case rel => exact ⟨k + 1, by go_num, by omega, ⟨by first | rfl | trivial⟩, ⟨by rw [HI2.out, if_neg HT.out]⟩⟩
        case measure => simp [intOf]; omega
    · have HK := Lib.hid (show k = s.f5.length by omega)
      go_wp2
      go_ret
      exact ⟨ret_i (by rw [HI.out, HK.out, List.drop_of_length_le (Nat.le_refl _)]; rfl), HB.out⟩

set_option maxHeartbeats 1000000 in
theorem Cert_eq (s : S31) (A2 A3 A4 A5 A6 A7 A8 : Option Addr) (c2 c3 c4 c5 c6 c7 c8 : Nat) (t : ByteArray) (W : World) (hs : Rs W s A2 A3 A4 A5 A6 A7 A8 c2 c3 c4 c5 c6 c7 c8) : Calls Tryz.prog 72 #[.agg #[.int .i64 s.f0, .int .u64 s.f1, .slice A2 s.f2.length c2, .slice A3 s.f3.length c3, .slice A4 s.f4.length c4, .slice A5 s.f5.length c5, .slice A6 s.f6.length c6, .slice A7 s.f7.length c7, .slice A8 s.f8.length c8, .int .i64 s.f9], .string t] W fun e w' => e = .returned (.int .i64 (ix (nm61 t) s.f7 0)) ∧ Below W.heap.size W w' := by
  have HB := Lib.hid (show Below W.heap.size W (W.alloc (.cells #[.int .i64 s.f0, .int .u64 s.f1, .slice A2 s.f2.length c2, .slice A3 s.f3.length c3, .slice A4 s.f4.length c4, .slice A5 s.f5.length c5, .slice A6 s.f6.length c6, .slice A7 s.f7.length c7, .slice A8 s.f8.length c8, .int .i64 s.f9] 31 (0, 0))) from below_alloc (Below.refl _ _) _)
  have HY := Lib.hid (new_blk W (.cells #[.int .i64 s.f0, .int .u64 s.f1, .slice A2 s.f2.length c2, .slice A3 s.f3.length c3, .slice A4 s.f4.length c4, .slice A5 s.f5.length c5, .slice A6 s.f6.length c6, .slice A7 s.f7.length c7, .slice A8 s.f8.length c8, .int .i64 s.f9] 31 (0, 0)))
  have HG := Lib.hid (Kd.C_below hs.g7 HB.out)
  have hm : s.f7.length ≤ 9223372036854775807 := hs.g7.2.1
  have q7 : (W.alloc (.cells #[.int .i64 s.f0, .int .u64 s.f1, .slice A2 s.f2.length c2, .slice A3 s.f3.length c3, .slice A4 s.f4.length c4, .slice A5 s.f5.length c5, .slice A6 s.f6.length c6, .slice A7 s.f7.length c7, .slice A8 s.f8.length c8, .int .i64 s.f9] 31 (0, 0))).cell? ⟨W.heap.size, 7, none⟩ = some (.slice A7 s.f7.length c7) := (blk_cell HY.out 7).trans rfl
  clear hs
  go_enter Tryz.func72, Tryz.ntmps72
  go_wp2
  generalize W.alloc (.cells #[.int .i64 s.f0, .int .u64 s.f1, .slice A2 s.f2.length c2, .slice A3 s.f3.length c3, .slice A4 s.f4.length c4, .slice A5 s.f5.length c5, .slice A6 s.f6.length c6, .slice A7 s.f7.length c7, .slice A8 s.f8.length c8, .int .i64 s.f9] 31 (0, 0)) = W1 at *
  go_loopw [5] (fun v5 wr => ∃ k : Nat, v5 = .int .i64 k ∧ k ≤ s.f7.length ∧ Aside0 (wr = W1) ∧ Aside0 (ix (nm61 t) s.f7 0 = ix (nm61 t) (s.f7.drop k) k)) (fun v5 _ => s.f7.length - (intOf v5).toNat)
  case atStart => exact ⟨0, rfl, Nat.zero_le _, ⟨rfl⟩, ⟨by rw [List.drop_zero]⟩⟩
  case round =>
    obtain ⟨k, rfl, hk, HW, HI⟩ := hrel
    obtain rfl := HW.out
    by_cases hlt : k < s.f7.length
    · have hlt2 : (k : Int) < (s.f7.length : Int) := by omega
      obtain ⟨ad, A4_, c4_, e, h0, h1, h2, h3, hl4, hC4⟩ := at_T84 HG.out (k : Int) (by omega) (by omega)
      subst e
      simp only [Int.toNat_natCast] at h0 h1 h2 h3
      have hd := drop_T61 hlt
      have HI2 := Lib.hid (show ix (nm61 t) s.f7 0 = if ((rd_T84 s.f7 (k : Int)).f0.toList == t.toList) = true then (k : Int) else ix (nm61 t) (s.f7.drop (k + 1)) (k + 1) by rw [HI.out, hd]; rfl)
      clear hd hl4 hC4
      generalize rd_T84 s.f7 (k : Int) = y at *
      by_cases ht : (y.f0.toList == t.toList) = true
      · have HT := Lib.hid ht
        go_wp2
        go_ret
        exact ⟨ret_i (by rw [HI2.out, if_pos HT.out]), HB.out⟩
      · have HT := Lib.hid ht
        have hf : (y.f0.toList == t.toList) = false := Bool.eq_false_iff.mpr ht
        clear ht
        go_wp2
        go_roundw
        case rel => exact ⟨k + 1, by go_num, by omega, ⟨by first | rfl | trivial⟩, ⟨by rw [HI2.out, if_neg HT.out]⟩⟩
        case measure => simp [intOf]; omega
    · have HK := Lib.hid (show k = s.f7.length by omega)
      go_wp2
      go_ret
      exact ⟨ret_i (by rw [HI.out, HK.out, List.drop_of_length_le (Nat.le_refl _)]; rfl), HB.out⟩

set_option maxHeartbeats 1000000 in
theorem Find22_eq (l : List S78) (A : Option Addr) (c : Nat) (t : ByteArray) (W1 : World) (hC : Kd.C k78 W1 A l.length l) : Calls Tryz.prog 73 #[.slice A l.length c, .string t] W1 fun e w' => e = .returned (.int .i64 (ix (nm100 t) l 0)) ∧ w' = W1 := by
  have HG := Lib.hid hC
  have hm : l.length ≤ 9223372036854775807 := hC.2.1
  clear hC
  go_enter Tryz.func73, Tryz.ntmps73
  go_wp2
  go_loopw [5] (fun v5 wr => ∃ k : Nat, v5 = .int .i64 k ∧ k ≤ l.length ∧ Aside0 (wr = W1) ∧ Aside0 (ix (nm100 t) l 0 = ix (nm100 t) (l.drop k) k)) (fun v5 _ => l.length - (intOf v5).toNat)
  case atStart => exact ⟨0, rfl, Nat.zero_le _, ⟨rfl⟩, ⟨by rw [List.drop_zero]⟩⟩
  case round =>
    obtain ⟨k, rfl, hk, HW, HI⟩ := hrel
    obtain rfl := HW.out
    by_cases hlt : k < l.length
    · have hlt2 : (k : Int) < (l.length : Int) := by omega
      obtain ⟨ad, A4_, c4_, e, h0, h1, h2, h3, h4, h5, h6, hl4, hC4⟩ := at_T78 HG.out (k : Int) (by omega) (by omega)
      subst e
      simp only [Int.toNat_natCast] at h0 h1 h2 h3 h4 h5 h6
      have hd := drop_T100 hlt
      have HI2 := Lib.hid (show ix (nm100 t) l 0 = if ((rd_T78 l (k : Int)).f0.toList == t.toList) = true then (k : Int) else ix (nm100 t) (l.drop (k + 1)) (k + 1) by rw [HI.out, hd]; rfl)
      clear hd hl4 hC4
      generalize rd_T78 l (k : Int) = y at *
      by_cases ht : (y.f0.toList == t.toList) = true
      · have HT := Lib.hid ht
        go_wp2
        go_ret
        exact ⟨ret_i (by rw [HI2.out, if_pos HT.out]), rfl⟩
      · have HT := Lib.hid ht
        have hf : (y.f0.toList == t.toList) = false := Bool.eq_false_iff.mpr ht
        clear ht
        go_wp2
        go_roundw
        case rel => exact ⟨k + 1, by go_num, by omega, ⟨by first | rfl | trivial⟩, ⟨by rw [HI2.out, if_neg HT.out]⟩⟩
        case measure => simp [intOf]; omega
    · have HK := Lib.hid (show k = l.length by omega)
      go_wp2
      go_ret
      exact ⟨ret_i (by rw [HI.out, HK.out, List.drop_of_length_le (Nat.le_refl _)]; rfl), rfl⟩
end Go.Proofs.YtafigkikblpbnaaGreatDoor.PG
namespace Go.Proofs.YtafigkikblpbnaaGreatDoor.PG
open Go.RowKit Go.Proofs.YtafigkikblpbnaaGreatDoorW.PrintWords Go.Proofs.YtafigkikblpbnaaGreatDoorW.PrintLast Go.Proofs.YtafigkikblpbnaaGreatDoorW.PrintMore
set_option linter.unusedVariables false
set_option linter.unusedSimpArgs false
set_option maxRecDepth 100000

/-- The texts of a state have sizes that there are. -/
structure Zs (s : S31) : Prop where
  z2 : ∀ x ∈ s.f2, x.f0.size ≤ 140737488351232 ∧ Z95 x.f1
  z3 : ∀ x ∈ s.f3, x.f0.size ≤ 140737488351232 ∧ ∀ y ∈ x.f1, y.f0.size ≤ 140737488351232
  z4 : ∀ x ∈ s.f4, x.f0.size ≤ 140737488351232
  z5 : ∀ x ∈ s.f5, x.f0.size ≤ 140737488351232 ∧ x.f1.size ≤ 140737488351232 ∧ x.f2.size ≤ 140737488351232 ∧ x.f3.size ≤ 140737488351232
  z6 : ∀ x ∈ s.f6, x.f0.size ≤ 140737488351232 ∧ Z52 x.f1
  z7 : ∀ x ∈ s.f7, x.f0.size ≤ 140737488351232 ∧ x.f3.length ≤ 140737488351232
theorem rd_mem59 {l : List S61} {k : Nat} (h : k < l.length) : rd_T61 l (k : Int) ∈ l := by
  have : rd_T61 l (k : Int) = l[k] := by unfold rd_T61; rw [Int.toNat_natCast, List.getD_eq_getElem?_getD, List.getElem?_eq_getElem h]; rfl
  rw [this]; exact List.getElem_mem h
theorem take_rd59 {l : List S61} {k : Nat} (h : k < l.length) : l.take (k + 1) = l.take k ++ [rd_T61 l (k : Int)] := by
  have : rd_T61 l (k : Int) = l[k] := by unfold rd_T61; rw [Int.toNat_natCast, List.getD_eq_getElem?_getD, List.getElem?_eq_getElem h]; rfl
  rw [this, List.take_succ_eq_append_getElem h]
theorem rd_mem108 {l : List S115} {k : Nat} (h : k < l.length) : rd_T115 l (k : Int) ∈ l := by
  have : rd_T115 l (k : Int) = l[k] := by unfold rd_T115; rw [Int.toNat_natCast, List.getD_eq_getElem?_getD, List.getElem?_eq_getElem h]; rfl
  rw [this]; exact List.getElem_mem h

set_option maxHeartbeats 8000000 in
theorem lists_any (s : S31) (A2 A3 A4 A5 A6 A7 A8 : Option Addr) (c2 c3 c4 c5 c6 c7 c8 : Nat) (W : World) (hs : Rs W s A2 A3 A4 A5 A6 A7 A8 c2 c3 c4 c5 c6 c7 c8) (hz : Zs s) : Calls Tryz.prog 42 #[.agg #[.int .i64 s.f0, .int .u64 s.f1, .slice A2 s.f2.length c2, .slice A3 s.f3.length c3, .slice A4 s.f4.length c4, .slice A5 s.f5.length c5, .slice A6 s.f6.length c6, .slice A7 s.f7.length c7, .slice A8 s.f8.length c8, .int .i64 s.f9]] W (RBq (∀ y ∈ s.f3, y.f1.length ≤ 8) W) := by
  have HB := Lib.hid (show Below W.heap.size W (W.alloc (.cells #[.int .i64 s.f0, .int .u64 s.f1, .slice A2 s.f2.length c2, .slice A3 s.f3.length c3, .slice A4 s.f4.length c4, .slice A5 s.f5.length c5, .slice A6 s.f6.length c6, .slice A7 s.f7.length c7, .slice A8 s.f8.length c8, .int .i64 s.f9] 31 (0, 0))) from below_alloc (Below.refl _ _) _)
  have HY := Lib.hid (new_blk W (.cells #[.int .i64 s.f0, .int .u64 s.f1, .slice A2 s.f2.length c2, .slice A3 s.f3.length c3, .slice A4 s.f4.length c4, .slice A5 s.f5.length c5, .slice A6 s.f6.length c6, .slice A7 s.f7.length c7, .slice A8 s.f8.length c8, .int .i64 s.f9] 31 (0, 0)))
  have HS := Lib.hid (hs.below HB.out)
  have m3 : s.f3.length ≤ 9223372036854775807 := hs.g3.2.1
  have m4 : s.f4.length ≤ 9223372036854775807 := hs.g4.2.1
  have HZ := Lib.hid hz
  clear hs hz
  go_enter Tryz.func42, Tryz.ntmps42
  go_wp2
  all_goals first
    | (go_ret; exact RBq.no HB.out)
    | skip
  generalize W.alloc (.cells #[.int .i64 s.f0, .int .u64 s.f1, .slice A2 s.f2.length c2, .slice A3 s.f3.length c3, .slice A4 s.f4.length c4, .slice A5 s.f5.length c5, .slice A6 s.f6.length c6, .slice A7 s.f7.length c7, .slice A8 s.f8.length c8, .int .i64 s.f9] 31 (0, 0)) = W1 at *
  go_loopw [3] (fun v3 wr => ∃ k : Nat, v3 = .int .i64 k ∧ k ≤ s.f3.length ∧ Aside0 (∀ y ∈ s.f3.take k, y.f1.length ≤ 8) ∧ Aside0 (Below W1.heap.size W1 wr)) (fun v3 _ => s.f3.length - (intOf v3).toNat)
  case atStart => exact ⟨0, rfl, Nat.zero_le _, ⟨fun y hy => by simp at hy⟩, ⟨Below.refl _ _⟩⟩
  case round =>
    obtain ⟨k, rfl, hk, HA, HBW⟩ := hrel
    have HY2 := Lib.hid ((HBW.out.block W.heap.size (blk_lt HY.out)).trans HY.out)
    have HS2 := Lib.hid (HS.out.below HBW.out)
    have q0 : (wr).cell? ⟨W.heap.size, 0, none⟩ = some (.int .i64 s.f0) := (blk_cell HY2.out 0).trans rfl
    have q1 : (wr).cell? ⟨W.heap.size, 1, none⟩ = some (.int .u64 s.f1) := (blk_cell HY2.out 1).trans rfl
    have q2 : (wr).cell? ⟨W.heap.size, 2, none⟩ = some (.slice A2 s.f2.length c2) := (blk_cell HY2.out 2).trans rfl
    have q3 : (wr).cell? ⟨W.heap.size, 3, none⟩ = some (.slice A3 s.f3.length c3) := (blk_cell HY2.out 3).trans rfl
    have q4 : (wr).cell? ⟨W.heap.size, 4, none⟩ = some (.slice A4 s.f4.length c4) := (blk_cell HY2.out 4).trans rfl
    have q5 : (wr).cell? ⟨W.heap.size, 5, none⟩ = some (.slice A5 s.f5.length c5) := (blk_cell HY2.out 5).trans rfl
    have q6 : (wr).cell? ⟨W.heap.size, 6, none⟩ = some (.slice A6 s.f6.length c6) := (blk_cell HY2.out 6).trans rfl
    have q7 : (wr).cell? ⟨W.heap.size, 7, none⟩ = some (.slice A7 s.f7.length c7) := (blk_cell HY2.out 7).trans rfl
    have q8 : (wr).cell? ⟨W.heap.size, 8, none⟩ = some (.slice A8 s.f8.length c8) := (blk_cell HY2.out 8).trans rfl
    have q9 : (wr).cell? ⟨W.heap.size, 9, none⟩ = some (.int .i64 s.f9) := (blk_cell HY2.out 9).trans rfl
    by_cases hlt : k < s.f3.length
    · have hlt2 : (k : Int) < (s.f3.length : Int) := by omega
      obtain ⟨ad, A1, c1, e, h0, h1, hl1, hC1⟩ := at_T61 HS2.out.g3 (k : Int) (by omega) (by omega)
      subst e
      simp only [Int.toNat_natCast] at h0 h1
      have hzz := HZ.out.z3 _ (rd_mem59 hlt)
      have HT := Lib.hid (take_rd59 hlt)
      generalize rd_T61 s.f3 (k : Int) = y at *
      have HN := fun w => Lib.hid (Name_eq y.f0 hzz.1 w)
      have HCA := fun w' (h : (Aside0 (Below wr.heap.size wr w') ∧ w'.cell? ⟨W.heap.size, 0, none⟩ = some (.int .i64 s.f0) ∧ w'.cell? ⟨W.heap.size, 1, none⟩ = some (.int .u64 s.f1) ∧ w'.cell? ⟨W.heap.size, 2, none⟩ = some (.slice A2 s.f2.length c2) ∧ w'.cell? ⟨W.heap.size, 3, none⟩ = some (.slice (some ad) s.f3.length c3) ∧ w'.cell? ⟨W.heap.size, 4, none⟩ = some (.slice A4 s.f4.length c4) ∧ w'.cell? ⟨W.heap.size, 5, none⟩ = some (.slice A5 s.f5.length c5) ∧ w'.cell? ⟨W.heap.size, 6, none⟩ = some (.slice A6 s.f6.length c6) ∧ w'.cell? ⟨W.heap.size, 7, none⟩ = some (.slice A7 s.f7.length c7) ∧ w'.cell? ⟨W.heap.size, 8, none⟩ = some (.slice A8 s.f8.length c8) ∧ w'.cell? ⟨W.heap.size, 9, none⟩ = some (.int .i64 s.f9) ∧ w'.cell? (ad.add (k * 2)) = some (.string y.f0) ∧ w'.cell? ⟨(ad.add (k * 2)).block, (ad.add (k * 2)).off + 1, none⟩ = some (.slice A1 y.f1.length c1))) => Lib.hid (Case_eq s _ _ _ _ _ _ _ _ _ _ _ _ _ _ y.f0 w' (HS2.out.below h.1.out))
      have HMI := fun w' (h : (Aside0 (Below wr.heap.size wr w') ∧ w'.cell? ⟨W.heap.size, 0, none⟩ = some (.int .i64 s.f0) ∧ w'.cell? ⟨W.heap.size, 1, none⟩ = some (.int .u64 s.f1) ∧ w'.cell? ⟨W.heap.size, 2, none⟩ = some (.slice A2 s.f2.length c2) ∧ w'.cell? ⟨W.heap.size, 3, none⟩ = some (.slice (some ad) s.f3.length c3) ∧ w'.cell? ⟨W.heap.size, 4, none⟩ = some (.slice A4 s.f4.length c4) ∧ w'.cell? ⟨W.heap.size, 5, none⟩ = some (.slice A5 s.f5.length c5) ∧ w'.cell? ⟨W.heap.size, 6, none⟩ = some (.slice A6 s.f6.length c6) ∧ w'.cell? ⟨W.heap.size, 7, none⟩ = some (.slice A7 s.f7.length c7) ∧ w'.cell? ⟨W.heap.size, 8, none⟩ = some (.slice A8 s.f8.length c8) ∧ w'.cell? ⟨W.heap.size, 9, none⟩ = some (.int .i64 s.f9) ∧ w'.cell? (ad.add (k * 2)) = some (.string y.f0) ∧ w'.cell? ⟨(ad.add (k * 2)).block, (ad.add (k * 2)).off + 1, none⟩ = some (.slice A1 y.f1.length c1))) => Lib.hid (miles_any y.f1 A1 c1 w' (Kd.C_below hC1 h.1.out) hl1 hzz.2)
      have HKEEP := Lib.hid (show ∀ w1 w2 : World, (Aside0 (Below wr.heap.size wr w1) ∧ w1.cell? ⟨W.heap.size, 0, none⟩ = some (.int .i64 s.f0) ∧ w1.cell? ⟨W.heap.size, 1, none⟩ = some (.int .u64 s.f1) ∧ w1.cell? ⟨W.heap.size, 2, none⟩ = some (.slice A2 s.f2.length c2) ∧ w1.cell? ⟨W.heap.size, 3, none⟩ = some (.slice (some ad) s.f3.length c3) ∧ w1.cell? ⟨W.heap.size, 4, none⟩ = some (.slice A4 s.f4.length c4) ∧ w1.cell? ⟨W.heap.size, 5, none⟩ = some (.slice A5 s.f5.length c5) ∧ w1.cell? ⟨W.heap.size, 6, none⟩ = some (.slice A6 s.f6.length c6) ∧ w1.cell? ⟨W.heap.size, 7, none⟩ = some (.slice A7 s.f7.length c7) ∧ w1.cell? ⟨W.heap.size, 8, none⟩ = some (.slice A8 s.f8.length c8) ∧ w1.cell? ⟨W.heap.size, 9, none⟩ = some (.int .i64 s.f9) ∧ w1.cell? (ad.add (k * 2)) = some (.string y.f0) ∧ w1.cell? ⟨(ad.add (k * 2)).block, (ad.add (k * 2)).off + 1, none⟩ = some (.slice A1 y.f1.length c1)) → Below w1.heap.size w1 w2 → (Aside0 (Below wr.heap.size wr w2) ∧ w2.cell? ⟨W.heap.size, 0, none⟩ = some (.int .i64 s.f0) ∧ w2.cell? ⟨W.heap.size, 1, none⟩ = some (.int .u64 s.f1) ∧ w2.cell? ⟨W.heap.size, 2, none⟩ = some (.slice A2 s.f2.length c2) ∧ w2.cell? ⟨W.heap.size, 3, none⟩ = some (.slice (some ad) s.f3.length c3) ∧ w2.cell? ⟨W.heap.size, 4, none⟩ = some (.slice A4 s.f4.length c4) ∧ w2.cell? ⟨W.heap.size, 5, none⟩ = some (.slice A5 s.f5.length c5) ∧ w2.cell? ⟨W.heap.size, 6, none⟩ = some (.slice A6 s.f6.length c6) ∧ w2.cell? ⟨W.heap.size, 7, none⟩ = some (.slice A7 s.f7.length c7) ∧ w2.cell? ⟨W.heap.size, 8, none⟩ = some (.slice A8 s.f8.length c8) ∧ w2.cell? ⟨W.heap.size, 9, none⟩ = some (.int .i64 s.f9) ∧ w2.cell? (ad.add (k * 2)) = some (.string y.f0) ∧ w2.cell? ⟨(ad.add (k * 2)).block, (ad.add (k * 2)).off + 1, none⟩ = some (.slice A1 y.f1.length c1)) from fun w1 w2 h hb => ⟨⟨below_tr h.1.out hb⟩, below_cell hb h.2.1, below_cell hb h.2.2.1, below_cell hb h.2.2.2.1, below_cell hb h.2.2.2.2.1, below_cell hb h.2.2.2.2.2.1, below_cell hb h.2.2.2.2.2.2.1, below_cell hb h.2.2.2.2.2.2.2.1, below_cell hb h.2.2.2.2.2.2.2.2.1, below_cell hb h.2.2.2.2.2.2.2.2.2.1, below_cell hb h.2.2.2.2.2.2.2.2.2.2.1, below_cell hb h.2.2.2.2.2.2.2.2.2.2.2.1, below_cell hb h.2.2.2.2.2.2.2.2.2.2.2.2⟩)
      clear hC1 hl1 hzz
      generalize hix : ix (nm59 y.f0) s.f3 0 = i at *
      cases hnk : nmOk y.f0
      · rw [hnk] at HN
        go_wp2_with fail
        refine start_ (n := 30) (S := fun w' => Aside0 (Below wr.heap.size wr w') ∧ w'.cell? ⟨W.heap.size, 0, none⟩ = some (.int .i64 s.f0) ∧ w'.cell? ⟨W.heap.size, 1, none⟩ = some (.int .u64 s.f1) ∧ w'.cell? ⟨W.heap.size, 2, none⟩ = some (.slice A2 s.f2.length c2) ∧ w'.cell? ⟨W.heap.size, 3, none⟩ = some (.slice (some ad) s.f3.length c3) ∧ w'.cell? ⟨W.heap.size, 4, none⟩ = some (.slice A4 s.f4.length c4) ∧ w'.cell? ⟨W.heap.size, 5, none⟩ = some (.slice A5 s.f5.length c5) ∧ w'.cell? ⟨W.heap.size, 6, none⟩ = some (.slice A6 s.f6.length c6) ∧ w'.cell? ⟨W.heap.size, 7, none⟩ = some (.slice A7 s.f7.length c7) ∧ w'.cell? ⟨W.heap.size, 8, none⟩ = some (.slice A8 s.f8.length c8) ∧ w'.cell? ⟨W.heap.size, 9, none⟩ = some (.int .i64 s.f9) ∧ w'.cell? (ad.add (k * 2)) = some (.string y.f0) ∧ w'.cell? ⟨(ad.add (k * 2)).block, (ad.add (k * 2)).off + 1, none⟩ = some (.slice A1 y.f1.length c1)) (ds := []) #[false, false, false, false, false, false, false, false, false, false, false, false, false, false, false, false, false, false, false, false, false, false, false, false, false, false, false, false, false, false] (by kernel_rfl) rfl rfl ⟨⟨below_drew (Below.refl _ _)⟩, q0, q1, q2, q3, q4, q5, q6, q7, q8, q9, h0, h1⟩ (fun hHeld => ?_)
        refine pure_ (i := 0) (N := some 24) (v := ?_) (a' := ?_) #[true, false, false, false, false, false, false, false, false, false, false, false, false, false, false, false, false, false, false, false, false, false, false, false, false, false, false, false, false, false] rfl rfl (by kernel_rfl) (fun _ _ _ h => h) (Or.inl ⟨by rfl, ?_⟩) ?_ ?_
        rotate_left
        · intro w'
          go_simp
          with_reducible rfl
        rotate_left
        · simp only [Act.put, List.setIfInBounds_toArray, List.set_cons_zero, List.set_cons_succ, i64_w, i32_w]
          rfl
        refine pure_ (i := 2) (N := some 26) (v := ?_) (a' := ?_) #[true, false, true, false, false, false, false, false, false, false, false, false, false, false, false, false, false, false, false, false, false, false, false, false, false, false, false, false, false, false] rfl rfl (by kernel_rfl) (fun _ _ _ h => h) (Or.inl ⟨by rfl, ?_⟩) ?_ ?_
        rotate_left
        · intro w'
          go_simp
          with_reducible rfl
        rotate_left
        · simp only [Act.put, List.setIfInBounds_toArray, List.set_cons_zero, List.set_cons_succ, i64_w, i32_w]
          rfl
        refine take_ (i := 1) (N := some 25) (v := ?_) (a' := ?_) #[true, true, true, false, false, false, false, false, false, false, false, false, false, false, false, false, false, false, false, false, false, false, false, false, false, false, false, false, false, false] rfl rfl (by kernel_rfl) (fun _ _ _ h => h) (Or.inl ⟨by rfl, ?_⟩) hHeld ?_ ?_
        rotate_left
        · rintro w' ⟨s0, s1, s2, s3, s4, s5, s6, s7, s8, s9, s10, s11, s12⟩
          go_simp
          with_reducible rfl
        rotate_left
        · simp only [Act.put, List.setIfInBounds_toArray, List.set_cons_zero, List.set_cons_succ, i64_w, i32_w]
          rfl
        refine pure_ (i := 3) (N := some 27) (v := ?_) (a' := ?_) #[true, true, true, true, false, false, false, false, false, false, false, false, false, false, false, false, false, false, false, false, false, false, false, false, false, false, false, false, false, false] rfl rfl (by kernel_rfl) (fun _ _ _ h => h) (Or.inl ⟨by rfl, ?_⟩) ?_ ?_
        rotate_left
        · intro w'
          go_simp
          with_reducible rfl
        rotate_left
        · simp only [Act.put, List.setIfInBounds_toArray, List.set_cons_zero, List.set_cons_succ, i64_w, i32_w]
          rfl
        refine pure_ (i := 4) (N := some 28) (v := ?_) (a' := ?_) #[true, true, true, true, true, false, false, false, false, false, false, false, false, false, false, false, false, false, false, false, false, false, false, false, false, false, false, false, false, false] rfl rfl (by kernel_rfl) (fun _ _ _ h => h) (Or.inl ⟨by rfl, ?_⟩) ?_ ?_
        rotate_left
        · intro w'
          go_simp
          with_reducible rfl
        rotate_left
        · simp only [Act.put, List.setIfInBounds_toArray, List.set_cons_zero, List.set_cons_succ, i64_w, i32_w]
          rfl
        refine take_ (i := 5) (N := some 29) (v := ?_) (a' := ?_) #[true, true, true, true, true, true, false, false, false, false, false, false, false, false, false, false, false, false, false, false, false, false, false, false, false, false, false, false, false, false] rfl rfl (by kernel_rfl) (fun _ _ _ h => h) (Or.inl ⟨by rfl, ?_⟩) hHeld ?_ ?_
        rotate_left
        · rintro w' ⟨s0, s1, s2, s3, s4, s5, s6, s7, s8, s9, s10, s11, s12⟩
          go_simp
          with_reducible rfl
        rotate_left
        · simp only [Act.put, List.setIfInBounds_toArray, List.set_cons_zero, List.set_cons_succ, i64_w, i32_w]
          rfl
        refine one_ (i := 6) (N := some 30) #[true, true, true, true, true, true, true, false, false, false, false, false, false, false, false, false, false, false, false, false, false, false, false, false, false, false, false, false, false, false] rfl rfl (by kernel_rfl) (by decide) (fun K hK => ?_)
        refine goes_ Tryz.func68 (by kernel_rfl) rfl #[.string y.f0] (by rfl) rfl rfl (by simp only [List.map_toArray, List.map_cons, List.map_nil]; rfl) ?_
        with_reducible refine ((HN _).out).mono ?_
        rintro e w3 ⟨rfl, rfl⟩
        refine ⟨_, rfl, ?_⟩
        refine hK.out _ _ ⟨hHeld.1, hHeld.2.1, hHeld.2.2.1, hHeld.2.2.2.1, hHeld.2.2.2.2.1, hHeld.2.2.2.2.2.1, hHeld.2.2.2.2.2.2.1, hHeld.2.2.2.2.2.2.2.1, hHeld.2.2.2.2.2.2.2.2.1, hHeld.2.2.2.2.2.2.2.2.2.1, hHeld.2.2.2.2.2.2.2.2.2.2.1, hHeld.2.2.2.2.2.2.2.2.2.2.2.1, hHeld.2.2.2.2.2.2.2.2.2.2.2.2⟩ (fun hHeld => ?_)
        clear hK K
        refine norm_ (a' := ?_) ?_ ?_
        rotate_left
        · show Act.put _ (some 30) _ = _
          simp only [Act.put, List.setIfInBounds_toArray, List.set_cons_zero, List.set_cons_succ, i64_w, i32_w]
          rfl
        refine pure_ (i := 7) (N := some 31) (v := ?_) (a' := ?_) #[true, true, true, true, true, true, true, true, false, false, false, false, false, false, false, false, false, false, false, false, false, false, false, false, false, false, false, false, false, false] rfl rfl (by kernel_rfl) (fun _ _ _ h => h) (Or.inl ⟨by rfl, ?_⟩) ?_ ?_
        rotate_left
        · intro w'
          go_simp
          with_reducible rfl
        rotate_left
        · simp only [Act.put, List.setIfInBounds_toArray, List.set_cons_zero, List.set_cons_succ, i64_w, i32_w]
          rfl
        refine pure_ (i := 8) (N := some 32) (v := ?_) (a' := ?_) #[true, true, true, true, true, true, true, true, true, false, false, false, false, false, false, false, false, false, false, false, false, false, false, false, false, false, false, false, false, false] rfl rfl (by kernel_rfl) (fun _ _ _ h => h) (Or.inl ⟨by rfl, ?_⟩) ?_ ?_
        rotate_left
        · intro w'
          go_simp
          with_reducible rfl
        rotate_left
        · simp only [Act.put, List.setIfInBounds_toArray, List.set_cons_zero, List.set_cons_succ, i64_w, i32_w]
          rfl
        refine pure_ (i := 9) (N := some 33) (v := undef) (a' := ?_) #[true, true, true, true, true, true, true, true, true, true, false, false, false, false, false, false, false, false, false, false, false, false, false, false, false, false, false, false, false, false] rfl rfl (by kernel_rfl) (fun _ _ _ h => h) (Or.inr ⟨by rfl, rfl⟩) ?_ ?_
        rotate_left
        · simp only [Act.put, List.setIfInBounds_toArray, List.set_cons_zero, List.set_cons_succ, i64_w, i32_w]
          rfl
        refine pure_ (i := 10) (N := some 34) (v := undef) (a' := ?_) #[true, true, true, true, true, true, true, true, true, true, true, false, false, false, false, false, false, false, false, false, false, false, false, false, false, false, false, false, false, false] rfl rfl (by kernel_rfl) (fun _ _ _ h => h) (Or.inr ⟨by rfl, rfl⟩) ?_ ?_
        rotate_left
        · simp only [Act.put, List.setIfInBounds_toArray, List.set_cons_zero, List.set_cons_succ, i64_w, i32_w]
          rfl
        refine pure_ (i := 11) (N := some 35) (v := undef) (a' := ?_) #[true, true, true, true, true, true, true, true, true, true, true, true, false, false, false, false, false, false, false, false, false, false, false, false, false, false, false, false, false, false] rfl rfl (by kernel_rfl) (fun _ _ _ h => h) (Or.inr ⟨by rfl, rfl⟩) ?_ ?_
        rotate_left
        · simp only [Act.put, List.setIfInBounds_toArray, List.set_cons_zero, List.set_cons_succ, i64_w, i32_w]
          rfl
        refine pure_ (i := 12) (N := some 36) (v := undef) (a' := ?_) #[true, true, true, true, true, true, true, true, true, true, true, true, true, false, false, false, false, false, false, false, false, false, false, false, false, false, false, false, false, false] rfl rfl (by kernel_rfl) (fun _ _ _ h => h) (Or.inr ⟨by rfl, rfl⟩) ?_ ?_
        rotate_left
        · simp only [Act.put, List.setIfInBounds_toArray, List.set_cons_zero, List.set_cons_succ, i64_w, i32_w]
          rfl
        refine pure_ (i := 13) (N := some 37) (v := undef) (a' := ?_) #[true, true, true, true, true, true, true, true, true, true, true, true, true, true, false, false, false, false, false, false, false, false, false, false, false, false, false, false, false, false] rfl rfl (by kernel_rfl) (fun _ _ _ h => h) (Or.inr ⟨by rfl, rfl⟩) ?_ ?_
        rotate_left
        · simp only [Act.put, List.setIfInBounds_toArray, List.set_cons_zero, List.set_cons_succ, i64_w, i32_w]
          rfl
        refine pure_ (i := 14) (N := some 38) (v := undef) (a' := ?_) #[true, true, true, true, true, true, true, true, true, true, true, true, true, true, true, false, false, false, false, false, false, false, false, false, false, false, false, false, false, false] rfl rfl (by kernel_rfl) (fun _ _ _ h => h) (Or.inr ⟨by rfl, rfl⟩) ?_ ?_
        rotate_left
        · simp only [Act.put, List.setIfInBounds_toArray, List.set_cons_zero, List.set_cons_succ, i64_w, i32_w]
          rfl
        refine pure_ (i := 15) (N := some 39) (v := undef) (a' := ?_) #[true, true, true, true, true, true, true, true, true, true, true, true, true, true, true, true, false, false, false, false, false, false, false, false, false, false, false, false, false, false] rfl rfl (by kernel_rfl) (fun _ _ _ h => h) (Or.inr ⟨by rfl, rfl⟩) ?_ ?_
        rotate_left
        · simp only [Act.put, List.setIfInBounds_toArray, List.set_cons_zero, List.set_cons_succ, i64_w, i32_w]
          rfl
        refine pure_ (i := 16) (N := some 40) (v := undef) (a' := ?_) #[true, true, true, true, true, true, true, true, true, true, true, true, true, true, true, true, true, false, false, false, false, false, false, false, false, false, false, false, false, false] rfl rfl (by kernel_rfl) (fun _ _ _ h => h) (Or.inr ⟨by rfl, rfl⟩) ?_ ?_
        rotate_left
        · simp only [Act.put, List.setIfInBounds_toArray, List.set_cons_zero, List.set_cons_succ, i64_w, i32_w]
          rfl
        refine pure_ (i := 17) (N := some 41) (v := undef) (a' := ?_) #[true, true, true, true, true, true, true, true, true, true, true, true, true, true, true, true, true, true, false, false, false, false, false, false, false, false, false, false, false, false] rfl rfl (by kernel_rfl) (fun _ _ _ h => h) (Or.inr ⟨by rfl, rfl⟩) ?_ ?_
        rotate_left
        · simp only [Act.put, List.setIfInBounds_toArray, List.set_cons_zero, List.set_cons_succ, i64_w, i32_w]
          rfl
        refine pure_ (i := 18) (N := some 42) (v := undef) (a' := ?_) #[true, true, true, true, true, true, true, true, true, true, true, true, true, true, true, true, true, true, true, false, false, false, false, false, false, false, false, false, false, false] rfl rfl (by kernel_rfl) (fun _ _ _ h => h) (Or.inr ⟨by rfl, rfl⟩) ?_ ?_
        rotate_left
        · simp only [Act.put, List.setIfInBounds_toArray, List.set_cons_zero, List.set_cons_succ, i64_w, i32_w]
          rfl
        refine pure_ (i := 19) (N := some 43) (v := ?_) (a' := ?_) #[true, true, true, true, true, true, true, true, true, true, true, true, true, true, true, true, true, true, true, true, false, false, false, false, false, false, false, false, false, false] rfl rfl (by kernel_rfl) (fun _ _ _ h => h) (Or.inl ⟨by rfl, ?_⟩) ?_ ?_
        rotate_left
        · intro w'
          go_simp
          with_reducible rfl
        rotate_left
        · simp only [Act.put, List.setIfInBounds_toArray, List.set_cons_zero, List.set_cons_succ, i64_w, i32_w]
          rfl
        refine pure_ (i := 20) (N := some 44) (v := ?_) (a' := ?_) #[true, true, true, true, true, true, true, true, true, true, true, true, true, true, true, true, true, true, true, true, true, false, false, false, false, false, false, false, false, false] rfl rfl (by kernel_rfl) (fun _ _ _ h => h) (Or.inl ⟨by rfl, ?_⟩) ?_ ?_
        rotate_left
        · intro w'
          go_simp
          with_reducible rfl
        rotate_left
        · simp only [Act.put, List.setIfInBounds_toArray, List.set_cons_zero, List.set_cons_succ, i64_w, i32_w]
          rfl
        refine pure_ (i := 21) (N := some 45) (v := undef) (a' := ?_) #[true, true, true, true, true, true, true, true, true, true, true, true, true, true, true, true, true, true, true, true, true, true, false, false, false, false, false, false, false, false] rfl rfl (by kernel_rfl) (fun _ _ _ h => h) (Or.inr ⟨by rfl, rfl⟩) ?_ ?_
        rotate_left
        · simp only [Act.put, List.setIfInBounds_toArray, List.set_cons_zero, List.set_cons_succ, i64_w, i32_w]
          rfl
        refine pure_ (i := 22) (N := some 46) (v := undef) (a' := ?_) #[true, true, true, true, true, true, true, true, true, true, true, true, true, true, true, true, true, true, true, true, true, true, true, false, false, false, false, false, false, false] rfl rfl (by kernel_rfl) (fun _ _ _ h => h) (Or.inr ⟨by rfl, rfl⟩) ?_ ?_
        rotate_left
        · simp only [Act.put, List.setIfInBounds_toArray, List.set_cons_zero, List.set_cons_succ, i64_w, i32_w]
          rfl
        refine pure_ (i := 23) (N := some 47) (v := undef) (a' := ?_) #[true, true, true, true, true, true, true, true, true, true, true, true, true, true, true, true, true, true, true, true, true, true, true, true, false, false, false, false, false, false] rfl rfl (by kernel_rfl) (fun _ _ _ h => h) (Or.inr ⟨by rfl, rfl⟩) ?_ ?_
        rotate_left
        · simp only [Act.put, List.setIfInBounds_toArray, List.set_cons_zero, List.set_cons_succ, i64_w, i32_w]
          rfl
        refine pure_ (i := 24) (N := some 48) (v := undef) (a' := ?_) #[true, true, true, true, true, true, true, true, true, true, true, true, true, true, true, true, true, true, true, true, true, true, true, true, true, false, false, false, false, false] rfl rfl (by kernel_rfl) (fun _ _ _ h => h) (Or.inr ⟨by rfl, rfl⟩) ?_ ?_
        rotate_left
        · simp only [Act.put, List.setIfInBounds_toArray, List.set_cons_zero, List.set_cons_succ, i64_w, i32_w]
          rfl
        refine pure_ (i := 25) (N := some 49) (v := undef) (a' := ?_) #[true, true, true, true, true, true, true, true, true, true, true, true, true, true, true, true, true, true, true, true, true, true, true, true, true, true, false, false, false, false] rfl rfl (by kernel_rfl) (fun _ _ _ h => h) (Or.inr ⟨by rfl, rfl⟩) ?_ ?_
        rotate_left
        · simp only [Act.put, List.setIfInBounds_toArray, List.set_cons_zero, List.set_cons_succ, i64_w, i32_w]
          rfl
        refine pure_ (i := 26) (N := some 50) (v := undef) (a' := ?_) #[true, true, true, true, true, true, true, true, true, true, true, true, true, true, true, true, true, true, true, true, true, true, true, true, true, true, true, false, false, false] rfl rfl (by kernel_rfl) (fun _ _ _ h => h) (Or.inr ⟨by rfl, rfl⟩) ?_ ?_
        rotate_left
        · simp only [Act.put, List.setIfInBounds_toArray, List.set_cons_zero, List.set_cons_succ, i64_w, i32_w]
          rfl
        refine pure_ (i := 27) (N := some 51) (v := undef) (a' := ?_) #[true, true, true, true, true, true, true, true, true, true, true, true, true, true, true, true, true, true, true, true, true, true, true, true, true, true, true, true, false, false] rfl rfl (by kernel_rfl) (fun _ _ _ h => h) (Or.inr ⟨by rfl, rfl⟩) ?_ ?_
        rotate_left
        · simp only [Act.put, List.setIfInBounds_toArray, List.set_cons_zero, List.set_cons_succ, i64_w, i32_w]
          rfl
        refine pure_ (i := 28) (N := some 52) (v := undef) (a' := ?_) #[true, true, true, true, true, true, true, true, true, true, true, true, true, true, true, true, true, true, true, true, true, true, true, true, true, true, true, true, true, false] rfl rfl (by kernel_rfl) (fun _ _ _ h => h) (Or.inr ⟨by rfl, rfl⟩) ?_ ?_
        rotate_left
        · simp only [Act.put, List.setIfInBounds_toArray, List.set_cons_zero, List.set_cons_succ, i64_w, i32_w]
          rfl
        refine pure_ (i := 29) (N := some 53) (v := ?_) (a' := ?_) #[true, true, true, true, true, true, true, true, true, true, true, true, true, true, true, true, true, true, true, true, true, true, true, true, true, true, true, true, true, true] rfl rfl (by kernel_rfl) (fun _ _ _ h => h) (Or.inl ⟨by rfl, ?_⟩) ?_ ?_
        rotate_left
        · intro w'
          go_simp
          with_reducible rfl
        rotate_left
        · simp only [Act.put, List.setIfInBounds_toArray, List.set_cons_zero, List.set_cons_succ, i64_w, i32_w]
          rfl
        refine done_ (by kernel_rfl) ?_

        have HBX := Lib.hid (below_tr HB.out (below_tr HBW.out hHeld.1.out))
        clear hHeld
        go_wp2
        go_ret
        exact RBq.no HBX.out
      · rw [hnk] at HN
        by_cases hik : i = (k : Int)
        · have hik2 : (i == (k : Int)) = true := by simp [hik]
          have hik3 : (i != (k : Int)) = false := by simp [hik]
          clear hik
          go_wp2_with fail
          refine start_ (n := 30) (S := fun w' => Aside0 (Below wr.heap.size wr w') ∧ w'.cell? ⟨W.heap.size, 0, none⟩ = some (.int .i64 s.f0) ∧ w'.cell? ⟨W.heap.size, 1, none⟩ = some (.int .u64 s.f1) ∧ w'.cell? ⟨W.heap.size, 2, none⟩ = some (.slice A2 s.f2.length c2) ∧ w'.cell? ⟨W.heap.size, 3, none⟩ = some (.slice (some ad) s.f3.length c3) ∧ w'.cell? ⟨W.heap.size, 4, none⟩ = some (.slice A4 s.f4.length c4) ∧ w'.cell? ⟨W.heap.size, 5, none⟩ = some (.slice A5 s.f5.length c5) ∧ w'.cell? ⟨W.heap.size, 6, none⟩ = some (.slice A6 s.f6.length c6) ∧ w'.cell? ⟨W.heap.size, 7, none⟩ = some (.slice A7 s.f7.length c7) ∧ w'.cell? ⟨W.heap.size, 8, none⟩ = some (.slice A8 s.f8.length c8) ∧ w'.cell? ⟨W.heap.size, 9, none⟩ = some (.int .i64 s.f9) ∧ w'.cell? (ad.add (k * 2)) = some (.string y.f0) ∧ w'.cell? ⟨(ad.add (k * 2)).block, (ad.add (k * 2)).off + 1, none⟩ = some (.slice A1 y.f1.length c1)) (ds := []) #[false, false, false, false, false, false, false, false, false, false, false, false, false, false, false, false, false, false, false, false, false, false, false, false, false, false, false, false, false, false] (by kernel_rfl) rfl rfl ⟨⟨below_drew (Below.refl _ _)⟩, q0, q1, q2, q3, q4, q5, q6, q7, q8, q9, h0, h1⟩ (fun hHeld => ?_)
          refine pure_ (i := 0) (N := some 24) (v := ?_) (a' := ?_) #[true, false, false, false, false, false, false, false, false, false, false, false, false, false, false, false, false, false, false, false, false, false, false, false, false, false, false, false, false, false] rfl rfl (by kernel_rfl) (fun _ _ _ h => h) (Or.inl ⟨by rfl, ?_⟩) ?_ ?_
          rotate_left
          · intro w'
            go_simp
            with_reducible rfl
          rotate_left
          · simp only [Act.put, List.setIfInBounds_toArray, List.set_cons_zero, List.set_cons_succ, i64_w, i32_w]
            rfl
          refine pure_ (i := 2) (N := some 26) (v := ?_) (a' := ?_) #[true, false, true, false, false, false, false, false, false, false, false, false, false, false, false, false, false, false, false, false, false, false, false, false, false, false, false, false, false, false] rfl rfl (by kernel_rfl) (fun _ _ _ h => h) (Or.inl ⟨by rfl, ?_⟩) ?_ ?_
          rotate_left
          · intro w'
            go_simp
            with_reducible rfl
          rotate_left
          · simp only [Act.put, List.setIfInBounds_toArray, List.set_cons_zero, List.set_cons_succ, i64_w, i32_w]
            rfl
          refine take_ (i := 1) (N := some 25) (v := ?_) (a' := ?_) #[true, true, true, false, false, false, false, false, false, false, false, false, false, false, false, false, false, false, false, false, false, false, false, false, false, false, false, false, false, false] rfl rfl (by kernel_rfl) (fun _ _ _ h => h) (Or.inl ⟨by rfl, ?_⟩) hHeld ?_ ?_
          rotate_left
          · rintro w' ⟨s0, s1, s2, s3, s4, s5, s6, s7, s8, s9, s10, s11, s12⟩
            go_simp
            with_reducible rfl
          rotate_left
          · simp only [Act.put, List.setIfInBounds_toArray, List.set_cons_zero, List.set_cons_succ, i64_w, i32_w]
            rfl
          refine pure_ (i := 3) (N := some 27) (v := ?_) (a' := ?_) #[true, true, true, true, false, false, false, false, false, false, false, false, false, false, false, false, false, false, false, false, false, false, false, false, false, false, false, false, false, false] rfl rfl (by kernel_rfl) (fun _ _ _ h => h) (Or.inl ⟨by rfl, ?_⟩) ?_ ?_
          rotate_left
          · intro w'
            go_simp
            with_reducible rfl
          rotate_left
          · simp only [Act.put, List.setIfInBounds_toArray, List.set_cons_zero, List.set_cons_succ, i64_w, i32_w]
            rfl
          refine pure_ (i := 4) (N := some 28) (v := ?_) (a' := ?_) #[true, true, true, true, true, false, false, false, false, false, false, false, false, false, false, false, false, false, false, false, false, false, false, false, false, false, false, false, false, false] rfl rfl (by kernel_rfl) (fun _ _ _ h => h) (Or.inl ⟨by rfl, ?_⟩) ?_ ?_
          rotate_left
          · intro w'
            go_simp
            with_reducible rfl
          rotate_left
          · simp only [Act.put, List.setIfInBounds_toArray, List.set_cons_zero, List.set_cons_succ, i64_w, i32_w]
            rfl
          refine take_ (i := 5) (N := some 29) (v := ?_) (a' := ?_) #[true, true, true, true, true, true, false, false, false, false, false, false, false, false, false, false, false, false, false, false, false, false, false, false, false, false, false, false, false, false] rfl rfl (by kernel_rfl) (fun _ _ _ h => h) (Or.inl ⟨by rfl, ?_⟩) hHeld ?_ ?_
          rotate_left
          · rintro w' ⟨s0, s1, s2, s3, s4, s5, s6, s7, s8, s9, s10, s11, s12⟩
            go_simp
            with_reducible rfl
          rotate_left
          · simp only [Act.put, List.setIfInBounds_toArray, List.set_cons_zero, List.set_cons_succ, i64_w, i32_w]
            rfl
          refine one_ (i := 6) (N := some 30) #[true, true, true, true, true, true, true, false, false, false, false, false, false, false, false, false, false, false, false, false, false, false, false, false, false, false, false, false, false, false] rfl rfl (by kernel_rfl) (by decide) (fun K hK => ?_)
          refine goes_ Tryz.func68 (by kernel_rfl) rfl #[.string y.f0] (by rfl) rfl rfl (by simp only [List.map_toArray, List.map_cons, List.map_nil]; rfl) ?_
          with_reducible refine ((HN _).out).mono ?_
          rintro e w3 ⟨rfl, rfl⟩
          refine ⟨_, rfl, ?_⟩
          refine hK.out _ _ ⟨hHeld.1, hHeld.2.1, hHeld.2.2.1, hHeld.2.2.2.1, hHeld.2.2.2.2.1, hHeld.2.2.2.2.2.1, hHeld.2.2.2.2.2.2.1, hHeld.2.2.2.2.2.2.2.1, hHeld.2.2.2.2.2.2.2.2.1, hHeld.2.2.2.2.2.2.2.2.2.1, hHeld.2.2.2.2.2.2.2.2.2.2.1, hHeld.2.2.2.2.2.2.2.2.2.2.2.1, hHeld.2.2.2.2.2.2.2.2.2.2.2.2⟩ (fun hHeld => ?_)
          clear hK K
          refine norm_ (a' := ?_) ?_ ?_
          rotate_left
          · show Act.put _ (some 30) _ = _
            simp only [Act.put, List.setIfInBounds_toArray, List.set_cons_zero, List.set_cons_succ, i64_w, i32_w]
            rfl
          refine pure_ (i := 7) (N := some 31) (v := ?_) (a' := ?_) #[true, true, true, true, true, true, true, true, false, false, false, false, false, false, false, false, false, false, false, false, false, false, false, false, false, false, false, false, false, false] rfl rfl (by kernel_rfl) (fun _ _ _ h => h) (Or.inl ⟨by rfl, ?_⟩) ?_ ?_
          rotate_left
          · intro w'
            go_simp
            with_reducible rfl
          rotate_left
          · simp only [Act.put, List.setIfInBounds_toArray, List.set_cons_zero, List.set_cons_succ, i64_w, i32_w]
            rfl
          refine pure_ (i := 8) (N := some 32) (v := ?_) (a' := ?_) #[true, true, true, true, true, true, true, true, true, false, false, false, false, false, false, false, false, false, false, false, false, false, false, false, false, false, false, false, false, false] rfl rfl (by kernel_rfl) (fun _ _ _ h => h) (Or.inl ⟨by rfl, ?_⟩) ?_ ?_
          rotate_left
          · intro w'
            go_simp
            with_reducible rfl
          rotate_left
          · simp only [Act.put, List.setIfInBounds_toArray, List.set_cons_zero, List.set_cons_succ, i64_w, i32_w]
            rfl
          refine pure_ (i := 10) (N := some 34) (v := ?_) (a' := ?_) #[true, true, true, true, true, true, true, true, true, false, true, false, false, false, false, false, false, false, false, false, false, false, false, false, false, false, false, false, false, false] rfl rfl (by kernel_rfl) (fun _ _ _ h => h) (Or.inl ⟨by rfl, ?_⟩) ?_ ?_
          rotate_left
          · intro w'
            go_simp
            with_reducible rfl
          rotate_left
          · simp only [Act.put, List.setIfInBounds_toArray, List.set_cons_zero, List.set_cons_succ, i64_w, i32_w]
            rfl
          refine pure_ (i := 12) (N := some 36) (v := ?_) (a' := ?_) #[true, true, true, true, true, true, true, true, true, false, true, false, true, false, false, false, false, false, false, false, false, false, false, false, false, false, false, false, false, false] rfl rfl (by kernel_rfl) (fun _ _ _ h => h) (Or.inl ⟨by rfl, ?_⟩) ?_ ?_
          rotate_left
          · intro w'
            go_simp
            with_reducible rfl
          rotate_left
          · simp only [Act.put, List.setIfInBounds_toArray, List.set_cons_zero, List.set_cons_succ, i64_w, i32_w]
            rfl
          refine pure_ (i := 17) (N := some 41) (v := ?_) (a' := ?_) #[true, true, true, true, true, true, true, true, true, false, true, false, true, false, false, false, false, true, false, false, false, false, false, false, false, false, false, false, false, false] rfl rfl (by kernel_rfl) (fun _ _ _ h => h) (Or.inl ⟨by rfl, ?_⟩) ?_ ?_
          rotate_left
          · intro w'
            go_simp
            with_reducible rfl
          rotate_left
          · simp only [Act.put, List.setIfInBounds_toArray, List.set_cons_zero, List.set_cons_succ, i64_w, i32_w]
            rfl
          refine take_ (i := 9) (N := some 33) (v := ?_) (a' := ?_) #[true, true, true, true, true, true, true, true, true, true, true, false, true, false, false, false, false, true, false, false, false, false, false, false, false, false, false, false, false, false] rfl rfl (by kernel_rfl) (fun _ _ _ h => h) (Or.inl ⟨by rfl, ?_⟩) hHeld ?_ ?_
          rotate_left
          · rintro w' ⟨s0, s1, s2, s3, s4, s5, s6, s7, s8, s9, s10, s11, s12⟩
            go_simp
            with_reducible rfl
          rotate_left
          · simp only [Act.put, List.setIfInBounds_toArray, List.set_cons_zero, List.set_cons_succ, i64_w, i32_w]
            rfl
          refine take_ (i := 11) (N := some 35) (v := ?_) (a' := ?_) #[true, true, true, true, true, true, true, true, true, true, true, true, true, false, false, false, false, true, false, false, false, false, false, false, false, false, false, false, false, false] rfl rfl (by kernel_rfl) (fun _ _ _ h => h) (Or.inl ⟨by rfl, ?_⟩) hHeld ?_ ?_
          rotate_left
          · rintro w' ⟨s0, s1, s2, s3, s4, s5, s6, s7, s8, s9, s10, s11, s12⟩
            go_simp
            with_reducible rfl
          rotate_left
          · simp only [Act.put, List.setIfInBounds_toArray, List.set_cons_zero, List.set_cons_succ, i64_w, i32_w]
            rfl
          refine pure_ (i := 13) (N := some 37) (v := ?_) (a' := ?_) #[true, true, true, true, true, true, true, true, true, true, true, true, true, true, false, false, false, true, false, false, false, false, false, false, false, false, false, false, false, false] rfl rfl (by kernel_rfl) (fun _ _ _ h => h) (Or.inl ⟨by rfl, ?_⟩) ?_ ?_
          rotate_left
          · intro w'
            go_simp
            with_reducible rfl
          rotate_left
          · simp only [Act.put, List.setIfInBounds_toArray, List.set_cons_zero, List.set_cons_succ, i64_w, i32_w]
            rfl
          refine pure_ (i := 14) (N := some 38) (v := ?_) (a' := ?_) #[true, true, true, true, true, true, true, true, true, true, true, true, true, true, true, false, false, true, false, false, false, false, false, false, false, false, false, false, false, false] rfl rfl (by kernel_rfl) (fun _ _ _ h => h) (Or.inl ⟨by rfl, ?_⟩) ?_ ?_
          rotate_left
          · intro w'
            go_simp
            with_reducible rfl
          rotate_left
          · simp only [Act.put, List.setIfInBounds_toArray, List.set_cons_zero, List.set_cons_succ, i64_w, i32_w]
            rfl
          refine take_ (i := 15) (N := some 39) (v := ?_) (a' := ?_) #[true, true, true, true, true, true, true, true, true, true, true, true, true, true, true, true, false, true, false, false, false, false, false, false, false, false, false, false, false, false] rfl rfl (by kernel_rfl) (fun _ _ _ h => h) (Or.inl ⟨by rfl, ?_⟩) hHeld ?_ ?_
          rotate_left
          · rintro w' ⟨s0, s1, s2, s3, s4, s5, s6, s7, s8, s9, s10, s11, s12⟩
            go_simp
            with_reducible rfl
          rotate_left
          · simp only [Act.put, List.setIfInBounds_toArray, List.set_cons_zero, List.set_cons_succ, i64_w, i32_w]
            rfl
          refine one_ (i := 16) (N := some 40) #[true, true, true, true, true, true, true, true, true, true, true, true, true, true, true, true, true, true, false, false, false, false, false, false, false, false, false, false, false, false] rfl rfl (by kernel_rfl) (by decide) (fun K hK => ?_)
          refine goes_ Tryz.func24 (by kernel_rfl) rfl #[.agg #[.int .i64 s.f0, .int .u64 s.f1, .slice A2 s.f2.length c2, .slice (some ad) s.f3.length c3, .slice A4 s.f4.length c4, .slice A5 s.f5.length c5, .slice A6 s.f6.length c6, .slice A7 s.f7.length c7, .slice A8 s.f8.length c8, .int .i64 s.f9], .string y.f0] (by rfl) rfl rfl (by simp only [List.map_toArray, List.map_cons, List.map_nil]; rfl) ?_
          with_reducible refine ((HCA _ hHeld).out).mono ?_
          rintro e w3 ⟨rfl, hb⟩
          refine ⟨_, rfl, ?_⟩
          have hKp := HKEEP.out _ _ hHeld hb
          refine hK.out _ _ ⟨hKp.1, hKp.2.1, hKp.2.2.1, hKp.2.2.2.1, hKp.2.2.2.2.1, hKp.2.2.2.2.2.1, hKp.2.2.2.2.2.2.1, hKp.2.2.2.2.2.2.2.1, hKp.2.2.2.2.2.2.2.2.1, hKp.2.2.2.2.2.2.2.2.2.1, hKp.2.2.2.2.2.2.2.2.2.2.1, hKp.2.2.2.2.2.2.2.2.2.2.2.1, hKp.2.2.2.2.2.2.2.2.2.2.2.2⟩ (fun hHeld => ?_)
          clear hK K
          refine norm_ (a' := ?_) ?_ ?_
          rotate_left
          · show Act.put _ (some 40) _ = _
            simp only [Act.put, List.setIfInBounds_toArray, List.set_cons_zero, List.set_cons_succ, i64_w, i32_w]
            rfl
          refine pure_ (i := 18) (N := some 42) (v := ?_) (a' := ?_) #[true, true, true, true, true, true, true, true, true, true, true, true, true, true, true, true, true, true, true, false, false, false, false, false, false, false, false, false, false, false] rfl rfl (by kernel_rfl) (fun _ _ _ h => h) (Or.inl ⟨by rfl, ?_⟩) ?_ ?_
          rotate_left
          · intro w'
            go_simp
            with_reducible rfl
          rotate_left
          · simp only [Act.put, List.setIfInBounds_toArray, List.set_cons_zero, List.set_cons_succ, i64_w, i32_w]
            rfl
          refine pure_ (i := 19) (N := some 43) (v := ?_) (a' := ?_) #[true, true, true, true, true, true, true, true, true, true, true, true, true, true, true, true, true, true, true, true, false, false, false, false, false, false, false, false, false, false] rfl rfl (by kernel_rfl) (fun _ _ _ h => h) (Or.inl ⟨by rfl, ?_⟩) ?_ ?_
          rotate_left
          · intro w'
            go_simp
            with_reducible rfl
          rotate_left
          · simp only [Act.put, List.setIfInBounds_toArray, List.set_cons_zero, List.set_cons_succ, i64_w, i32_w]
            rfl
          refine pure_ (i := 20) (N := some 44) (v := ?_) (a' := ?_) #[true, true, true, true, true, true, true, true, true, true, true, true, true, true, true, true, true, true, true, true, true, false, false, false, false, false, false, false, false, false] rfl rfl (by kernel_rfl) (fun _ _ _ h => h) (Or.inl ⟨by rfl, ?_⟩) ?_ ?_
          rotate_left
          · intro w'
            go_simp
            with_reducible rfl
          rotate_left
          · simp only [Act.put, List.setIfInBounds_toArray, List.set_cons_zero, List.set_cons_succ, i64_w, i32_w]
            rfl
          refine pure_ (i := 21) (N := some 45) (v := ?_) (a' := ?_) #[true, true, true, true, true, true, true, true, true, true, true, true, true, true, true, true, true, true, true, true, true, true, false, false, false, false, false, false, false, false] rfl rfl (by kernel_rfl) (fun _ _ _ h => h) (Or.inl ⟨by rfl, ?_⟩) ?_ ?_
          rotate_left
          · intro w'
            go_simp
            with_reducible rfl
          rotate_left
          · simp only [Act.put, List.setIfInBounds_toArray, List.set_cons_zero, List.set_cons_succ, i64_w, i32_w]
            rfl
          refine pure_ (i := 23) (N := some 47) (v := ?_) (a' := ?_) #[true, true, true, true, true, true, true, true, true, true, true, true, true, true, true, true, true, true, true, true, true, true, false, true, false, false, false, false, false, false] rfl rfl (by kernel_rfl) (fun _ _ _ h => h) (Or.inl ⟨by rfl, ?_⟩) ?_ ?_
          rotate_left
          · intro w'
            go_simp
            with_reducible rfl
          rotate_left
          · simp only [Act.put, List.setIfInBounds_toArray, List.set_cons_zero, List.set_cons_succ, i64_w, i32_w]
            rfl
          refine take_ (i := 22) (N := some 46) (v := ?_) (a' := ?_) #[true, true, true, true, true, true, true, true, true, true, true, true, true, true, true, true, true, true, true, true, true, true, true, true, false, false, false, false, false, false] rfl rfl (by kernel_rfl) (fun _ _ _ h => h) (Or.inl ⟨by rfl, ?_⟩) hHeld ?_ ?_
          rotate_left
          · rintro w' ⟨s0, s1, s2, s3, s4, s5, s6, s7, s8, s9, s10, s11, s12⟩
            go_simp
            with_reducible rfl
          rotate_left
          · simp only [Act.put, List.setIfInBounds_toArray, List.set_cons_zero, List.set_cons_succ, i64_w, i32_w]
            rfl
          refine pure_ (i := 24) (N := some 48) (v := ?_) (a' := ?_) #[true, true, true, true, true, true, true, true, true, true, true, true, true, true, true, true, true, true, true, true, true, true, true, true, true, false, false, false, false, false] rfl rfl (by kernel_rfl) (fun _ _ _ h => h) (Or.inl ⟨by rfl, ?_⟩) ?_ ?_
          rotate_left
          · intro w'
            go_simp
            with_reducible rfl
          rotate_left
          · simp only [Act.put, List.setIfInBounds_toArray, List.set_cons_zero, List.set_cons_succ, i64_w, i32_w]
            rfl
          refine pure_ (i := 25) (N := some 49) (v := ?_) (a' := ?_) #[true, true, true, true, true, true, true, true, true, true, true, true, true, true, true, true, true, true, true, true, true, true, true, true, true, true, false, false, false, false] rfl rfl (by kernel_rfl) (fun _ _ _ h => h) (Or.inl ⟨by rfl, ?_⟩) ?_ ?_
          rotate_left
          · intro w'
            go_simp
            with_reducible rfl
          rotate_left
          · simp only [Act.put, List.setIfInBounds_toArray, List.set_cons_zero, List.set_cons_succ, i64_w, i32_w]
            rfl
          refine take_ (i := 26) (N := some 50) (v := ?_) (a' := ?_) #[true, true, true, true, true, true, true, true, true, true, true, true, true, true, true, true, true, true, true, true, true, true, true, true, true, true, true, false, false, false] rfl rfl (by kernel_rfl) (fun _ _ _ h => h) (Or.inl ⟨by rfl, ?_⟩) hHeld ?_ ?_
          rotate_left
          · rintro w' ⟨s0, s1, s2, s3, s4, s5, s6, s7, s8, s9, s10, s11, s12⟩
            go_simp
            with_reducible rfl
          rotate_left
          · simp only [Act.put, List.setIfInBounds_toArray, List.set_cons_zero, List.set_cons_succ, i64_w, i32_w]
            rfl
          refine one_ (i := 27) (N := some 51) #[true, true, true, true, true, true, true, true, true, true, true, true, true, true, true, true, true, true, true, true, true, true, true, true, true, true, true, true, false, false] rfl rfl (by kernel_rfl) (by decide) (fun K hK => ?_)
          refine goes_ Tryz.func69 (by kernel_rfl) rfl #[.slice A1 y.f1.length c1] (by rfl) rfl rfl (by simp only [List.map_toArray, List.map_cons, List.map_nil]; rfl) ?_
          with_reducible refine ((HMI _ hHeld).out).mono ?_
          rintro e w3 ⟨b, rfl, hb1, hb⟩
          refine ⟨_, rfl, ?_⟩
          have hKp := HKEEP.out _ _ hHeld hb
          refine hK.out _ _ ⟨hKp.1, hKp.2.1, hKp.2.2.1, hKp.2.2.2.1, hKp.2.2.2.2.1, hKp.2.2.2.2.2.1, hKp.2.2.2.2.2.2.1, hKp.2.2.2.2.2.2.2.1, hKp.2.2.2.2.2.2.2.2.1, hKp.2.2.2.2.2.2.2.2.2.1, hKp.2.2.2.2.2.2.2.2.2.2.1, hKp.2.2.2.2.2.2.2.2.2.2.2.1, hKp.2.2.2.2.2.2.2.2.2.2.2.2⟩ (fun hHeld => ?_)
          clear hK K
          refine norm_ (a' := ?_) ?_ ?_
          rotate_left
          · show Act.put _ (some 51) _ = _
            simp only [Act.put, List.setIfInBounds_toArray, List.set_cons_zero, List.set_cons_succ, i64_w, i32_w]
            rfl
          refine pure_ (i := 28) (N := some 52) (v := ?_) (a' := ?_) #[true, true, true, true, true, true, true, true, true, true, true, true, true, true, true, true, true, true, true, true, true, true, true, true, true, true, true, true, true, false] rfl rfl (by kernel_rfl) (fun _ _ _ h => h) (Or.inl ⟨by rfl, ?_⟩) ?_ ?_
          rotate_left
          · intro w'
            go_simp
            with_reducible rfl
          rotate_left
          · simp only [Act.put, List.setIfInBounds_toArray, List.set_cons_zero, List.set_cons_succ, i64_w, i32_w]
            rfl
          refine pure_ (i := 29) (N := some 53) (v := ?_) (a' := ?_) #[true, true, true, true, true, true, true, true, true, true, true, true, true, true, true, true, true, true, true, true, true, true, true, true, true, true, true, true, true, true] rfl rfl (by kernel_rfl) (fun _ _ _ h => h) (Or.inl ⟨by rfl, ?_⟩) ?_ ?_
          rotate_left
          · intro w'
            go_simp
            with_reducible rfl
          rotate_left
          · simp only [Act.put, List.setIfInBounds_toArray, List.set_cons_zero, List.set_cons_succ, i64_w, i32_w]
            rfl
          refine done_ (by kernel_rfl) ?_

          have HBX := Lib.hid (below_tr HBW.out hHeld.1.out)
          have HB1 := Lib.hid hb1
          clear hHeld hb1 hb
          cases b
          · go_wp2
            go_ret
            exact RBq.no (below_tr HB.out HBX.out)
          · go_wp2
            go_roundw
            case rel => exact ⟨k + 1, by go_num, by omega, ⟨fun z hz => by
              rw [HT.out] at hz
              rcases List.mem_append.1 hz with hz | hz
              · exact HA.out z hz
              · rw [List.mem_singleton.1 hz]; exact HB1.out rfl⟩, ⟨HBX.out⟩⟩
            case measure => simp [intOf]; omega
        · have hik2 : (i == (k : Int)) = false := by simp [hik]
          have hik3 : (i != (k : Int)) = true := by simp [hik]
          clear hik
          go_wp2_with fail
          refine start_ (n := 30) (S := fun w' => Aside0 (Below wr.heap.size wr w') ∧ w'.cell? ⟨W.heap.size, 0, none⟩ = some (.int .i64 s.f0) ∧ w'.cell? ⟨W.heap.size, 1, none⟩ = some (.int .u64 s.f1) ∧ w'.cell? ⟨W.heap.size, 2, none⟩ = some (.slice A2 s.f2.length c2) ∧ w'.cell? ⟨W.heap.size, 3, none⟩ = some (.slice (some ad) s.f3.length c3) ∧ w'.cell? ⟨W.heap.size, 4, none⟩ = some (.slice A4 s.f4.length c4) ∧ w'.cell? ⟨W.heap.size, 5, none⟩ = some (.slice A5 s.f5.length c5) ∧ w'.cell? ⟨W.heap.size, 6, none⟩ = some (.slice A6 s.f6.length c6) ∧ w'.cell? ⟨W.heap.size, 7, none⟩ = some (.slice A7 s.f7.length c7) ∧ w'.cell? ⟨W.heap.size, 8, none⟩ = some (.slice A8 s.f8.length c8) ∧ w'.cell? ⟨W.heap.size, 9, none⟩ = some (.int .i64 s.f9) ∧ w'.cell? (ad.add (k * 2)) = some (.string y.f0) ∧ w'.cell? ⟨(ad.add (k * 2)).block, (ad.add (k * 2)).off + 1, none⟩ = some (.slice A1 y.f1.length c1)) (ds := []) #[false, false, false, false, false, false, false, false, false, false, false, false, false, false, false, false, false, false, false, false, false, false, false, false, false, false, false, false, false, false] (by kernel_rfl) rfl rfl ⟨⟨below_drew (Below.refl _ _)⟩, q0, q1, q2, q3, q4, q5, q6, q7, q8, q9, h0, h1⟩ (fun hHeld => ?_)
          refine pure_ (i := 0) (N := some 24) (v := ?_) (a' := ?_) #[true, false, false, false, false, false, false, false, false, false, false, false, false, false, false, false, false, false, false, false, false, false, false, false, false, false, false, false, false, false] rfl rfl (by kernel_rfl) (fun _ _ _ h => h) (Or.inl ⟨by rfl, ?_⟩) ?_ ?_
          rotate_left
          · intro w'
            go_simp
            with_reducible rfl
          rotate_left
          · simp only [Act.put, List.setIfInBounds_toArray, List.set_cons_zero, List.set_cons_succ, i64_w, i32_w]
            rfl
          refine pure_ (i := 2) (N := some 26) (v := ?_) (a' := ?_) #[true, false, true, false, false, false, false, false, false, false, false, false, false, false, false, false, false, false, false, false, false, false, false, false, false, false, false, false, false, false] rfl rfl (by kernel_rfl) (fun _ _ _ h => h) (Or.inl ⟨by rfl, ?_⟩) ?_ ?_
          rotate_left
          · intro w'
            go_simp
            with_reducible rfl
          rotate_left
          · simp only [Act.put, List.setIfInBounds_toArray, List.set_cons_zero, List.set_cons_succ, i64_w, i32_w]
            rfl
          refine take_ (i := 1) (N := some 25) (v := ?_) (a' := ?_) #[true, true, true, false, false, false, false, false, false, false, false, false, false, false, false, false, false, false, false, false, false, false, false, false, false, false, false, false, false, false] rfl rfl (by kernel_rfl) (fun _ _ _ h => h) (Or.inl ⟨by rfl, ?_⟩) hHeld ?_ ?_
          rotate_left
          · rintro w' ⟨s0, s1, s2, s3, s4, s5, s6, s7, s8, s9, s10, s11, s12⟩
            go_simp
            with_reducible rfl
          rotate_left
          · simp only [Act.put, List.setIfInBounds_toArray, List.set_cons_zero, List.set_cons_succ, i64_w, i32_w]
            rfl
          refine pure_ (i := 3) (N := some 27) (v := ?_) (a' := ?_) #[true, true, true, true, false, false, false, false, false, false, false, false, false, false, false, false, false, false, false, false, false, false, false, false, false, false, false, false, false, false] rfl rfl (by kernel_rfl) (fun _ _ _ h => h) (Or.inl ⟨by rfl, ?_⟩) ?_ ?_
          rotate_left
          · intro w'
            go_simp
            with_reducible rfl
          rotate_left
          · simp only [Act.put, List.setIfInBounds_toArray, List.set_cons_zero, List.set_cons_succ, i64_w, i32_w]
            rfl
          refine pure_ (i := 4) (N := some 28) (v := ?_) (a' := ?_) #[true, true, true, true, true, false, false, false, false, false, false, false, false, false, false, false, false, false, false, false, false, false, false, false, false, false, false, false, false, false] rfl rfl (by kernel_rfl) (fun _ _ _ h => h) (Or.inl ⟨by rfl, ?_⟩) ?_ ?_
          rotate_left
          · intro w'
            go_simp
            with_reducible rfl
          rotate_left
          · simp only [Act.put, List.setIfInBounds_toArray, List.set_cons_zero, List.set_cons_succ, i64_w, i32_w]
            rfl
          refine take_ (i := 5) (N := some 29) (v := ?_) (a' := ?_) #[true, true, true, true, true, true, false, false, false, false, false, false, false, false, false, false, false, false, false, false, false, false, false, false, false, false, false, false, false, false] rfl rfl (by kernel_rfl) (fun _ _ _ h => h) (Or.inl ⟨by rfl, ?_⟩) hHeld ?_ ?_
          rotate_left
          · rintro w' ⟨s0, s1, s2, s3, s4, s5, s6, s7, s8, s9, s10, s11, s12⟩
            go_simp
            with_reducible rfl
          rotate_left
          · simp only [Act.put, List.setIfInBounds_toArray, List.set_cons_zero, List.set_cons_succ, i64_w, i32_w]
            rfl
          refine one_ (i := 6) (N := some 30) #[true, true, true, true, true, true, true, false, false, false, false, false, false, false, false, false, false, false, false, false, false, false, false, false, false, false, false, false, false, false] rfl rfl (by kernel_rfl) (by decide) (fun K hK => ?_)
          refine goes_ Tryz.func68 (by kernel_rfl) rfl #[.string y.f0] (by rfl) rfl rfl (by simp only [List.map_toArray, List.map_cons, List.map_nil]; rfl) ?_
          with_reducible refine ((HN _).out).mono ?_
          rintro e w3 ⟨rfl, rfl⟩
          refine ⟨_, rfl, ?_⟩
          refine hK.out _ _ ⟨hHeld.1, hHeld.2.1, hHeld.2.2.1, hHeld.2.2.2.1, hHeld.2.2.2.2.1, hHeld.2.2.2.2.2.1, hHeld.2.2.2.2.2.2.1, hHeld.2.2.2.2.2.2.2.1, hHeld.2.2.2.2.2.2.2.2.1, hHeld.2.2.2.2.2.2.2.2.2.1, hHeld.2.2.2.2.2.2.2.2.2.2.1, hHeld.2.2.2.2.2.2.2.2.2.2.2.1, hHeld.2.2.2.2.2.2.2.2.2.2.2.2⟩ (fun hHeld => ?_)
          clear hK K
          refine norm_ (a' := ?_) ?_ ?_
          rotate_left
          · show Act.put _ (some 30) _ = _
            simp only [Act.put, List.setIfInBounds_toArray, List.set_cons_zero, List.set_cons_succ, i64_w, i32_w]
            rfl
          refine pure_ (i := 7) (N := some 31) (v := ?_) (a' := ?_) #[true, true, true, true, true, true, true, true, false, false, false, false, false, false, false, false, false, false, false, false, false, false, false, false, false, false, false, false, false, false] rfl rfl (by kernel_rfl) (fun _ _ _ h => h) (Or.inl ⟨by rfl, ?_⟩) ?_ ?_
          rotate_left
          · intro w'
            go_simp
            with_reducible rfl
          rotate_left
          · simp only [Act.put, List.setIfInBounds_toArray, List.set_cons_zero, List.set_cons_succ, i64_w, i32_w]
            rfl
          refine pure_ (i := 8) (N := some 32) (v := ?_) (a' := ?_) #[true, true, true, true, true, true, true, true, true, false, false, false, false, false, false, false, false, false, false, false, false, false, false, false, false, false, false, false, false, false] rfl rfl (by kernel_rfl) (fun _ _ _ h => h) (Or.inl ⟨by rfl, ?_⟩) ?_ ?_
          rotate_left
          · intro w'
            go_simp
            with_reducible rfl
          rotate_left
          · simp only [Act.put, List.setIfInBounds_toArray, List.set_cons_zero, List.set_cons_succ, i64_w, i32_w]
            rfl
          refine pure_ (i := 10) (N := some 34) (v := ?_) (a' := ?_) #[true, true, true, true, true, true, true, true, true, false, true, false, false, false, false, false, false, false, false, false, false, false, false, false, false, false, false, false, false, false] rfl rfl (by kernel_rfl) (fun _ _ _ h => h) (Or.inl ⟨by rfl, ?_⟩) ?_ ?_
          rotate_left
          · intro w'
            go_simp
            with_reducible rfl
          rotate_left
          · simp only [Act.put, List.setIfInBounds_toArray, List.set_cons_zero, List.set_cons_succ, i64_w, i32_w]
            rfl
          refine pure_ (i := 12) (N := some 36) (v := ?_) (a' := ?_) #[true, true, true, true, true, true, true, true, true, false, true, false, true, false, false, false, false, false, false, false, false, false, false, false, false, false, false, false, false, false] rfl rfl (by kernel_rfl) (fun _ _ _ h => h) (Or.inl ⟨by rfl, ?_⟩) ?_ ?_
          rotate_left
          · intro w'
            go_simp
            with_reducible rfl
          rotate_left
          · simp only [Act.put, List.setIfInBounds_toArray, List.set_cons_zero, List.set_cons_succ, i64_w, i32_w]
            rfl
          refine pure_ (i := 17) (N := some 41) (v := ?_) (a' := ?_) #[true, true, true, true, true, true, true, true, true, false, true, false, true, false, false, false, false, true, false, false, false, false, false, false, false, false, false, false, false, false] rfl rfl (by kernel_rfl) (fun _ _ _ h => h) (Or.inl ⟨by rfl, ?_⟩) ?_ ?_
          rotate_left
          · intro w'
            go_simp
            with_reducible rfl
          rotate_left
          · simp only [Act.put, List.setIfInBounds_toArray, List.set_cons_zero, List.set_cons_succ, i64_w, i32_w]
            rfl
          refine take_ (i := 9) (N := some 33) (v := ?_) (a' := ?_) #[true, true, true, true, true, true, true, true, true, true, true, false, true, false, false, false, false, true, false, false, false, false, false, false, false, false, false, false, false, false] rfl rfl (by kernel_rfl) (fun _ _ _ h => h) (Or.inl ⟨by rfl, ?_⟩) hHeld ?_ ?_
          rotate_left
          · rintro w' ⟨s0, s1, s2, s3, s4, s5, s6, s7, s8, s9, s10, s11, s12⟩
            go_simp
            with_reducible rfl
          rotate_left
          · simp only [Act.put, List.setIfInBounds_toArray, List.set_cons_zero, List.set_cons_succ, i64_w, i32_w]
            rfl
          refine take_ (i := 11) (N := some 35) (v := ?_) (a' := ?_) #[true, true, true, true, true, true, true, true, true, true, true, true, true, false, false, false, false, true, false, false, false, false, false, false, false, false, false, false, false, false] rfl rfl (by kernel_rfl) (fun _ _ _ h => h) (Or.inl ⟨by rfl, ?_⟩) hHeld ?_ ?_
          rotate_left
          · rintro w' ⟨s0, s1, s2, s3, s4, s5, s6, s7, s8, s9, s10, s11, s12⟩
            go_simp
            with_reducible rfl
          rotate_left
          · simp only [Act.put, List.setIfInBounds_toArray, List.set_cons_zero, List.set_cons_succ, i64_w, i32_w]
            rfl
          refine pure_ (i := 13) (N := some 37) (v := ?_) (a' := ?_) #[true, true, true, true, true, true, true, true, true, true, true, true, true, true, false, false, false, true, false, false, false, false, false, false, false, false, false, false, false, false] rfl rfl (by kernel_rfl) (fun _ _ _ h => h) (Or.inl ⟨by rfl, ?_⟩) ?_ ?_
          rotate_left
          · intro w'
            go_simp
            with_reducible rfl
          rotate_left
          · simp only [Act.put, List.setIfInBounds_toArray, List.set_cons_zero, List.set_cons_succ, i64_w, i32_w]
            rfl
          refine pure_ (i := 14) (N := some 38) (v := ?_) (a' := ?_) #[true, true, true, true, true, true, true, true, true, true, true, true, true, true, true, false, false, true, false, false, false, false, false, false, false, false, false, false, false, false] rfl rfl (by kernel_rfl) (fun _ _ _ h => h) (Or.inl ⟨by rfl, ?_⟩) ?_ ?_
          rotate_left
          · intro w'
            go_simp
            with_reducible rfl
          rotate_left
          · simp only [Act.put, List.setIfInBounds_toArray, List.set_cons_zero, List.set_cons_succ, i64_w, i32_w]
            rfl
          refine take_ (i := 15) (N := some 39) (v := ?_) (a' := ?_) #[true, true, true, true, true, true, true, true, true, true, true, true, true, true, true, true, false, true, false, false, false, false, false, false, false, false, false, false, false, false] rfl rfl (by kernel_rfl) (fun _ _ _ h => h) (Or.inl ⟨by rfl, ?_⟩) hHeld ?_ ?_
          rotate_left
          · rintro w' ⟨s0, s1, s2, s3, s4, s5, s6, s7, s8, s9, s10, s11, s12⟩
            go_simp
            with_reducible rfl
          rotate_left
          · simp only [Act.put, List.setIfInBounds_toArray, List.set_cons_zero, List.set_cons_succ, i64_w, i32_w]
            rfl
          refine one_ (i := 16) (N := some 40) #[true, true, true, true, true, true, true, true, true, true, true, true, true, true, true, true, true, true, false, false, false, false, false, false, false, false, false, false, false, false] rfl rfl (by kernel_rfl) (by decide) (fun K hK => ?_)
          refine goes_ Tryz.func24 (by kernel_rfl) rfl #[.agg #[.int .i64 s.f0, .int .u64 s.f1, .slice A2 s.f2.length c2, .slice (some ad) s.f3.length c3, .slice A4 s.f4.length c4, .slice A5 s.f5.length c5, .slice A6 s.f6.length c6, .slice A7 s.f7.length c7, .slice A8 s.f8.length c8, .int .i64 s.f9], .string y.f0] (by rfl) rfl rfl (by simp only [List.map_toArray, List.map_cons, List.map_nil]; rfl) ?_
          with_reducible refine ((HCA _ hHeld).out).mono ?_
          rintro e w3 ⟨rfl, hb⟩
          refine ⟨_, rfl, ?_⟩
          have hKp := HKEEP.out _ _ hHeld hb
          refine hK.out _ _ ⟨hKp.1, hKp.2.1, hKp.2.2.1, hKp.2.2.2.1, hKp.2.2.2.2.1, hKp.2.2.2.2.2.1, hKp.2.2.2.2.2.2.1, hKp.2.2.2.2.2.2.2.1, hKp.2.2.2.2.2.2.2.2.1, hKp.2.2.2.2.2.2.2.2.2.1, hKp.2.2.2.2.2.2.2.2.2.2.1, hKp.2.2.2.2.2.2.2.2.2.2.2.1, hKp.2.2.2.2.2.2.2.2.2.2.2.2⟩ (fun hHeld => ?_)
          clear hK K
          refine norm_ (a' := ?_) ?_ ?_
          rotate_left
          · show Act.put _ (some 40) _ = _
            simp only [Act.put, List.setIfInBounds_toArray, List.set_cons_zero, List.set_cons_succ, i64_w, i32_w]
            rfl
          refine pure_ (i := 18) (N := some 42) (v := ?_) (a' := ?_) #[true, true, true, true, true, true, true, true, true, true, true, true, true, true, true, true, true, true, true, false, false, false, false, false, false, false, false, false, false, false] rfl rfl (by kernel_rfl) (fun _ _ _ h => h) (Or.inl ⟨by rfl, ?_⟩) ?_ ?_
          rotate_left
          · intro w'
            go_simp
            with_reducible rfl
          rotate_left
          · simp only [Act.put, List.setIfInBounds_toArray, List.set_cons_zero, List.set_cons_succ, i64_w, i32_w]
            rfl
          refine pure_ (i := 19) (N := some 43) (v := ?_) (a' := ?_) #[true, true, true, true, true, true, true, true, true, true, true, true, true, true, true, true, true, true, true, true, false, false, false, false, false, false, false, false, false, false] rfl rfl (by kernel_rfl) (fun _ _ _ h => h) (Or.inl ⟨by rfl, ?_⟩) ?_ ?_
          rotate_left
          · intro w'
            go_simp
            with_reducible rfl
          rotate_left
          · simp only [Act.put, List.setIfInBounds_toArray, List.set_cons_zero, List.set_cons_succ, i64_w, i32_w]
            rfl
          refine pure_ (i := 20) (N := some 44) (v := ?_) (a' := ?_) #[true, true, true, true, true, true, true, true, true, true, true, true, true, true, true, true, true, true, true, true, true, false, false, false, false, false, false, false, false, false] rfl rfl (by kernel_rfl) (fun _ _ _ h => h) (Or.inl ⟨by rfl, ?_⟩) ?_ ?_
          rotate_left
          · intro w'
            go_simp
            with_reducible rfl
          rotate_left
          · simp only [Act.put, List.setIfInBounds_toArray, List.set_cons_zero, List.set_cons_succ, i64_w, i32_w]
            rfl
          refine pure_ (i := 21) (N := some 45) (v := undef) (a' := ?_) #[true, true, true, true, true, true, true, true, true, true, true, true, true, true, true, true, true, true, true, true, true, true, false, false, false, false, false, false, false, false] rfl rfl (by kernel_rfl) (fun _ _ _ h => h) (Or.inr ⟨by rfl, rfl⟩) ?_ ?_
          rotate_left
          · simp only [Act.put, List.setIfInBounds_toArray, List.set_cons_zero, List.set_cons_succ, i64_w, i32_w]
            rfl
          refine pure_ (i := 22) (N := some 46) (v := undef) (a' := ?_) #[true, true, true, true, true, true, true, true, true, true, true, true, true, true, true, true, true, true, true, true, true, true, true, false, false, false, false, false, false, false] rfl rfl (by kernel_rfl) (fun _ _ _ h => h) (Or.inr ⟨by rfl, rfl⟩) ?_ ?_
          rotate_left
          · simp only [Act.put, List.setIfInBounds_toArray, List.set_cons_zero, List.set_cons_succ, i64_w, i32_w]
            rfl
          refine pure_ (i := 23) (N := some 47) (v := undef) (a' := ?_) #[true, true, true, true, true, true, true, true, true, true, true, true, true, true, true, true, true, true, true, true, true, true, true, true, false, false, false, false, false, false] rfl rfl (by kernel_rfl) (fun _ _ _ h => h) (Or.inr ⟨by rfl, rfl⟩) ?_ ?_
          rotate_left
          · simp only [Act.put, List.setIfInBounds_toArray, List.set_cons_zero, List.set_cons_succ, i64_w, i32_w]
            rfl
          refine pure_ (i := 24) (N := some 48) (v := undef) (a' := ?_) #[true, true, true, true, true, true, true, true, true, true, true, true, true, true, true, true, true, true, true, true, true, true, true, true, true, false, false, false, false, false] rfl rfl (by kernel_rfl) (fun _ _ _ h => h) (Or.inr ⟨by rfl, rfl⟩) ?_ ?_
          rotate_left
          · simp only [Act.put, List.setIfInBounds_toArray, List.set_cons_zero, List.set_cons_succ, i64_w, i32_w]
            rfl
          refine pure_ (i := 25) (N := some 49) (v := undef) (a' := ?_) #[true, true, true, true, true, true, true, true, true, true, true, true, true, true, true, true, true, true, true, true, true, true, true, true, true, true, false, false, false, false] rfl rfl (by kernel_rfl) (fun _ _ _ h => h) (Or.inr ⟨by rfl, rfl⟩) ?_ ?_
          rotate_left
          · simp only [Act.put, List.setIfInBounds_toArray, List.set_cons_zero, List.set_cons_succ, i64_w, i32_w]
            rfl
          refine pure_ (i := 26) (N := some 50) (v := undef) (a' := ?_) #[true, true, true, true, true, true, true, true, true, true, true, true, true, true, true, true, true, true, true, true, true, true, true, true, true, true, true, false, false, false] rfl rfl (by kernel_rfl) (fun _ _ _ h => h) (Or.inr ⟨by rfl, rfl⟩) ?_ ?_
          rotate_left
          · simp only [Act.put, List.setIfInBounds_toArray, List.set_cons_zero, List.set_cons_succ, i64_w, i32_w]
            rfl
          refine pure_ (i := 27) (N := some 51) (v := undef) (a' := ?_) #[true, true, true, true, true, true, true, true, true, true, true, true, true, true, true, true, true, true, true, true, true, true, true, true, true, true, true, true, false, false] rfl rfl (by kernel_rfl) (fun _ _ _ h => h) (Or.inr ⟨by rfl, rfl⟩) ?_ ?_
          rotate_left
          · simp only [Act.put, List.setIfInBounds_toArray, List.set_cons_zero, List.set_cons_succ, i64_w, i32_w]
            rfl
          refine pure_ (i := 28) (N := some 52) (v := undef) (a' := ?_) #[true, true, true, true, true, true, true, true, true, true, true, true, true, true, true, true, true, true, true, true, true, true, true, true, true, true, true, true, true, false] rfl rfl (by kernel_rfl) (fun _ _ _ h => h) (Or.inr ⟨by rfl, rfl⟩) ?_ ?_
          rotate_left
          · simp only [Act.put, List.setIfInBounds_toArray, List.set_cons_zero, List.set_cons_succ, i64_w, i32_w]
            rfl
          refine pure_ (i := 29) (N := some 53) (v := ?_) (a' := ?_) #[true, true, true, true, true, true, true, true, true, true, true, true, true, true, true, true, true, true, true, true, true, true, true, true, true, true, true, true, true, true] rfl rfl (by kernel_rfl) (fun _ _ _ h => h) (Or.inl ⟨by rfl, ?_⟩) ?_ ?_
          rotate_left
          · intro w'
            go_simp
            with_reducible rfl
          rotate_left
          · simp only [Act.put, List.setIfInBounds_toArray, List.set_cons_zero, List.set_cons_succ, i64_w, i32_w]
            rfl
          refine done_ (by kernel_rfl) ?_

          have HBX := Lib.hid (below_tr HB.out (below_tr HBW.out hHeld.1.out))
          clear hHeld hb
          go_wp2
          go_ret
          exact RBq.no HBX.out
    · have hk2 : k = s.f3.length := by omega
      have HALL := Lib.hid (show ∀ y ∈ s.f3, y.f1.length ≤ 8 from fun y hy => HA.out y (by rw [hk2, List.take_length]; exact hy))
      clear hk2 HA
      go_wp2
      clear q0 q1 q2 q3 q4 q5 q6 q7 q8 q9
      go_loopw [4] (fun v4 wr => ∃ k : Nat, v4 = .int .i64 k ∧ k ≤ s.f4.length ∧ Aside0 (Below W1.heap.size W1 wr)) (fun v4 _ => s.f4.length - (intOf v4).toNat)
      case atStart => exact ⟨0, rfl, Nat.zero_le _, ⟨HBW.out⟩⟩
      case round =>
        clear HBW HY2 HS2
        obtain ⟨k, rfl, hk, HBW⟩ := hrel
        have HY2 := Lib.hid ((HBW.out.block W.heap.size (blk_lt HY.out)).trans HY.out)
        have HS2 := Lib.hid (HS.out.below HBW.out)
        have q0 : (wr).cell? ⟨W.heap.size, 0, none⟩ = some (.int .i64 s.f0) := (blk_cell HY2.out 0).trans rfl
        have q1 : (wr).cell? ⟨W.heap.size, 1, none⟩ = some (.int .u64 s.f1) := (blk_cell HY2.out 1).trans rfl
        have q2 : (wr).cell? ⟨W.heap.size, 2, none⟩ = some (.slice A2 s.f2.length c2) := (blk_cell HY2.out 2).trans rfl
        have q3 : (wr).cell? ⟨W.heap.size, 3, none⟩ = some (.slice A3 s.f3.length c3) := (blk_cell HY2.out 3).trans rfl
        have q4 : (wr).cell? ⟨W.heap.size, 4, none⟩ = some (.slice A4 s.f4.length c4) := (blk_cell HY2.out 4).trans rfl
        have q5 : (wr).cell? ⟨W.heap.size, 5, none⟩ = some (.slice A5 s.f5.length c5) := (blk_cell HY2.out 5).trans rfl
        have q6 : (wr).cell? ⟨W.heap.size, 6, none⟩ = some (.slice A6 s.f6.length c6) := (blk_cell HY2.out 6).trans rfl
        have q7 : (wr).cell? ⟨W.heap.size, 7, none⟩ = some (.slice A7 s.f7.length c7) := (blk_cell HY2.out 7).trans rfl
        have q8 : (wr).cell? ⟨W.heap.size, 8, none⟩ = some (.slice A8 s.f8.length c8) := (blk_cell HY2.out 8).trans rfl
        have q9 : (wr).cell? ⟨W.heap.size, 9, none⟩ = some (.int .i64 s.f9) := (blk_cell HY2.out 9).trans rfl
        by_cases hlt : k < s.f4.length
        · have hlt2 : (k : Int) < (s.f4.length : Int) := by omega
          obtain ⟨ad, e, h0, h1, h2⟩ := at_T115 HS2.out.g4 (k : Int) (by omega) (by omega)
          subst e
          simp only [Int.toNat_natCast] at h0 h1 h2
          have hzz := HZ.out.z4 _ (rd_mem108 hlt)
          generalize rd_T115 s.f4 (k : Int) = y at *
          have hbE := below_alloc (Below.refl wr.heap.size wr) (.cells #[.string y.f0, .int .i64 y.f1, .bool y.f2] 115 (0, 0))
          have HEA := Lib.hid (new_blk wr (.cells #[.string y.f0, .int .i64 y.f1, .bool y.f2] 115 (0, 0)))
          have HN := fun w => Lib.hid (Name_eq y.f0 hzz w)
          have HSU := Lib.hid (Sub_eq s _ _ _ _ _ _ _ _ _ _ _ _ _ _ y.f0 (wr.alloc (.cells #[.string y.f0, .int .i64 y.f1, .bool y.f2] 115 (0, 0))) (HS2.out.below hbE))
          have HYE := Lib.hid ((hbE.block W.heap.size (blk_lt HY2.out)).trans HY2.out)
          have HBE := Lib.hid (below_tr HBW.out hbE)
          have r0 : ((wr.alloc (.cells #[.string y.f0, .int .i64 y.f1, .bool y.f2] 115 (0, 0)))).cell? ⟨W.heap.size, 0, none⟩ = some (.int .i64 s.f0) := (blk_cell HYE.out 0).trans rfl
          have r1 : ((wr.alloc (.cells #[.string y.f0, .int .i64 y.f1, .bool y.f2] 115 (0, 0)))).cell? ⟨W.heap.size, 1, none⟩ = some (.int .u64 s.f1) := (blk_cell HYE.out 1).trans rfl
          have r2 : ((wr.alloc (.cells #[.string y.f0, .int .i64 y.f1, .bool y.f2] 115 (0, 0)))).cell? ⟨W.heap.size, 2, none⟩ = some (.slice A2 s.f2.length c2) := (blk_cell HYE.out 2).trans rfl
          have r3 : ((wr.alloc (.cells #[.string y.f0, .int .i64 y.f1, .bool y.f2] 115 (0, 0)))).cell? ⟨W.heap.size, 3, none⟩ = some (.slice A3 s.f3.length c3) := (blk_cell HYE.out 3).trans rfl
          have r4 : ((wr.alloc (.cells #[.string y.f0, .int .i64 y.f1, .bool y.f2] 115 (0, 0)))).cell? ⟨W.heap.size, 4, none⟩ = some (.slice (some ad) s.f4.length c4) := (blk_cell HYE.out 4).trans rfl
          have r5 : ((wr.alloc (.cells #[.string y.f0, .int .i64 y.f1, .bool y.f2] 115 (0, 0)))).cell? ⟨W.heap.size, 5, none⟩ = some (.slice A5 s.f5.length c5) := (blk_cell HYE.out 5).trans rfl
          have r6 : ((wr.alloc (.cells #[.string y.f0, .int .i64 y.f1, .bool y.f2] 115 (0, 0)))).cell? ⟨W.heap.size, 6, none⟩ = some (.slice A6 s.f6.length c6) := (blk_cell HYE.out 6).trans rfl
          have r7 : ((wr.alloc (.cells #[.string y.f0, .int .i64 y.f1, .bool y.f2] 115 (0, 0)))).cell? ⟨W.heap.size, 7, none⟩ = some (.slice A7 s.f7.length c7) := (blk_cell HYE.out 7).trans rfl
          have r8 : ((wr.alloc (.cells #[.string y.f0, .int .i64 y.f1, .bool y.f2] 115 (0, 0)))).cell? ⟨W.heap.size, 8, none⟩ = some (.slice A8 s.f8.length c8) := (blk_cell HYE.out 8).trans rfl
          have r9 : ((wr.alloc (.cells #[.string y.f0, .int .i64 y.f1, .bool y.f2] 115 (0, 0)))).cell? ⟨W.heap.size, 9, none⟩ = some (.int .i64 s.f9) := (blk_cell HYE.out 9).trans rfl
          clear hbE hzz
          generalize hix : ix (nm108 y.f0) s.f4 0 = i at *
          clear hix
          go_wp2_with (first | (go_at_call 68; refine (HN _).out.mono ?_; rintro e w2 ⟨rfl, rfl⟩) | (go_at_call 70; refine HSU.out.mono ?_; rintro e w3 ⟨rfl, hb⟩; have HE3 := Lib.hid ((hb.block wr.heap.size (blk_lt HEA.out)).trans HEA.out); have f0 : w3.cell? ⟨wr.heap.size, 0, none⟩ = some (.string y.f0) := (blk_cell HE3.out 0).trans rfl; have f1 : w3.cell? ⟨wr.heap.size, 1, none⟩ = some (.int .i64 y.f1) := (blk_cell HE3.out 1).trans rfl; have f2 : w3.cell? ⟨wr.heap.size, 2, none⟩ = some (.bool y.f2) := (blk_cell HE3.out 2).trans rfl))
          all_goals first
            | (go_ret; exact RBq.no (below_tr HB.out HBE.out))
            | (go_ret; exact RBq.no (below_tr HB.out (below_tr HBE.out hb)))
            | skip
          have HB3 := Lib.hid (below_tr HBE.out hb)
          clear hb f0 f1 f2 q0 q1 q2 q3 q4 q5 q6 q7 q8 q9 r0 r1 r2 r3 r4 r5 r6 r7 r8 r9 h0 h1 h2 HSU HEA HYE HBE
          generalize wr.heap.size = nb at *
          go_loopw [6] (fun v6 wr => ∃ j : Nat, v6 = .int .i64 j ∧ j ≤ k ∧ Aside0 (Below w3.heap.size w3 wr)) (fun v6 _ => k - (intOf v6).toNat)
          case atStart => exact ⟨0, rfl, Nat.zero_le _, ⟨Below.refl _ _⟩⟩
          case round =>
            obtain ⟨j, rfl, hj, HBP⟩ := hrel
            have HBP3 := Lib.hid (below_tr HB3.out HBP.out)
            have HYP := Lib.hid ((HBP3.out.block W.heap.size (blk_lt HY.out)).trans HY.out)
            have HEP := Lib.hid ((HBP.out.block nb (blk_lt HE3.out)).trans HE3.out)
            have q4 : (wr).cell? ⟨W.heap.size, 4, none⟩ = some (.slice (some ad) s.f4.length c4) := (blk_cell HYP.out 4).trans rfl
            have f0 : wr.cell? ⟨nb, 0, none⟩ = some (.string y.f0) := (blk_cell HEP.out 0).trans rfl
            have f1 : wr.cell? ⟨nb, 1, none⟩ = some (.int .i64 y.f1) := (blk_cell HEP.out 1).trans rfl
            have f2 : wr.cell? ⟨nb, 2, none⟩ = some (.bool y.f2) := (blk_cell HEP.out 2).trans rfl
            by_cases hjk : j < k
            · have hjk2 : (j : Int) < (k : Int) := by omega
              have hjl : (j : Int) < (s.f4.length : Int) := by omega
              obtain ⟨ad2, e, g0, g1, g2⟩ := at_T115 (HS.out.below HBP3.out).g4 (j : Int) (by omega) (by omega)
              injection e with e
              subst e
              simp only [Int.toNat_natCast] at g0 g1 g2
              generalize rd_T115 s.f4 (j : Int) = z at *
              generalize y.f2 = b1 at *
              generalize z.f2 = b2 at *
              cases b1
              · cases b2
                · go_wp2_with fail
                  go_quiet (fail)
                  have HBN := Lib.hid (pw_below_drewN HBP.out nq)
                  go_wp2
                  all_goals first
                    | (go_ret; exact RBq.no (below_tr HB.out (below_tr HB3.out HBN.out)))
                    | (go_roundw
                       case rel => exact ⟨j + 1, by go_num, by omega, ⟨HBN.out⟩⟩
                       case measure => simp [intOf]; omega)
                · go_wp2_with fail
                  go_quiet (fail)
                  have HBN := Lib.hid (pw_below_drewN HBP.out nq)
                  go_wp2
                  go_roundw
                  case rel => exact ⟨j + 1, by go_num, by omega, ⟨HBN.out⟩⟩
                  case measure => simp [intOf]; omega
              · go_wp2_with fail
                go_quiet (fail)
                have HBN := Lib.hid (pw_below_drewN HBP.out nq)
                go_wp2
                go_roundw
                case rel => exact ⟨j + 1, by go_num, by omega, ⟨HBN.out⟩⟩
                case measure => simp [intOf]; omega
            · go_wp2
              go_roundw
              case rel => exact ⟨k + 1, by go_num, by omega, ⟨HBP3.out⟩⟩
              case measure => simp [intOf]; omega
        · go_wp2
          go_ret
          exact ⟨true, rfl, fun _ => HALL.out, below_tr HB.out HBW.out⟩
end Go.Proofs.YtafigkikblpbnaaGreatDoor.PG
