/- report.Lines. The document's answer for the holds. The document's answer, class by class. Two lists of names that are the same. The page's example; no condition beyond each theorem its own. -/
import Derived.Test.YtafigkikblpbnaaGreatDoorZL12
import Derived.Test.YtafigkikblpbnaaGreatDoorZL16
import Derived.Test.YtafigkikblpbnaaGreatDoorZL17
import Derived.Test.YtafigkikblpbnaaGreatDoorZL13
import Derived.Test.YtafigkikblpbnaaGreatDoorZL14
import Derived.Test.YtafigkikblpbnaaGreatDoorZL15
import Derived.Test.YtafigkikblpbnaaGreatDoorZL07
import Derived.Test.YtafigkikblpbnaaGreatDoorZL04
namespace Go.Proofs.YtafigkikblpbnaaGreatDoor.PG
open Go.RowKit Go.Proofs.YtafigkikblpbnaaGreatDoorW.PrintWords Go.Proofs.YtafigkikblpbnaaGreatDoorW.PrintLast Go.Proofs.YtafigkikblpbnaaGreatDoorW.PrintMore
set_option linter.unusedVariables false
set_option linter.unusedSimpArgs false
set_option maxRecDepth 100000

set_option maxHeartbeats 8000000 in
/-- report.Lines. -/
theorem LinesP_any (s : S31) (A2 A3 A4 A5 A6 A7 A8 : Option Addr) (c2 c3 c4 c5 c6 c7 c8 : Nat) (W : World) (hs : Rs W s A2 A3 A4 A5 A6 A7 A8 c2 c3 c4 c5 c6 c7 c8) (hst : ∀ k : Nat, k < s.f5.length → 1 ≤ (rd_T48 s.f5 (k : Int)).f5 ∧ (rd_T48 s.f5 (k : Int)).f5 ≤ 4) (hz : ∀ r ∈ s.f5, r.f3.size ≤ 140737488351232) (h5 : s.f5.length ≤ 24) :
    Calls Tryz.prog 12 #[.agg #[.int .i64 s.f0, .int .u64 s.f1, .slice A2 s.f2.length c2, .slice A3 s.f3.length c3, .slice A4 s.f4.length c4, .slice A5 s.f5.length c5, .slice A6 s.f6.length c6, .slice A7 s.f7.length c7, .slice A8 s.f8.length c8, .int .i64 s.f9]] W (RNm (lnL s) W) := by
  have HB1 := Lib.hid (show Below W.heap.size W (W.alloc (.cells #[.int .i64 s.f0, .int .u64 s.f1, .slice A2 s.f2.length c2, .slice A3 s.f3.length c3, .slice A4 s.f4.length c4, .slice A5 s.f5.length c5, .slice A6 s.f6.length c6, .slice A7 s.f7.length c7, .slice A8 s.f8.length c8, .int .i64 s.f9] 31 (0, 0))) from below_alloc (Below.refl _ _) _)
  have HY1 := Lib.hid (new_blk W (.cells #[.int .i64 s.f0, .int .u64 s.f1, .slice A2 s.f2.length c2, .slice A3 s.f3.length c3, .slice A4 s.f4.length c4, .slice A5 s.f5.length c5, .slice A6 s.f6.length c6, .slice A7 s.f7.length c7, .slice A8 s.f8.length c8, .int .i64 s.f9] 31 (0, 0)))
  have HS1 := Lib.hid (hs.below HB1.out)
  have z1 : (W.alloc (.cells #[.int .i64 s.f0, .int .u64 s.f1, .slice A2 s.f2.length c2, .slice A3 s.f3.length c3, .slice A4 s.f4.length c4, .slice A5 s.f5.length c5, .slice A6 s.f6.length c6, .slice A7 s.f7.length c7, .slice A8 s.f8.length c8, .int .i64 s.f9] 31 (0, 0))).heap.size = W.heap.size + 1 := by show (W.heap.push _).size = _; rw [Array.size_push]
  have z2 : ((W.alloc (.cells #[.int .i64 s.f0, .int .u64 s.f1, .slice A2 s.f2.length c2, .slice A3 s.f3.length c3, .slice A4 s.f4.length c4, .slice A5 s.f5.length c5, .slice A6 s.f6.length c6, .slice A7 s.f7.length c7, .slice A8 s.f8.length c8, .int .i64 s.f9] 31 (0, 0))).alloc (.cells #[.int .i64 0, .int .i64 0, .int .i64 0, .int .i64 0] 65 (0, 0))).heap.size = W.heap.size + 2 := by show ((W.alloc (.cells #[.int .i64 s.f0, .int .u64 s.f1, .slice A2 s.f2.length c2, .slice A3 s.f3.length c3, .slice A4 s.f4.length c4, .slice A5 s.f5.length c5, .slice A6 s.f6.length c6, .slice A7 s.f7.length c7, .slice A8 s.f8.length c8, .int .i64 s.f9] 31 (0, 0))).heap.push _).size = _; rw [Array.size_push, z1]
  have z3 : (((W.alloc (.cells #[.int .i64 s.f0, .int .u64 s.f1, .slice A2 s.f2.length c2, .slice A3 s.f3.length c3, .slice A4 s.f4.length c4, .slice A5 s.f5.length c5, .slice A6 s.f6.length c6, .slice A7 s.f7.length c7, .slice A8 s.f8.length c8, .int .i64 s.f9] 31 (0, 0))).alloc (.cells #[.int .i64 0, .int .i64 0, .int .i64 0, .int .i64 0] 65 (0, 0))).alloc (.map #[] 0)).heap.size = W.heap.size + 3 := by show (((W.alloc (.cells #[.int .i64 s.f0, .int .u64 s.f1, .slice A2 s.f2.length c2, .slice A3 s.f3.length c3, .slice A4 s.f4.length c4, .slice A5 s.f5.length c5, .slice A6 s.f6.length c6, .slice A7 s.f7.length c7, .slice A8 s.f8.length c8, .int .i64 s.f9] 31 (0, 0))).alloc (.cells #[.int .i64 0, .int .i64 0, .int .i64 0, .int .i64 0] 65 (0, 0))).heap.push _).size = _; rw [Array.size_push, z2]
  have g2 : ((W.alloc (.cells #[.int .i64 s.f0, .int .u64 s.f1, .slice A2 s.f2.length c2, .slice A3 s.f3.length c3, .slice A4 s.f4.length c4, .slice A5 s.f5.length c5, .slice A6 s.f6.length c6, .slice A7 s.f7.length c7, .slice A8 s.f8.length c8, .int .i64 s.f9] 31 (0, 0))).alloc (.cells #[.int .i64 0, .int .i64 0, .int .i64 0, .int .i64 0] 65 (0, 0))).heap[W.heap.size + 1]? = some (.cells #[.int .i64 0, .int .i64 0, .int .i64 0, .int .i64 0] 65 (0, 0)) := by have h_ := new_blk (W.alloc (.cells #[.int .i64 s.f0, .int .u64 s.f1, .slice A2 s.f2.length c2, .slice A3 s.f3.length c3, .slice A4 s.f4.length c4, .slice A5 s.f5.length c5, .slice A6 s.f6.length c6, .slice A7 s.f7.length c7, .slice A8 s.f8.length c8, .int .i64 s.f9] 31 (0, 0))) (.cells #[.int .i64 0, .int .i64 0, .int .i64 0, .int .i64 0] 65 (0, 0)); rw [z1] at h_; exact h_
  obtain ⟨W3, hW3⟩ : ∃ W3, (((W.alloc (.cells #[.int .i64 s.f0, .int .u64 s.f1, .slice A2 s.f2.length c2, .slice A3 s.f3.length c3, .slice A4 s.f4.length c4, .slice A5 s.f5.length c5, .slice A6 s.f6.length c6, .slice A7 s.f7.length c7, .slice A8 s.f8.length c8, .int .i64 s.f9] 31 (0, 0))).alloc (.cells #[.int .i64 0, .int .i64 0, .int .i64 0, .int .i64 0] 65 (0, 0))).alloc (.map #[] 0)) = W3 := ⟨_, rfl⟩
  have HB3 := Lib.hid (show Below (W.heap.size + 1) (W.alloc (.cells #[.int .i64 s.f0, .int .u64 s.f1, .slice A2 s.f2.length c2, .slice A3 s.f3.length c3, .slice A4 s.f4.length c4, .slice A5 s.f5.length c5, .slice A6 s.f6.length c6, .slice A7 s.f7.length c7, .slice A8 s.f8.length c8, .int .i64 s.f9] 31 (0, 0))) W3 by rw [← hW3, ← z1]; exact below_alloc (below_alloc (Below.refl _ _) _) _)
  have HG3 := Lib.hid (show W3.heap[(W.heap.size + 1)]? = some (tal (stN (cls true ⟨#[]⟩) (s.f5.take 0))) by rw [← hW3]; exact blk_alloc g2 _)
  have HM3 := Lib.hid (show HasP W3 (W.heap.size + 1 + 1) 0 (fun _ => none) by have h_ := HasP.made ((W.alloc (.cells #[.int .i64 s.f0, .int .u64 s.f1, .slice A2 s.f2.length c2, .slice A3 s.f3.length c3, .slice A4 s.f4.length c4, .slice A5 s.f5.length c5, .slice A6 s.f6.length c6, .slice A7 s.f7.length c7, .slice A8 s.f8.length c8, .int .i64 s.f9] 31 (0, 0))).alloc (.cells #[.int .i64 0, .int .i64 0, .int .i64 0, .int .i64 0] 65 (0, 0))); rw [z2, hW3] at h_; exact h_)
  have HY3 := Lib.hid (show W3.heap[W.heap.size]? = some (.cells #[.int .i64 s.f0, .int .u64 s.f1, .slice A2 s.f2.length c2, .slice A3 s.f3.length c3, .slice A4 s.f4.length c4, .slice A5 s.f5.length c5, .slice A6 s.f6.length c6, .slice A7 s.f7.length c7, .slice A8 s.f8.length c8, .int .i64 s.f9] 31 (0, 0)) by rw [← hW3]; exact blk_alloc (blk_alloc HY1.out _) _)
  have HSZ3 := Lib.hid (show W3.heap.size = W.heap.size + 3 by rw [← hW3]; exact z3)
  have HW3 := Lib.hid hW3
  have HST := Lib.hid hst
  have HZ1 := Lib.hid z1
  have HZ := Lib.hid hz
  have h52 : (s.f5.length : Int) ≤ 24 := by omega
  have hmm := @run_makeMap Tryz.prog
  have q5 : (((W.alloc (.cells #[.int .i64 s.f0, .int .u64 s.f1, .slice A2 s.f2.length c2, .slice A3 s.f3.length c3, .slice A4 s.f4.length c4, .slice A5 s.f5.length c5, .slice A6 s.f6.length c6, .slice A7 s.f7.length c7, .slice A8 s.f8.length c8, .int .i64 s.f9] 31 (0, 0))).alloc (.cells #[.int .i64 0, .int .i64 0, .int .i64 0, .int .i64 0] 65 (0, 0))).alloc (.map #[] 0)).cell? ⟨W.heap.size, 5, none⟩ = some (.slice A5 s.f5.length c5) := by rw [hW3]; exact (blk_cell HY3.out 5).trans rfl
  clear hs hst hz z1 z2 z3 g2 hW3
  go_enter Tryz.func12, Tryz.ntmps12
  go_wp2
  rw [HW3.out]
  clear HW3 q5 hmm
  generalize (W.alloc (.cells #[.int .i64 s.f0, .int .u64 s.f1, .slice A2 s.f2.length c2, .slice A3 s.f3.length c3, .slice A4 s.f4.length c4, .slice A5 s.f5.length c5, .slice A6 s.f6.length c6, .slice A7 s.f7.length c7, .slice A8 s.f8.length c8, .int .i64 s.f9] 31 (0, 0))) = W1_ at *
  have HR0 := Lib.hid (show LRel s W1_ (W.heap.size + 1) 0 (fun _ => none) (.slice none 0 0) W3 from ⟨Kd.R_nil _ _ _ _ _, HM3.out, TL.none_ _ _ _, HG3.out, HB3.out, by rw [HSZ3.out]; omega⟩)
  clear HM3 HG3 HSZ3 HY3
  go_loopw [5, 15] (fun v5 v15 wr => ∃ (k : Nat) (T : ByteArray → Option Nat), v15 = .int .i64 k ∧ k ≤ s.f5.length ∧ Aside0 (LRel s W1_ (W.heap.size + 1) k T v5 wr)) (fun _ v15 _ => s.f5.length - (intOf v15).toNat)
  case atStart => exact ⟨0, fun _ => none, rfl, Nat.zero_le _, ⟨HR0.out⟩⟩
  case round =>
    obtain ⟨k, T, rfl, hk, HR⟩ := hrel
    have HYR := Lib.hid ((HR.out.below.block W.heap.size (by omega)).trans HY1.out)
    have HSR := Lib.hid (HS1.out.below (show Below W1_.heap.size W1_ wr by rw [HZ1.out]; exact HR.out.below))
    by_cases hlt : k < s.f5.length
    · have hlt2 : (k : Int) < (s.f5.length : Int) := by omega
      obtain ⟨ad, e, h0, h1, h2, h3, h4, h5_⟩ := at_T48 HSR.out.g5 (k : Int) (by omega) (by omega)
      simp only [Int.toNat_natCast] at h0 h1 h2 h3 h4 h5_
      have hzz := (HZ.out _ (rd_mem48 hlt))
      have hss := HST.out k hlt
      obtain ⟨y, hy⟩ : ∃ y, rd_T48 s.f5 (k : Int) = y := ⟨_, rfl⟩
      rw [hy] at h0 h1 h2 h3 h4 h5_ hzz hss
      obtain ⟨r0, r1, r2, r3, r4, r5⟩ := y
      dsimp only at h0 h1 h2 h3 h4 h5_ hzz hss
      have HRD3 := Lib.hid (show (rd_T48 s.f5 (k : Int)).f3 = r3 by rw [hy])
      have HRD5 := Lib.hid (show (rd_T48 s.f5 (k : Int)).f5 = r5 by rw [hy])
      have HZY := Lib.hid (show r3.size ≤ maxLen by show r3.size ≤ 9223372036854775807; omega)
      have HSS := Lib.hid hss
      have HNL := Lib.hid (Nat.le_trans (nms_len s k) hk)
      have HN1 := Lib.hid (fun j => stN_le2 (cls true ⟨#[]⟩) (s.f5.take k) j 1000 (by rw [List.length_take]; omega))
      have HN2 := Lib.hid (fun j => stN_le2 (cls false r3) (s.f5.take k) j 1000 (by rw [List.length_take]; omega))
      subst e
      clear hy hzz hss
      obtain ⟨w3, hw3⟩ : ∃ w3, wr.alloc (.cells #[.string r0, .string r1, .string r2, .string r3, .int .i64 r4, .int .i64 r5] 48 (0, 0)) = w3 := ⟨_, rfl⟩
      have HB3_ := Lib.hid (show Below wr.heap.size wr w3 by rw [← hw3]; exact below_alloc (Below.refl _ _) _)
      have HX3 := Lib.hid (show w3.heap[wr.heap.size]? = some (.cells #[.string r0, .string r1, .string r2, .string r3, .int .i64 r4, .int .i64 r5] 48 (0, 0)) by rw [← hw3]; exact new_blk wr _)
      have HSZ3_ := Lib.hid (show w3.heap.size = wr.heap.size + 1 by rw [← hw3]; show (wr.heap.push _).size = _; rw [Array.size_push])
      have HPX := Lib.hid (HR.out.map.kept (grown_of_below HB3_.out none) (by simp))
      have y3 : (wr.alloc (.cells #[.string r0, .string r1, .string r2, .string r3, .int .i64 r4, .int .i64 r5] 48 (0, 0))).cell? ⟨wr.heap.size, 3, none⟩ = some (.string r3) := by rw [hw3]; exact (blk_cell HX3.out 3).trans rfl
      have hlk := HPX.out.lookup r3 HZY.out
      rw [← hw3] at hlk
      have HW3_ := Lib.hid hw3
      clear hw3
      rcases hT : T r3 with _ | g
      · have HTX := Lib.hid hT
        rw [hT] at hlk
        clear hT
        unfold ptrV at hlk
        obtain ⟨w4, hw4⟩ : ∃ w4, w3.alloc (.cells #[.int .i64 0, .int .i64 0, .int .i64 0, .int .i64 0] 65 (0, 0)) = w4 := ⟨_, rfl⟩
        have HB4_ := Lib.hid (show Below wr.heap.size wr w4 by rw [← hw4]; exact below_alloc HB3_.out _)
        have HX4 := Lib.hid (show w4.heap[wr.heap.size]? = some (.cells #[.string r0, .string r1, .string r2, .string r3, .int .i64 r4, .int .i64 r5] 48 (0, 0)) by rw [← hw4]; exact blk_alloc HX3.out _)
        have HT4 := Lib.hid (show w4.heap[wr.heap.size + 1]? = some (tal (fun _ => 0)) by rw [← hw4, ← HSZ3_.out]; exact new_blk w3 _)
        have HP4 := Lib.hid (HR.out.map.kept (grown_of_below HB4_.out none) (by simp))
        obtain ⟨w5, hup, hp5, hg5⟩ := HP4.out.put (by have := HNL.out; show (nms s k).length < 9223372036854775807; omega) r3 HZY.out (wr.heap.size + 1)
        rw [← hw4, ← HW3_.out] at hup
        have HP5 := Lib.hid hp5
        have HG5 := Lib.hid hg5
        have HMID := Lib.hid (HR.out.mid HB4_.out hg5)
        have yb : w5.heap[wr.heap.size]? = some (.cells #[.string r0, .string r1, .string r2, .string r3, .int .i64 r4, .int .i64 r5] 48 (0, 0)) := (hg5.block _ (blk_lt HX4.out) (by have := HR.out.size; simp; omega)).trans HX4.out
        have y5 : w5.cell? ⟨wr.heap.size, 3, none⟩ = some (.string r3) := (blk_cell yb 3).trans rfl
        clear hw4 hp5 hg5 yb
        go_wp2_with ((with_reducible refine gate_builtin (b := .append) (xs := #[.tmp 29, .tmp 32]) rfl ?_); at_builtin; refine Kd.R_append Kd.string (w0 := W1_) (W.heap.size + 1) rfl (.tmp 29) (.tmp 32) 34 9 (.string ⟨#[]⟩) 16 rfl Tryz.underlying34 info9 rfl (by decide) (by omega) u5 (nms s k) r3 [.string r3] (fun k_ => W.heap.size + 1 + 2 ≤ k_) (fun _ => False) rfl rfl rfl (fun _ hk => hk.elim) (fun b_ hb_ => by have := HMID.out.2.2; omega) HMID.out.1 HMID.out.2.1 (by have := HMID.out.2.2; omega) (by have := HNL.out; omega) ?_; intro v9 w6 ho hb hg hat; clear hat; have HG6 := Lib.hid hg; have HO6 := Lib.hid ho; have HB6 := Lib.hid hb; have HX6 := Lib.hid (HR.out.kept HB4_.out.size HG5.out hg (Nat.le_refl _) HX4.out); have HT6 := Lib.hid (HR.out.kept HB4_.out.size HG5.out hg (Nat.le_succ _) HT4.out); have HP6 := Lib.hid (HP5.out.kept hg (fun e_ => by have := HR.out.names.1 _ e_.symm; omega)); have hlk6 : (Instr.lookup 66 (.map (some (W.heap.size + 1 + 1))) (.string r3) false).run Tryz.prog w6 = .ok (.pointer (some ⟨wr.heap.size + 1, 0, none⟩)) w6 := (HP6.out.lookup r3 HZY.out).trans (by simp [ptrV]); have x0 : w6.cell? ⟨wr.heap.size, 0, none⟩ = some (.string r0) := (blk_cell HX6.out 0).trans rfl; have x1 : w6.cell? ⟨wr.heap.size, 1, none⟩ = some (.string r1) := (blk_cell HX6.out 1).trans rfl; have x2 : w6.cell? ⟨wr.heap.size, 2, none⟩ = some (.string r2) := (blk_cell HX6.out 2).trans rfl; have x3 : w6.cell? ⟨wr.heap.size, 3, none⟩ = some (.string r3) := (blk_cell HX6.out 3).trans rfl; have x4 : w6.cell? ⟨wr.heap.size, 4, none⟩ = some (.int .i64 r4) := (blk_cell HX6.out 4).trans rfl; have x5 : w6.cell? ⟨wr.heap.size, 5, none⟩ = some (.int .i64 r5) := (blk_cell HX6.out 5).trans rfl; clear ho hb hg)
        refine (add_eq (wr.heap.size + 1) (fun _ => 0) (fun _ => Nat.zero_le _) ⟨r0, r1, r2, r3, r4, r5⟩ HSS.out w6 HT6.out).mono ?_
        rintro e w7 ⟨rfl, hn, hgr⟩
        have HN7 := Lib.hid hn
        have HGR7 := Lib.hid hgr
        have HXB := Lib.hid ((hgr.block wr.heap.size (blk_lt HX6.out) (by simp)).trans HX6.out)
        have HG0 := Lib.hid (show w7.heap[(W.heap.size + 1)]? = some (tal (stN (cls true ⟨#[]⟩) (s.f5.take k))) by
          have hbl := blk_lt HR.out.all
          have hs4 := HB4_.out.size
          have hs5 := HG5.out.size
          have hs6 := HG6.out.size
          rw [hgr.block _ (by omega) (by have := HR.out.size; simp; omega), HG6.out.block _ (by omega) (fun e_ => by have := HR.out.names.1 _ e_.symm; omega), HG5.out.block _ (by omega) (by simp), HB4_.out.block _ hbl]
          exact HR.out.all)
        clear hn hgr hlk y3 h0 h1 h2 h3 h4 h5_ x0 x1 x2 x3 x4 x5 hlk6 hup y5
        have x0 : (w7).cell? ⟨wr.heap.size, 0, none⟩ = some (.string r0) := (blk_cell HXB.out 0).trans rfl
        have x1 : (w7).cell? ⟨wr.heap.size, 1, none⟩ = some (.string r1) := (blk_cell HXB.out 1).trans rfl
        have x2 : (w7).cell? ⟨wr.heap.size, 2, none⟩ = some (.string r2) := (blk_cell HXB.out 2).trans rfl
        have x3 : (w7).cell? ⟨wr.heap.size, 3, none⟩ = some (.string r3) := (blk_cell HXB.out 3).trans rfl
        have x4 : (w7).cell? ⟨wr.heap.size, 4, none⟩ = some (.int .i64 r4) := (blk_cell HXB.out 4).trans rfl
        have x5 : (w7).cell? ⟨wr.heap.size, 5, none⟩ = some (.int .i64 r5) := (blk_cell HXB.out 5).trans rfl
        go_wp2_with fail
        refine (add_eq (W.heap.size + 1) (stN (cls true ⟨#[]⟩) (s.f5.take k)) HN1.out ⟨r0, r1, r2, r3, r4, r5⟩ HSS.out w7 HG0.out).mono ?_
        rintro e w8 ⟨rfl, hn, hgr⟩
        have HFIN := Lib.hid (HR.out.new hlt HRD3.out HRD5.out HTX.out HB4_.out (Nat.le_succ _) (blk_lt HT4.out) HG5.out HP5.out HG6.out HB6.out HO6.out HT6.out HGR7.out HN7.out hgr hn)
        clear hn hgr x0 x1 x2 x3 x4 x5
        go_wp2
        go_roundw
        case rel => exact ⟨k + 1, _, by go_num, by omega, ⟨HFIN.out⟩⟩
        case measure => simp [intOf]; omega
      · have HTX := Lib.hid hT
        rw [hT] at hlk
        clear hT
        unfold ptrV at hlk
        have HTS := Lib.hid (HR.out.tl.some_ HTX.out)
        have HG3_ := Lib.hid ((HB3_.out.block g (blk_lt HTS.out.2.2)).trans HTS.out.2.2)
        go_wp2_with fail
        rw [HW3_.out]
        refine (add_eq g (stN (cls false r3) (s.f5.take k)) HN2.out ⟨r0, r1, r2, r3, r4, r5⟩ HSS.out w3 HG3_.out).mono ?_
        rintro e w4 ⟨rfl, hn, hgr⟩
        have HN4 := Lib.hid hn
        have HGR4 := Lib.hid hgr
        have HXB := Lib.hid ((hgr.block wr.heap.size (blk_lt HX3.out) (by have := blk_lt HTS.out.2.2; simp; omega)).trans HX3.out)
        have HG0 := Lib.hid (show w4.heap[(W.heap.size + 1)]? = some (tal (stN (cls true ⟨#[]⟩) (s.f5.take k))) by
          have hbl := blk_lt HR.out.all
          rw [hgr.block _ (by have := HSZ3_.out; omega) (by have := HTS.out.2.1; simp; omega), HB3_.out.block _ hbl]
          exact HR.out.all)
        clear hn hgr hlk y3 h0 h1 h2 h3 h4 h5_
        have x0 : (w4).cell? ⟨wr.heap.size, 0, none⟩ = some (.string r0) := (blk_cell HXB.out 0).trans rfl
        have x1 : (w4).cell? ⟨wr.heap.size, 1, none⟩ = some (.string r1) := (blk_cell HXB.out 1).trans rfl
        have x2 : (w4).cell? ⟨wr.heap.size, 2, none⟩ = some (.string r2) := (blk_cell HXB.out 2).trans rfl
        have x3 : (w4).cell? ⟨wr.heap.size, 3, none⟩ = some (.string r3) := (blk_cell HXB.out 3).trans rfl
        have x4 : (w4).cell? ⟨wr.heap.size, 4, none⟩ = some (.int .i64 r4) := (blk_cell HXB.out 4).trans rfl
        have x5 : (w4).cell? ⟨wr.heap.size, 5, none⟩ = some (.int .i64 r5) := (blk_cell HXB.out 5).trans rfl
        go_wp2_with fail
        refine (add_eq (W.heap.size + 1) (stN (cls true ⟨#[]⟩) (s.f5.take k)) HN1.out ⟨r0, r1, r2, r3, r4, r5⟩ HSS.out w4 HG0.out).mono ?_
        rintro e w5 ⟨rfl, hn, hgr⟩
        have HFIN := Lib.hid (HR.out.old hlt HRD3.out HRD5.out HTX.out HB3_.out HGR4.out HN4.out hgr hn)
        clear hn hgr x0 x1 x2 x3 x4 x5
        go_wp2
        go_roundw
        case rel => exact ⟨k + 1, T, by go_num, by omega, ⟨HFIN.out⟩⟩
        case measure => simp [intOf]; omega
    · have hk2 : k = s.f5.length := by omega
      subst hk2
      have HLN := Lib.hid (nms_len s s.f5.length)
      have HSO := Lib.hid (sort_any HR.out.names (by have := HLN.out; omega))
      go_wp2_with fail
      refine HSO.out.mono ?_
      rintro e wS ⟨rfl, hso, hsg⟩
      have HOWN := Lib.hid HR.out.names.1
      have HPS := Lib.hid (HR.out.map.kept hsg (fun e_ => by have := HOWN.out _ e_.symm; omega))
      have HTS := Lib.hid (HR.out.tl.move (w1 := wS) (fun g f hg hb => hsg.block g (blk_lt hb) (fun e_ => Kd.R_ne HR.out.names hb (by decide) e_)))
      have HAS := Lib.hid ((hsg.block (W.heap.size + 1) (blk_lt HR.out.all) (fun e_ => by have := HOWN.out _ e_.symm; omega)).trans HR.out.all)
      have HBS := Lib.hid (show Below W.heap.size W wS from ⟨hsg.os.trans (HR.out.below.os.trans HB1.out.os), hsg.tape.trans (HR.out.below.tape.trans HB1.out.tape), hsg.output.trans (HR.out.below.output.trans HB1.out.output), by have := hsg.size; have := HR.out.below.size; have := HB1.out.size; omega, fun b hb => by
        rw [hsg.block b (by have := HR.out.size; omega) (fun e_ => by have := HOWN.out _ e_.symm; omega), HR.out.below.block b (by omega)]
        exact HB1.out.block b hb⟩)
      rw [List.take_length] at HAS
      obtain ⟨AM, cM, hv, hlM, hCM⟩ := Kd.R_reads hso
      have HMN := Lib.hid (show lnL s = (ordN (nms s s.f5.length)).map (lnC s) ++ [(⟨#[97, 108, 108, 32]⟩ : ByteArray) ++ tx4 (stN (cls true ⟨#[]⟩) s.f5)] from rfl)
      have HMM := Lib.hid (show ∀ c ∈ ordN (nms s s.f5.length), c.size ≤ 140737488351232 ∧ ∃ g, T c = some g ∧ wS.heap[g]? = some (tal (stN (cls false c) s.f5)) from fun c hc => by
        have hc2 := (ordN_perm _).mem_iff.1 hc
        obtain ⟨r, hr, e_⟩ := nms_mem s _ (Nat.le_refl _) c hc2
        obtain ⟨g, e1, _, e2⟩ := HTS.out.yes c hc2
        rw [List.take_length] at e2
        exact ⟨e_ ▸ HZ.out r hr, g, e1, e2⟩)
      have HML := Lib.hid (show (ordN (nms s s.f5.length)).length ≤ 24 by rw [ordN_len]; have := HLN.out; omega)
      have HCM := Lib.hid hCM
      have HTL1 := Lib.hid (fun j => stN_le2 (cls true ⟨#[]⟩) s.f5 j 99 (by omega))
      have HTL2 := Lib.hid (fun c j => stN_le2 (cls false c) s.f5 j 99 (by omega))
      generalize ordN (nms s s.f5.length) = M at *
      subst hv
      clear hso hsg hlM hCM HSO HTS HOWN
      have hml : (M.length : Int) ≤ 24 := by have := HML.out; omega
      generalize wr = wq at *
      go_wp2
      go_loopw [8, 47] (fun v8 v47 wr => ∃ j : Nat, v47 = .int .i64 j ∧ j ≤ M.length ∧ Aside0 (Kd.R Kd.string 9 wr wS.heap.size (fun _ => True) v8 ((M.take j).map (lnC s))) ∧ Aside0 (Below wS.heap.size wS wr)) (fun _ v47 _ => M.length - (intOf v47).toNat)
      case atStart => exact ⟨0, rfl, Nat.zero_le _, ⟨Kd.R_nil _ _ _ _ _⟩, ⟨Below.refl _ _⟩⟩
      case round =>
        obtain ⟨j, rfl, hj, HO, HBW⟩ := hrel
        by_cases hjt : j < M.length
        · have hjt2 : (j : Int) < (M.length : Int) := by omega
          obtain ⟨adm, e, hc0⟩ := Kd.at_string (Kd.C_below HCM.out HBW.out) (j : Int) (by omega) (by omega)
          subst e
          simp only [Int.toNat_natCast] at hc0
          have hcm : rdOf ByteArray.empty M (j : Int) = M[j] := by unfold rdOf; rw [Int.toNat_natCast, List.getD_eq_getElem?_getD, List.getElem?_eq_getElem hjt]; rfl
          have HTK := Lib.hid (show M.take (j + 1) = M.take j ++ [rdOf ByteArray.empty M (j : Int)] by rw [hcm, List.take_succ_eq_append_getElem hjt])
          obtain ⟨hzc, g, hTc, hgb⟩ := HMM.out (rdOf ByteArray.empty M (j : Int)) (by rw [hcm]; exact List.getElem_mem _)
          clear hcm
          generalize rdOf ByteArray.empty M (j : Int) = c at *
          have hlk := (HPS.out.kept (grown_of_below HBW.out none) (by simp)).lookup c (by show c.size ≤ 9223372036854775807; omega)
          rw [hTc] at hlk
          unfold ptrV at hlk
          have hgw := (HBW.out.block g (blk_lt hgb)).trans hgb
          have HTE := Lib.hid (show Calls Tryz.prog 30 #[.agg #[.int .i64 (stN (cls false c) s.f5 1 : Nat), .int .i64 (stN (cls false c) s.f5 2 : Nat), .int .i64 (stN (cls false c) s.f5 3 : Nat), .int .i64 (stN (cls false c) s.f5 4 : Nat)]] wr fun e w' => e = .returned (.string (tx4 (stN (cls false c) s.f5))) ∧ Below wr.heap.size wr w' from text_eq _ _ _ _ (by have := HTL2.out c 1; omega) (by have := HTL2.out c 2; omega) (by have := HTL2.out c 3; omega) (by have := HTL2.out c 4; omega) wr)
          have HLC := Lib.hid (show lnC s c = (⟨#[99, 108, 97, 115, 115, 32]⟩ : ByteArray) ++ c ++ (⟨#[32]⟩ : ByteArray) ++ tx4 (stN (cls false c) s.f5) from rfl)
          have x0 : wr.cell? ⟨g, 0, none⟩ = some (.int .i64 (stN (cls false c) s.f5 1 : Nat)) := (blk_cell hgw 0).trans rfl
          have x1 : wr.cell? ⟨g, 1, none⟩ = some (.int .i64 (stN (cls false c) s.f5 2 : Nat)) := (blk_cell hgw 1).trans rfl
          have x2 : wr.cell? ⟨g, 2, none⟩ = some (.int .i64 (stN (cls false c) s.f5 3 : Nat)) := (blk_cell hgw 2).trans rfl
          have x3 : wr.cell? ⟨g, 3, none⟩ = some (.int .i64 (stN (cls false c) s.f5 4 : Nat)) := (blk_cell hgw 3).trans rfl
          have zt := tx4_size (stN (cls false c) s.f5)
          generalize tx4 (stN (cls false c) s.f5) = tx at *
          generalize stN (cls false c) s.f5 1 = a1 at *
          generalize stN (cls false c) s.f5 2 = a2 at *
          generalize stN (cls false c) s.f5 3 = a3 at *
          generalize stN (cls false c) s.f5 4 = a4 at *
          have d0 : ¬ 9223372036854775807 < 6 + c.size := by omega
          have d1 : ¬ 9223372036854775807 < 6 + c.size + 1 := by omega
          have d2 : ¬ 9223372036854775807 < 6 + c.size + 1 + tx.size := by omega
          clear hgb hgw hTc zt
          go_wp2_with (first | (go_at_call 30; refine HTE.out.mono ?_; rintro e w4 ⟨rfl, hb4⟩; have HO4 := Lib.hid (Kd.R_below HO.out hb4); have HB4 := Lib.hid (below_tr HBW.out hb4); clear hb4) | ((with_reducible refine gate_builtin (b := .append) (xs := #[.tmp 51, .tmp 62]) rfl ?_); at_builtin; refine Kd.R_append Kd.string (w0 := wS) wS.heap.size rfl (.tmp 51) (.tmp 62) 34 9 (.string ⟨#[]⟩) 16 rfl Tryz.underlying34 info9 rfl (by decide) (by omega) u8 ((M.take j).map (lnC s)) ((⟨#[99, 108, 97, 115, 115, 32]⟩ : ByteArray) ++ c ++ (⟨#[32]⟩ : ByteArray) ++ tx) [.string ((⟨#[99, 108, 97, 115, 115, 32]⟩ : ByteArray) ++ c ++ (⟨#[32]⟩ : ByteArray) ++ tx)] (fun _ => True) (fun _ => False) rfl rfl rfl (fun _ hk => hk.elim) (fun _ _ => trivial) HO4.out HB4.out HB4.out.size (by rw [List.length_map]; (try rw [List.length_take]); have := HML.out; omega) ?_; intro v9 w5 ho hb hg hat; clear hg hat))
          go_roundw
          case rel => exact ⟨j + 1, by go_num, by omega, ⟨by rw [HTK.out, List.map_append, List.map_cons, List.map_nil, HLC.out]; exact ho⟩, ⟨hb⟩⟩
          case measure => simp [intOf]; omega
        · have hj2 : j = M.length := by omega
          subst hj2
          rw [List.take_length] at HO
          have hgw := (HBW.out.block (W.heap.size + 1) (blk_lt HAS.out)).trans HAS.out
          have HTE := Lib.hid (show Calls Tryz.prog 30 #[.agg #[.int .i64 (stN (cls true ⟨#[]⟩) s.f5 1 : Nat), .int .i64 (stN (cls true ⟨#[]⟩) s.f5 2 : Nat), .int .i64 (stN (cls true ⟨#[]⟩) s.f5 3 : Nat), .int .i64 (stN (cls true ⟨#[]⟩) s.f5 4 : Nat)]] wr fun e w' => e = .returned (.string (tx4 (stN (cls true ⟨#[]⟩) s.f5))) ∧ Below wr.heap.size wr w' from text_eq _ _ _ _ (by have := HTL1.out 1; omega) (by have := HTL1.out 2; omega) (by have := HTL1.out 3; omega) (by have := HTL1.out 4; omega) wr)
          have x0 : wr.cell? ⟨(W.heap.size + 1), 0, none⟩ = some (.int .i64 (stN (cls true ⟨#[]⟩) s.f5 1 : Nat)) := (blk_cell hgw 0).trans rfl
          have x1 : wr.cell? ⟨(W.heap.size + 1), 1, none⟩ = some (.int .i64 (stN (cls true ⟨#[]⟩) s.f5 2 : Nat)) := (blk_cell hgw 1).trans rfl
          have x2 : wr.cell? ⟨(W.heap.size + 1), 2, none⟩ = some (.int .i64 (stN (cls true ⟨#[]⟩) s.f5 3 : Nat)) := (blk_cell hgw 2).trans rfl
          have x3 : wr.cell? ⟨(W.heap.size + 1), 3, none⟩ = some (.int .i64 (stN (cls true ⟨#[]⟩) s.f5 4 : Nat)) := (blk_cell hgw 3).trans rfl
          have zt := tx4_size (stN (cls true ⟨#[]⟩) s.f5)
          generalize tx4 (stN (cls true ⟨#[]⟩) s.f5) = tx at *
          generalize stN (cls true ⟨#[]⟩) s.f5 1 = a1 at *
          generalize stN (cls true ⟨#[]⟩) s.f5 2 = a2 at *
          generalize stN (cls true ⟨#[]⟩) s.f5 3 = a3 at *
          generalize stN (cls true ⟨#[]⟩) s.f5 4 = a4 at *
          have d0 : ¬ 9223372036854775807 < 4 + tx.size := by omega
          clear hgw zt
          go_wp2_with (first | (go_at_call 30; refine HTE.out.mono ?_; rintro e w4 ⟨rfl, hb4⟩; have HO4 := Lib.hid (Kd.R_below HO.out hb4); have HB4 := Lib.hid (below_tr HBW.out hb4); clear hb4) | ((with_reducible refine gate_builtin (b := .append) (xs := #[.tmp 65, .tmp 69]) rfl ?_); at_builtin; refine Kd.R_append Kd.string (w0 := wS) wS.heap.size rfl (.tmp 65) (.tmp 69) 34 9 (.string ⟨#[]⟩) 16 rfl Tryz.underlying34 info9 rfl (by decide) (by omega) u8 (M.map (lnC s)) ((⟨#[97, 108, 108, 32]⟩ : ByteArray) ++ tx) [.string ((⟨#[97, 108, 108, 32]⟩ : ByteArray) ++ tx)] (fun _ => True) (fun _ => False) rfl rfl rfl (fun _ hk => hk.elim) (fun _ _ => trivial) HO4.out HB4.out HB4.out.size (by rw [List.length_map]; (try rw [List.length_take]); have := HML.out; omega) ?_; intro v9 w5 ho hb hg hat; clear hg hat); obtain ⟨AR, cR, hvr, hlr, hcr⟩ := Kd.R_reads ho; subst hvr; have HF := Lib.hid (And.intro hlr (And.intro hcr (below_tr HBS.out hb))); clear hlr hcr ho hb)
          go_ret
          rw [← HMN.out] at HF
          refine ⟨AR, cR, ?_, HF.out.1, HF.out.2.1, HF.out.2.2⟩
          rw [HMN.out, List.length_append, List.length_map]
          rfl
end Go.Proofs.YtafigkikblpbnaaGreatDoor.PG
namespace Go.Proofs.YtafigkikblpbnaaGreatDoor.PG
open Go.RowKit Go.Proofs.YtafigkikblpbnaaGreatDoorW.PrintWords Go.Proofs.YtafigkikblpbnaaGreatDoorW.PrintLast Go.Proofs.YtafigkikblpbnaaGreatDoorW.PrintMore
set_option linter.unusedVariables false
set_option linter.unusedSimpArgs false
set_option maxRecDepth 100000
theorem tab17_10 : rtab .any (opsOf Tryz.f17 10) = (true, [([], []), ([0], [0]), ([], []), ([1, 2], [1, 2]), ([3], [3]), ([4], [4]), ([5], [5]), ([6], [6]), ([7], [7]), ([8, 7], [7, 8]), ([7], [7]), ([9, 10, 7], [7, 9, 10]), ([11, 7], [7, 11]), ([12, 7], [7, 12]), ([7], [7]), ([14, 7], [7, 14]), ([7], [7]), ([15, 16, 7], [7, 15, 16]), ([17, 7], [7, 17]), ([13, 18, 7, 7], [7, 13, 18]), ([19, 7], [7, 19]), ([7, 20], [7, 20])]) := by kernel_rfl
theorem tab17_12 : rtab .any (opsOf Tryz.f17 12) = (true, [([], []), ([0], [0]), ([], []), ([2], [2]), ([], []), ([3, 4], [3, 4]), ([5], [5]), ([1, 6], [1, 6]), ([7], [7]), ([8], [8])]) := by kernel_rfl
theorem tab17_14 : rtab .any (opsOf Tryz.f17 14) = (true, [([], []), ([], []), ([1], [1]), ([], []), ([2, 3], [2, 3]), ([4], [4]), ([5], [5]), ([6], [6]), ([], []), ([8], [8]), ([7, 9], [7, 9]), ([10], [10]), ([], []), ([12, 9], [12]), ([11, 13], [11, 13]), ([14], [14]), ([0, 15, 13], [0, 15]), ([16, 16, 0, 1, 2, 3, 4, 5, 6, 7, 8, 9, 10, 11, 12, 13, 14, 15, 16], [0, 16])]) := by kernel_rfl

set_option maxHeartbeats 8000000 in
/-- The document's answer: what is told of the holds. -/
theorem HoldsR_any (d : Nat) (s : S31) (A2 A3 A4 A5 A6 A7 A8 : Option Addr) (c2 c3 c4 c5 c6 c7 c8 : Nat) (W : World) (hs : Rs W s A2 A3 A4 A5 A6 A7 A8 c2 c3 c4 c5 c6 c7 c8) (hd : ∀ x ∈ s.f6, dp d x.f1) (hz : ∀ x ∈ s.f6, x.f0.size ≤ 140737488351232) (h6 : s.f6.length ≤ 30) (h5 : s.f5.length ≤ 24) :
    Calls Tryz.prog 17 #[.agg #[.int .i64 s.f0, .int .u64 s.f1, .slice A2 s.f2.length c2, .slice A3 s.f3.length c3, .slice A4 s.f4.length c4, .slice A5 s.f5.length c5, .slice A6 s.f6.length c6, .slice A7 s.f7.length c7, .slice A8 s.f8.length c8, .int .i64 s.f9]] W (RNm (hls d s s.f6.length) W) := by
  have HB := Lib.hid (show Below W.heap.size W (W.alloc (.cells #[.int .i64 s.f0, .int .u64 s.f1, .slice A2 s.f2.length c2, .slice A3 s.f3.length c3, .slice A4 s.f4.length c4, .slice A5 s.f5.length c5, .slice A6 s.f6.length c6, .slice A7 s.f7.length c7, .slice A8 s.f8.length c8, .int .i64 s.f9] 31 (0, 0))) from below_alloc (Below.refl _ _) _)
  have HY := Lib.hid (new_blk W (.cells #[.int .i64 s.f0, .int .u64 s.f1, .slice A2 s.f2.length c2, .slice A3 s.f3.length c3, .slice A4 s.f4.length c4, .slice A5 s.f5.length c5, .slice A6 s.f6.length c6, .slice A7 s.f7.length c7, .slice A8 s.f8.length c8, .int .i64 s.f9] 31 (0, 0)))
  have HS := Lib.hid (hs.below HB.out)
  have HD := Lib.hid hd
  have HZ := Lib.hid hz
  have h62 : (s.f6.length : Int) ≤ 30 := by omega
  have h52 : (s.f5.length : Int) ≤ 24 := by omega
  clear hs hd hz
  go_enter Tryz.func17, Tryz.ntmps17
  go_wp2
  generalize W.alloc (.cells #[.int .i64 s.f0, .int .u64 s.f1, .slice A2 s.f2.length c2, .slice A3 s.f3.length c3, .slice A4 s.f4.length c4, .slice A5 s.f5.length c5, .slice A6 s.f6.length c6, .slice A7 s.f7.length c7, .slice A8 s.f8.length c8, .int .i64 s.f9] 31 (0, 0)) = W1 at *
  go_loopw [3, 4] (fun v3 v4 wr => ∃ (k : Nat), v4 = .int .i64 k ∧ k ≤ s.f6.length ∧ Aside0 (Kd.R Kd.string 9 wr W1.heap.size (fun _ => True) v3 (hls d s k)) ∧ Aside0 (Below W1.heap.size W1 wr)) (fun _ v4 _ => s.f6.length - (intOf v4).toNat)
  case atStart => exact ⟨0, rfl, Nat.zero_le _, ⟨Kd.R_nil _ _ _ _ _⟩, ⟨Below.refl _ _⟩⟩
  case round =>
    obtain ⟨k, rfl, hk, HO, HBW⟩ := hrel
    have HY2 := Lib.hid ((HBW.out.block W.heap.size (blk_lt HY.out)).trans HY.out)
    have q6 : wr.cell? ⟨W.heap.size, 6, none⟩ = some (.slice A6 s.f6.length c6) := (blk_cell HY2.out 6).trans rfl
    by_cases hlt : k < s.f6.length
    · have hlt2 : (k : Int) < (s.f6.length : Int) := by omega
      obtain ⟨ad, A9, c9, e, h0, h1, h2, h3, h4, h5_, h6_, hl4, hC4⟩ := at_T78 (HS.out.below HBW.out).g6 (k : Int) (by omega) (by omega)
      simp only [Int.toNat_natCast] at h0 h1 h2 h3 h4 h5_ h6_
      obtain ⟨adW, _, _, eW, h0W, _⟩ := at_T78 HS.out.g6 (k : Int) (by omega) (by omega)
      simp only [Int.toNat_natCast] at h0W
      obtain rfl : ad = adW := by injection e.symm.trans eW
      have H0W := Lib.hid h0W
      clear eW h0W
      have hdd := HD.out _ (rd_mem100 hlt)
      have hzz := HZ.out _ (rd_mem100 hlt)
      have HN := Lib.hid (show hls d s (k + 1) = hls d s k ++ (if (rd_T78 s.f6 (k : Int)).f2 = true then [hlL d s (rd_T78 s.f6 (k : Int))] else []) from rfl)
      have HLN := Lib.hid (Nat.le_trans (hls_len d s k) hk)
      generalize rd_T78 s.f6 (k : Int) = y at *
      subst e
      cases hf : y.f2
      · rw [hf] at h6_ HN
        go_wp2
        go_roundw
        case rel => exact ⟨k + 1, by go_num, by omega, ⟨by rw [HN.out]; simpa using HO.out⟩, ⟨HBW.out⟩⟩
        case measure => simp [intOf]; omega
      · rw [hf] at h6_
        have HN2 := Lib.hid (show hls d s (k + 1) = hls d s k ++ [hlL d s y] by rw [HN.out, hf]; rfl)
        clear HN
        have HC4 := Lib.hid hC4
        have HDD := Lib.hid hdd
        have HZZ := Lib.hid hzz
        have HL4 := Lib.hid hl4
        clear hC4 hdd hzz hl4
        have q5 : wr.cell? ⟨W.heap.size, 5, none⟩ = some (.slice A5 s.f5.length c5) := (blk_cell HY2.out 5).trans rfl
        go_wp2
        have HX := Lib.hid (And.intro h0 (And.intro h1 (And.intro h2 (And.intro h3 (And.intro h4 h5_)))))
        clear h0 h1 h2 h3 h4 h5_ h6_ q5 q6
        have HSB := Lib.hid (HS.out.below HBW.out)
        have HOL := Lib.hid (Kd.R_lt HO.out)
        generalize wr = w3 at *
        go_loopw [5, 6, 7] (fun v5 v6 v7 wr => ∃ m : Nat, v7 = .int .i64 m ∧ v5 = .int .i64 (cnP (gd d y) (s.f5.take m) : Nat) ∧ v6 = .int .i64 (cnP (gd1 d s y) (s.f5.take m) : Nat) ∧ m ≤ s.f5.length ∧ Aside0 (Below w3.heap.size w3 wr)) (fun _ _ v7 _ => s.f5.length - (intOf v7).toNat)
        case atStart => exact ⟨0, rfl, rfl, rfl, Nat.zero_le _, ⟨Below.refl _ _⟩⟩
        case round =>
          obtain ⟨m, rfl, rfl, rfl, hm, HBR⟩ := hrel
          have HYS := Lib.hid ((HBR.out.block W.heap.size (blk_lt HY2.out)).trans HY2.out)
          have q5 : wr.cell? ⟨W.heap.size, 5, none⟩ = some (.slice A5 s.f5.length c5) := (blk_cell HYS.out 5).trans rfl
          by_cases hlm : m < s.f5.length
          · have hlm2 : (m : Int) < (s.f5.length : Int) := by omega
            obtain ⟨adr, er, g0, g1, g2, g3, g4, g5⟩ := at_T48 (HSB.out.below HBR.out).g5 (m : Int) (by omega) (by omega)
            simp only [Int.toNat_natCast] at g0 g1 g2 g3 g4 g5
            subst er
            have HT := Lib.hid (take_rd48 hlm)
            have b1 := Lib.hid (Nat.le_trans (cnP_le (gd d y) (s.f5.take m)) (by rw [List.length_take]; omega : (s.f5.take m).length ≤ 24))
            have b2 := Lib.hid (Nat.le_trans (cnP_le (gd1 d s y) (s.f5.take m)) (by rw [List.length_take]; omega : (s.f5.take m).length ≤ 24))
            generalize rd_T48 s.f5 (m : Int) = r at *
            have HE1 := Lib.hid (show cnP (gd d y) (s.f5.take (m + 1)) = cnP (gd d y) (s.f5.take m) + (if gd d y r = true then 1 else 0) by rw [HT.out, cnP_snoc])
            have HE2 := Lib.hid (show cnP (gd1 d s y) (s.f5.take (m + 1)) = cnP (gd1 d s y) (s.f5.take m) + (if gd1 d s y r = true then 1 else 0) by rw [HT.out, cnP_snoc])
            have HG1 := Lib.hid (show gd d y r = (decide (r.f5 ≤ 2) && mt d y.f1 r) from rfl)
            have HG2 := Lib.hid (show gd1 d s y r = (gd d y r && decide ((onL d s.f6 r).length = 1)) from rfl)
            have HM := Lib.hid (fun w' (h : Below wr.heap.size wr w') => Lib.hid (matchR_any d y.f1 r A9 c9 w' HDD.out (Kd.C_below HC4.out (below_tr HBR.out h)) HL4.out))
            have HON := Lib.hid (fun w' (h : Below wr.heap.size wr w') => Lib.hid (On_any d s.f6 r (some ad) c6 w' HD.out (HSB.out.below (below_tr HBR.out h)).g6 (by omega)))
            generalize cnP (gd d y) (s.f5.take m) = n1 at *
            generalize cnP (gd1 d s y) (s.f5.take m) = n2 at *
            generalize (onL d s.f6 r).length = no at *
            generalize mt d y.f1 r = mm at *
            have hb1 := b1.out
            have hb2 := b2.out
            have hc1 : (n1 : Int) ≤ 24 := by omega
            have hc2 : (n2 : Int) ≤ 24 := by omega
            have q6 : wr.cell? ⟨W.heap.size, 6, none⟩ = some (.slice (some ad) s.f6.length c6) := (blk_cell HYS.out 6).trans rfl
            have h1 := below_cell HBR.out HX.out.2.1
            have h2 := below_cell HBR.out HX.out.2.2.1
            have h3 := below_cell HBR.out HX.out.2.2.2.1
            have h4 := below_cell HBR.out HX.out.2.2.2.2.1
            have h5_ := below_cell HBR.out HX.out.2.2.2.2.2
            by_cases h25 : r.f5 ≤ 2
            · have hg : decide (2 < r.f5) = false := decide_eq_false (by omega)
              rw [decide_eq_true h25, Bool.true_and] at HG1
              clear h25
              go_wp2_with fail
              refine WL.start (n := 22) (S := fun w' => Aside0 (Below wr.heap.size wr w') ∧ w'.cell? ⟨W.heap.size, 5, none⟩ = some (.slice (some adr) s.f5.length c5) ∧ w'.cell? ⟨W.heap.size, 6, none⟩ = some (.slice (some ad) s.f6.length c6) ∧ w'.cell? ⟨(ad.add (k * 7)).block, (ad.add (k * 7)).off + 1, none⟩ = some (.int .i64 y.f1.f0) ∧ w'.cell? ⟨(ad.add (k * 7)).block, (ad.add (k * 7)).off + 2, none⟩ = some (.string y.f1.f1) ∧ w'.cell? ⟨(ad.add (k * 7)).block, (ad.add (k * 7)).off + 3, none⟩ = some (.int .i64 y.f1.f2) ∧ w'.cell? ⟨(ad.add (k * 7)).block, (ad.add (k * 7)).off + 4, none⟩ = some (.int .i64 y.f1.f3) ∧ w'.cell? ⟨(ad.add (k * 7)).block, (ad.add (k * 7)).off + 5, none⟩ = some (.slice A9 y.f1.f4.length c9) ∧ w'.cell? (adr.add (m * 6)) = some (.string r.f0) ∧ w'.cell? ⟨(adr.add (m * 6)).block, (adr.add (m * 6)).off + 1, none⟩ = some (.string r.f1) ∧ w'.cell? ⟨(adr.add (m * 6)).block, (adr.add (m * 6)).off + 2, none⟩ = some (.string r.f2) ∧ w'.cell? ⟨(adr.add (m * 6)).block, (adr.add (m * 6)).off + 3, none⟩ = some (.string r.f3) ∧ w'.cell? ⟨(adr.add (m * 6)).block, (adr.add (m * 6)).off + 4, none⟩ = some (.int .i64 r.f4) ∧ w'.cell? ⟨(adr.add (m * 6)).block, (adr.add (m * 6)).off + 5, none⟩ = some (.int .i64 r.f5)) (ds := []) [false, false, false, false, false, false, false, false, false, false, false, false, false, false, false, false, false, false, false, false, false, false] (by kernel_rfl) rfl rfl ⟨⟨below_drew (Below.refl _ _)⟩, q5, q6, h1, h2, h3, h4, h5_, g0, g1, g2, g3, g4, g5⟩ (fun hHeld => ?_)
              refine WL.tab tab17_10 (fun HT_ => ?_)
              refine WL.more [0, 2, 1, 3, 4, 5, 6, 7, 8, 10, 14, 16, 9, 11, 12, 13, 15, 17, 18, 19, 20, 21] ?_
              repeat (first
                | (refine WL.off (lb' := ?_) (ys := ?_) rfl rfl (by rfl) ?_ HT_.out ?_ (fun _ _ _ h => h) ?_ ?_; rotate_left 2; (focus dsimp only [List.set_cons_zero, List.set_cons_succ]; rfl); (focus kernel_rfl); (focus dsimp only [List.set_cons_zero, List.set_cons_succ]; rfl))
                | (refine WL.pure (lb' := ?_) (v := ?_) (ys := ?_) rfl rfl (by rfl) ?_ HT_.out ?_ (fun _ _ _ h => h) ?_ ?_ ?_; rotate_left 3; (focus dsimp only [List.set_cons_zero, List.set_cons_succ]; rfl); (focus kernel_rfl); (focus intro w'; go_simp; with_reducible rfl); (focus dsimp only [List.set_cons_zero, List.set_cons_succ]; rfl))
                | (refine WL.take (lb' := ?_) (v := ?_) (ys := ?_) rfl rfl (by rfl) ?_ HT_.out ?_ (fun _ _ _ h => h) hHeld ?_ ?_ ?_; rotate_left 3; (focus dsimp only [List.set_cons_zero, List.set_cons_succ]; rfl); (focus kernel_rfl); (focus rintro w' ⟨s0, s1, s2, s3, s4, s5, s6, s7, s8, s9, s10, s11, s12, s13⟩; go_simp; with_reducible rfl); (focus dsimp only [List.set_cons_zero, List.set_cons_succ]; rfl))
                | (refine WL.one (lb' := ?_) rfl rfl ?_ HT_.out ?_ (by decide) (fun K hK => ?_); rotate_left; (focus dsimp only [List.set_cons_zero, List.set_cons_succ]; rfl); (focus kernel_rfl); first
                    | (refine goes_ Tryz.func37 (by kernel_rfl) rfl #[.agg #[.int .i64 y.f1.f0, .string y.f1.f1, .int .i64 y.f1.f2, .int .i64 y.f1.f3, .slice A9 y.f1.f4.length c9], .agg #[.string r.f0, .string r.f1, .string r.f2, .string r.f3, .int .i64 r.f4, .int .i64 r.f5]] (by rfl) rfl rfl (by simp only [List.map_toArray, List.map_cons, List.map_nil]; rfl) ?_; (with_reducible refine ((HM.out _ hHeld.1.out).out).mono ?_); rintro e w5 ⟨rfl, hb⟩; refine ⟨_, rfl, ?_⟩; refine hK.out _ _ (by have h_ := hHeld.2; refine ⟨⟨below_tr hHeld.1.out hb⟩, ?_⟩; repeat (first | exact below_cell hb h_ | (refine ⟨below_cell hb h_.1, ?_⟩; replace h_ := h_.2))) (fun hHeld => ?_); clear hK K; refine WL.put (ys := ?_) ?_ ?_; rotate_left; (focus dsimp only [List.set_cons_zero, List.set_cons_succ]; rfl))))
              refine WL.done HT_.out (by kernel_rfl) ?_
              clear q5 q6 h1 h2 h3 h4 h5_ g0 g1 g2 g3 g4 g5
              have HBR6 := Lib.hid (below_tr HBR.out hHeld.1.out)
              have HBX := Lib.hid hHeld.1.out
              obtain ⟨_, q5, q6, _, _, _, _, _, g0, g1, g2, g3, g4, g5⟩ := hHeld
              cases mm
              · rw [HG1.out] at HE1 HG2
                rw [HG2.out] at HE2
                go_wp2
                go_roundw
                case rel => exact ⟨m + 1, by go_num, by rw [HE1.out]; rfl, by rw [HE2.out]; rfl, by omega, ⟨HBR6.out⟩⟩
                case measure => simp [intOf]; omega
              · rw [HG1.out] at HE1 HG2
                go_wp2
                generalize hw6 : w5 = w6 at *
                go_wp2_with fail
                refine WL.start (n := 10) (S := fun w' => Aside0 (Below w6.heap.size w6 w') ∧ w'.cell? ⟨W.heap.size, 5, none⟩ = some (.slice (some adr) s.f5.length c5) ∧ w'.cell? ⟨W.heap.size, 6, none⟩ = some (.slice (some ad) s.f6.length c6) ∧ w'.cell? (adr.add (m * 6)) = some (.string r.f0) ∧ w'.cell? ⟨(adr.add (m * 6)).block, (adr.add (m * 6)).off + 1, none⟩ = some (.string r.f1) ∧ w'.cell? ⟨(adr.add (m * 6)).block, (adr.add (m * 6)).off + 2, none⟩ = some (.string r.f2) ∧ w'.cell? ⟨(adr.add (m * 6)).block, (adr.add (m * 6)).off + 3, none⟩ = some (.string r.f3) ∧ w'.cell? ⟨(adr.add (m * 6)).block, (adr.add (m * 6)).off + 4, none⟩ = some (.int .i64 r.f4) ∧ w'.cell? ⟨(adr.add (m * 6)).block, (adr.add (m * 6)).off + 5, none⟩ = some (.int .i64 r.f5)) (ds := []) [false, false, false, false, false, false, false, false, false, false] (by kernel_rfl) rfl rfl ⟨⟨below_drew (Below.refl _ _)⟩, q5, q6, g0, g1, g2, g3, g4, g5⟩ (fun hHeld => ?_)
                refine WL.tab tab17_12 (fun HT_ => ?_)
                refine WL.more [0, 2, 4, 1, 3, 5, 6, 7, 8, 9] ?_
                repeat (first
                  | (refine WL.off (lb' := ?_) (ys := ?_) rfl rfl (by rfl) ?_ HT_.out ?_ (fun _ _ _ h => h) ?_ ?_; rotate_left 2; (focus dsimp only [List.set_cons_zero, List.set_cons_succ]; rfl); (focus kernel_rfl); (focus dsimp only [List.set_cons_zero, List.set_cons_succ]; rfl))
                  | (refine WL.pure (lb' := ?_) (v := ?_) (ys := ?_) rfl rfl (by rfl) ?_ HT_.out ?_ (fun _ _ _ h => h) ?_ ?_ ?_; rotate_left 3; (focus dsimp only [List.set_cons_zero, List.set_cons_succ]; rfl); (focus kernel_rfl); (focus intro w'; go_simp; with_reducible rfl); (focus dsimp only [List.set_cons_zero, List.set_cons_succ]; rfl))
                  | (refine WL.take (lb' := ?_) (v := ?_) (ys := ?_) rfl rfl (by rfl) ?_ HT_.out ?_ (fun _ _ _ h => h) hHeld ?_ ?_ ?_; rotate_left 3; (focus dsimp only [List.set_cons_zero, List.set_cons_succ]; rfl); (focus kernel_rfl); (focus rintro w' ⟨s0, s1, s2, s3, s4, s5, s6, s7, s8⟩; go_simp; with_reducible rfl); (focus dsimp only [List.set_cons_zero, List.set_cons_succ]; rfl))
                  | (refine WL.one (lb' := ?_) rfl rfl ?_ HT_.out ?_ (by decide) (fun K hK => ?_); rotate_left; (focus dsimp only [List.set_cons_zero, List.set_cons_succ]; rfl); (focus kernel_rfl); first
                      | (refine goes_ Tryz.func27 (by kernel_rfl) rfl #[.slice (some ad) s.f6.length c6, .agg #[.string r.f0, .string r.f1, .string r.f2, .string r.f3, .int .i64 r.f4, .int .i64 r.f5]] (by rfl) rfl rfl (by simp only [List.map_toArray, List.map_cons, List.map_nil]; rfl) ?_; (with_reducible refine ((HON.out _ (below_tr HBX.out hHeld.1.out)).out).mono ?_); rintro e w7 ⟨A7, c7_, rfl, hb⟩; refine ⟨_, rfl, ?_⟩; refine hK.out _ _ (by have h_ := hHeld.2; refine ⟨⟨below_tr hHeld.1.out hb⟩, ?_⟩; repeat (first | exact below_cell hb h_ | (refine ⟨below_cell hb h_.1, ?_⟩; replace h_ := h_.2))) (fun hHeld => ?_); clear hK K; refine WL.put (ys := ?_) ?_ ?_; rotate_left; (focus dsimp only [List.set_cons_zero, List.set_cons_succ]; rfl))))
                refine WL.done HT_.out (by kernel_rfl) ?_
                clear q5 q6 g0 g1 g2 g3 g4 g5
                have HBR7 := Lib.hid (below_tr HBR6.out hHeld.1.out)
                clear hHeld
                by_cases hno : no = 1
                · have hq : ((no : Int) == 1) = true := by rw [hno]; rfl
                  rw [decide_eq_true hno, Bool.true_and] at HG2
                  rw [HG2.out] at HE2
                  clear hno
                  go_wp2
                  go_roundw
                  case rel => exact ⟨m + 1, by go_num, by rw [HE1.out]; rfl, by rw [HE2.out]; rfl, by omega, ⟨HBR7.out⟩⟩
                  case measure => simp [intOf]; omega
                · have hq : ((no : Int) == 1) = false := by simp; omega
                  rw [decide_eq_false hno, Bool.true_and] at HG2
                  rw [HG2.out] at HE2
                  clear hno
                  go_wp2
                  go_roundw
                  case rel => exact ⟨m + 1, by go_num, by rw [HE1.out]; rfl, by rw [HE2.out]; rfl, by omega, ⟨HBR7.out⟩⟩
                  case measure => simp [intOf]; omega
            · have hg : decide (2 < r.f5) = true := decide_eq_true (by omega)
              rw [decide_eq_false h25, Bool.false_and] at HG1
              rw [HG1.out] at HE1 HG2
              rw [HG2.out] at HE2
              clear h25
              go_wp2_with fail
              refine WL.start (n := 22) (S := fun w' => Aside0 (Below wr.heap.size wr w') ∧ w'.cell? ⟨W.heap.size, 5, none⟩ = some (.slice (some adr) s.f5.length c5) ∧ w'.cell? ⟨W.heap.size, 6, none⟩ = some (.slice (some ad) s.f6.length c6) ∧ w'.cell? ⟨(ad.add (k * 7)).block, (ad.add (k * 7)).off + 1, none⟩ = some (.int .i64 y.f1.f0) ∧ w'.cell? ⟨(ad.add (k * 7)).block, (ad.add (k * 7)).off + 2, none⟩ = some (.string y.f1.f1) ∧ w'.cell? ⟨(ad.add (k * 7)).block, (ad.add (k * 7)).off + 3, none⟩ = some (.int .i64 y.f1.f2) ∧ w'.cell? ⟨(ad.add (k * 7)).block, (ad.add (k * 7)).off + 4, none⟩ = some (.int .i64 y.f1.f3) ∧ w'.cell? ⟨(ad.add (k * 7)).block, (ad.add (k * 7)).off + 5, none⟩ = some (.slice A9 y.f1.f4.length c9) ∧ w'.cell? (adr.add (m * 6)) = some (.string r.f0) ∧ w'.cell? ⟨(adr.add (m * 6)).block, (adr.add (m * 6)).off + 1, none⟩ = some (.string r.f1) ∧ w'.cell? ⟨(adr.add (m * 6)).block, (adr.add (m * 6)).off + 2, none⟩ = some (.string r.f2) ∧ w'.cell? ⟨(adr.add (m * 6)).block, (adr.add (m * 6)).off + 3, none⟩ = some (.string r.f3) ∧ w'.cell? ⟨(adr.add (m * 6)).block, (adr.add (m * 6)).off + 4, none⟩ = some (.int .i64 r.f4) ∧ w'.cell? ⟨(adr.add (m * 6)).block, (adr.add (m * 6)).off + 5, none⟩ = some (.int .i64 r.f5)) (ds := []) [false, false, false, false, false, false, false, false, false, false, false, false, false, false, false, false, false, false, false, false, false, false] (by kernel_rfl) rfl rfl ⟨⟨below_drew (Below.refl _ _)⟩, q5, q6, h1, h2, h3, h4, h5_, g0, g1, g2, g3, g4, g5⟩ (fun hHeld => ?_)
              refine WL.tab tab17_10 (fun HT_ => ?_)
              refine WL.more [0, 2, 1, 3, 4, 5, 6, 7, 8, 10, 14, 16, 9, 11, 12, 13, 15, 17, 18, 19, 20, 21] ?_
              repeat (first
                | (refine WL.off (lb' := ?_) (ys := ?_) rfl rfl (by rfl) ?_ HT_.out ?_ (fun _ _ _ h => h) ?_ ?_; rotate_left 2; (focus dsimp only [List.set_cons_zero, List.set_cons_succ]; rfl); (focus kernel_rfl); (focus dsimp only [List.set_cons_zero, List.set_cons_succ]; rfl))
                | (refine WL.pure (lb' := ?_) (v := ?_) (ys := ?_) rfl rfl (by rfl) ?_ HT_.out ?_ (fun _ _ _ h => h) ?_ ?_ ?_; rotate_left 3; (focus dsimp only [List.set_cons_zero, List.set_cons_succ]; rfl); (focus kernel_rfl); (focus intro w'; go_simp; with_reducible rfl); (focus dsimp only [List.set_cons_zero, List.set_cons_succ]; rfl))
                | (refine WL.take (lb' := ?_) (v := ?_) (ys := ?_) rfl rfl (by rfl) ?_ HT_.out ?_ (fun _ _ _ h => h) hHeld ?_ ?_ ?_; rotate_left 3; (focus dsimp only [List.set_cons_zero, List.set_cons_succ]; rfl); (focus kernel_rfl); (focus rintro w' ⟨s0, s1, s2, s3, s4, s5, s6, s7, s8, s9, s10, s11, s12, s13⟩; go_simp; with_reducible rfl); (focus dsimp only [List.set_cons_zero, List.set_cons_succ]; rfl)))
              refine WL.done HT_.out (by kernel_rfl) ?_
              clear q5 q6 h1 h2 h3 h4 h5_ g0 g1 g2 g3 g4 g5
              have HBR6 := Lib.hid (below_tr HBR.out hHeld.1.out)
              clear hHeld
              go_wp2
              go_roundw
              case rel => exact ⟨m + 1, by go_num, by rw [HE1.out]; rfl, by rw [HE2.out]; rfl, by omega, ⟨HBR6.out⟩⟩
              case measure => simp [intOf]; omega
          · have hm2 : m = s.f5.length := by omega
            subst hm2
            have hlm2 : ¬ (s.f5.length : Int) < (s.f5.length : Int) := by omega
            rw [List.take_length]
            have HO4 := Lib.hid (Kd.R_below HO.out HBR.out)
            have HB4 := Lib.hid (below_tr HBW.out HBR.out)
            have HYE := HYS
            have HI1 := fun w => Lib.hid (Tell_eq (cnP (gd d y) s.f5) (by have := cnP_le (gd d y) s.f5; omega) w)
            have HI2 := fun w => Lib.hid (Tell_eq (cnP (gd1 d s y) s.f5) (by have := cnP_le (gd1 d s y) s.f5; omega) w)
            have HLL := Lib.hid (show hlL d s y = y.f0 ++ ⟨#[32]⟩ ++ tellS (cnP (gd d y) s.f5) ++ ⟨#[32]⟩ ++ tellS (cnP (gd1 d s y) s.f5) from rfl)
            have z1 := tellS_size (cnP (gd d y) s.f5)
            have z2 := tellS_size (cnP (gd1 d s y) s.f5)
            have z0 := HZZ.out
            generalize cnP (gd d y) s.f5 = n1 at *
            generalize cnP (gd1 d s y) s.f5 = n2 at *
            generalize tellS n1 = t1 at *
            generalize tellS n2 = t2 at *
            have d0 : ¬ 9223372036854775807 < y.f0.size + 1 := by omega
            have d1 : ¬ 9223372036854775807 < y.f0.size + 1 + t1.size := by omega
            have d2 : ¬ 9223372036854775807 < y.f0.size + 1 + t1.size + 1 := by omega
            have d3 : ¬ 9223372036854775807 < y.f0.size + 1 + t1.size + 1 + t2.size := by omega
            have q6 : wr.cell? ⟨W.heap.size, 6, none⟩ = some (.slice (some ad) s.f6.length c6) := (blk_cell HYS.out 6).trans rfl
            have h0 := below_cell HBR.out HX.out.1
            go_wp2_with fail
            refine WL.start (n := 18) (S := fun w' => w'.cell? ⟨W.heap.size, 6, none⟩ = some (.slice (some ad) s.f6.length c6) ∧ w'.cell? (ad.add (k * 7)) = some (.string y.f0)) (ds := []) [false, false, false, false, false, false, false, false, false, false, false, false, false, false, false, false, false, false] (by kernel_rfl) rfl rfl ⟨q6, h0⟩ (fun hHeld => ?_)
            refine WL.tab tab17_14 (fun HT_ => ?_)
            refine WL.more [0, 1, 3, 8, 12, 2, 4, 5, 6, 7] ?_
            repeat (first
              | (refine WL.off (lb' := ?_) (ys := ?_) rfl rfl (by rfl) ?_ HT_.out ?_ (fun _ _ _ h => h) ?_ ?_; rotate_left 2; (focus dsimp only [List.set_cons_zero, List.set_cons_succ]; rfl); (focus kernel_rfl); (focus dsimp only [List.set_cons_zero, List.set_cons_succ]; rfl))
              | (refine WL.pure (lb' := ?_) (v := ?_) (ys := ?_) rfl rfl (by rfl) ?_ HT_.out ?_ (fun _ _ _ h => h) ?_ ?_ ?_; rotate_left 3; (focus dsimp only [List.set_cons_zero, List.set_cons_succ]; rfl); (focus kernel_rfl); (focus intro w'; go_simp; with_reducible rfl); (focus dsimp only [List.set_cons_zero, List.set_cons_succ]; rfl))
              | (refine WL.take (lb' := ?_) (v := ?_) (ys := ?_) rfl rfl (by rfl) ?_ HT_.out ?_ (fun _ _ _ h => h) hHeld ?_ ?_ ?_; rotate_left 3; (focus dsimp only [List.set_cons_zero, List.set_cons_succ]; rfl); (focus kernel_rfl); (focus rintro w' ⟨s0, s1⟩; go_simp; with_reducible rfl); (focus dsimp only [List.set_cons_zero, List.set_cons_succ]; rfl)))
            refine WL.more [9] ?_
            repeat (first
              | (refine WL.off (lb' := ?_) (ys := ?_) rfl rfl (by rfl) ?_ HT_.out ?_ (fun _ _ _ h => h) ?_ ?_; rotate_left 2; (focus dsimp only [List.set_cons_zero, List.set_cons_succ]; rfl); (focus kernel_rfl); (focus dsimp only [List.set_cons_zero, List.set_cons_succ]; rfl))
              | (refine WL.pure (lb' := ?_) (v := ?_) (ys := ?_) rfl rfl (by rfl) ?_ HT_.out ?_ (fun _ _ _ h => h) ?_ ?_ ?_; rotate_left 3; (focus dsimp only [List.set_cons_zero, List.set_cons_succ]; rfl); (focus kernel_rfl); (focus intro w'; go_simp; with_reducible rfl); (focus dsimp only [List.set_cons_zero, List.set_cons_succ]; rfl))
              | (refine WL.take (lb' := ?_) (v := ?_) (ys := ?_) rfl rfl (by rfl) ?_ HT_.out ?_ (fun _ _ _ h => h) hHeld ?_ ?_ ?_; rotate_left 3; (focus dsimp only [List.set_cons_zero, List.set_cons_succ]; rfl); (focus kernel_rfl); (focus rintro w' ⟨s0, s1⟩; go_simp; with_reducible rfl); (focus dsimp only [List.set_cons_zero, List.set_cons_succ]; rfl))
              | (refine WL.one (lb' := ?_) rfl rfl ?_ HT_.out ?_ (by decide) (fun K hK => ?_); rotate_left; (focus dsimp only [List.set_cons_zero, List.set_cons_succ]; rfl); (focus kernel_rfl); first
                  | (refine goes_ Tryz.func26 (by kernel_rfl) rfl #[.int .i64 (n1 : Nat)] (by rfl) rfl rfl (by simp only [List.map_toArray, List.map_cons, List.map_nil]; rfl) ?_; (with_reducible refine ((HI1 _).out).mono ?_); rintro e w5 ⟨rfl, rfl⟩; refine ⟨_, rfl, ?_⟩; refine hK.out _ _ hHeld (fun hHeld => ?_); clear hK K; refine WL.put (ys := ?_) ?_ ?_; rotate_left; (focus dsimp only [List.set_cons_zero, List.set_cons_succ]; rfl))))
            refine WL.more [10, 11] ?_
            repeat (first
              | (refine WL.off (lb' := ?_) (ys := ?_) rfl rfl (by rfl) ?_ HT_.out ?_ (fun _ _ _ h => h) ?_ ?_; rotate_left 2; (focus dsimp only [List.set_cons_zero, List.set_cons_succ]; rfl); (focus kernel_rfl); (focus dsimp only [List.set_cons_zero, List.set_cons_succ]; rfl))
              | (refine WL.pure (lb' := ?_) (v := ?_) (ys := ?_) rfl rfl (by rfl) ?_ HT_.out ?_ (fun _ _ _ h => h) ?_ ?_ ?_; rotate_left 3; (focus dsimp only [List.set_cons_zero, List.set_cons_succ]; rfl); (focus kernel_rfl); (focus intro w'; go_simp; with_reducible rfl); (focus dsimp only [List.set_cons_zero, List.set_cons_succ]; rfl))
              | (refine WL.take (lb' := ?_) (v := ?_) (ys := ?_) rfl rfl (by rfl) ?_ HT_.out ?_ (fun _ _ _ h => h) hHeld ?_ ?_ ?_; rotate_left 3; (focus dsimp only [List.set_cons_zero, List.set_cons_succ]; rfl); (focus kernel_rfl); (focus rintro w' ⟨s0, s1⟩; go_simp; with_reducible rfl); (focus dsimp only [List.set_cons_zero, List.set_cons_succ]; rfl)))
            refine WL.more [13] ?_
            repeat (first
              | (refine WL.off (lb' := ?_) (ys := ?_) rfl rfl (by rfl) ?_ HT_.out ?_ (fun _ _ _ h => h) ?_ ?_; rotate_left 2; (focus dsimp only [List.set_cons_zero, List.set_cons_succ]; rfl); (focus kernel_rfl); (focus dsimp only [List.set_cons_zero, List.set_cons_succ]; rfl))
              | (refine WL.pure (lb' := ?_) (v := ?_) (ys := ?_) rfl rfl (by rfl) ?_ HT_.out ?_ (fun _ _ _ h => h) ?_ ?_ ?_; rotate_left 3; (focus dsimp only [List.set_cons_zero, List.set_cons_succ]; rfl); (focus kernel_rfl); (focus intro w'; go_simp; with_reducible rfl); (focus dsimp only [List.set_cons_zero, List.set_cons_succ]; rfl))
              | (refine WL.take (lb' := ?_) (v := ?_) (ys := ?_) rfl rfl (by rfl) ?_ HT_.out ?_ (fun _ _ _ h => h) hHeld ?_ ?_ ?_; rotate_left 3; (focus dsimp only [List.set_cons_zero, List.set_cons_succ]; rfl); (focus kernel_rfl); (focus rintro w' ⟨s0, s1⟩; go_simp; with_reducible rfl); (focus dsimp only [List.set_cons_zero, List.set_cons_succ]; rfl))
              | (refine WL.one (lb' := ?_) rfl rfl ?_ HT_.out ?_ (by decide) (fun K hK => ?_); rotate_left; (focus dsimp only [List.set_cons_zero, List.set_cons_succ]; rfl); (focus kernel_rfl); first
                  | (refine goes_ Tryz.func26 (by kernel_rfl) rfl #[.int .i64 (n2 : Nat)] (by rfl) rfl rfl (by simp only [List.map_toArray, List.map_cons, List.map_nil]; rfl) ?_; (with_reducible refine ((HI2 _).out).mono ?_); rintro e w5 ⟨rfl, rfl⟩; refine ⟨_, rfl, ?_⟩; refine hK.out _ _ hHeld (fun hHeld => ?_); clear hK K; refine WL.put (ys := ?_) ?_ ?_; rotate_left; (focus dsimp only [List.set_cons_zero, List.set_cons_succ]; rfl))))
            refine WL.more [14] ?_
            repeat (first
              | (refine WL.off (lb' := ?_) (ys := ?_) rfl rfl (by rfl) ?_ HT_.out ?_ (fun _ _ _ h => h) ?_ ?_; rotate_left 2; (focus dsimp only [List.set_cons_zero, List.set_cons_succ]; rfl); (focus kernel_rfl); (focus dsimp only [List.set_cons_zero, List.set_cons_succ]; rfl))
              | (refine WL.pure (lb' := ?_) (v := ?_) (ys := ?_) rfl rfl (by rfl) ?_ HT_.out ?_ (fun _ _ _ h => h) ?_ ?_ ?_; rotate_left 3; (focus dsimp only [List.set_cons_zero, List.set_cons_succ]; rfl); (focus kernel_rfl); (focus intro w'; go_simp; with_reducible rfl); (focus dsimp only [List.set_cons_zero, List.set_cons_succ]; rfl))
              | (refine WL.take (lb' := ?_) (v := ?_) (ys := ?_) rfl rfl (by rfl) ?_ HT_.out ?_ (fun _ _ _ h => h) hHeld ?_ ?_ ?_; rotate_left 3; (focus dsimp only [List.set_cons_zero, List.set_cons_succ]; rfl); (focus kernel_rfl); (focus rintro w' ⟨s0, s1⟩; go_simp; with_reducible rfl); (focus dsimp only [List.set_cons_zero, List.set_cons_succ]; rfl)))
            refine WL.more [15] ?_
            repeat (first
              | (refine WL.off (lb' := ?_) (ys := ?_) rfl rfl (by rfl) ?_ HT_.out ?_ (fun _ _ _ h => h) ?_ ?_; rotate_left 2; (focus dsimp only [List.set_cons_zero, List.set_cons_succ]; rfl); (focus kernel_rfl); (focus dsimp only [List.set_cons_zero, List.set_cons_succ]; rfl))
              | (refine WL.pure (lb' := ?_) (v := ?_) (ys := ?_) rfl rfl (by rfl) ?_ HT_.out ?_ (fun _ _ _ h => h) ?_ ?_ ?_; rotate_left 3; (focus dsimp only [List.set_cons_zero, List.set_cons_succ]; rfl); (focus kernel_rfl); (focus intro w'; go_simp; with_reducible rfl); (focus dsimp only [List.set_cons_zero, List.set_cons_succ]; rfl))
              | (refine WL.take (lb' := ?_) (v := ?_) (ys := ?_) rfl rfl (by rfl) ?_ HT_.out ?_ (fun _ _ _ h => h) hHeld ?_ ?_ ?_; rotate_left 3; (focus dsimp only [List.set_cons_zero, List.set_cons_succ]; rfl); (focus kernel_rfl); (focus rintro w' ⟨s0, s1⟩; go_simp; with_reducible rfl); (focus dsimp only [List.set_cons_zero, List.set_cons_succ]; rfl))
              | (refine WL.one (lb' := ?_) rfl rfl ?_ HT_.out ?_ (by decide) (fun K hK => ?_); rotate_left; (focus dsimp only [List.set_cons_zero, List.set_cons_succ]; rfl); (focus kernel_rfl); first
                  | (refine value_ (w1 := ?_) (v := ?_) (by rfl) rfl ?_ ?_; rotate_left 2; (focus go_simp; constructor; rfl; rfl); refine hK.out _ _ ⟨below_cell (below_alloc (Below.refl _ _) _) hHeld.1, below_cell (below_alloc (Below.refl _ _) _) hHeld.2⟩ (fun hHeld => ?_); clear hK K; refine WL.put (ys := ?_) ?_ ?_; rotate_left; (focus dsimp only [List.set_cons_zero, List.set_cons_succ]; rfl))))
            refine WL.more [16] ?_
            repeat (first
              | (refine WL.off (lb' := ?_) (ys := ?_) rfl rfl (by rfl) ?_ HT_.out ?_ (fun _ _ _ h => h) ?_ ?_; rotate_left 2; (focus dsimp only [List.set_cons_zero, List.set_cons_succ]; rfl); (focus kernel_rfl); (focus dsimp only [List.set_cons_zero, List.set_cons_succ]; rfl))
              | (refine WL.pure (lb' := ?_) (v := ?_) (ys := ?_) rfl rfl (by rfl) ?_ HT_.out ?_ (fun _ _ _ h => h) ?_ ?_ ?_; rotate_left 3; (focus dsimp only [List.set_cons_zero, List.set_cons_succ]; rfl); (focus kernel_rfl); (focus intro w'; go_simp; with_reducible rfl); (focus dsimp only [List.set_cons_zero, List.set_cons_succ]; rfl))
              | (refine WL.take (lb' := ?_) (v := ?_) (ys := ?_) rfl rfl (by rfl) ?_ HT_.out ?_ (fun _ _ _ h => h) hHeld ?_ ?_ ?_; rotate_left 3; (focus dsimp only [List.set_cons_zero, List.set_cons_succ]; rfl); (focus kernel_rfl); (focus rintro w' ⟨s0, s1⟩; go_simp; with_reducible rfl); (focus dsimp only [List.set_cons_zero, List.set_cons_succ]; rfl))
              | (refine WL.one (lb' := ?_) rfl rfl ?_ HT_.out ?_ (by decide) (fun K hK => ?_); rotate_left; (focus dsimp only [List.set_cons_zero, List.set_cons_succ]; rfl); (focus kernel_rfl); first
                  | (refine Kd.R_append_step Kd.string (w0 := W1) (W := wr.drew) W1.heap.size (by rfl) (.tmp 65) (.tmp 80) 34 9 (.string ⟨#[]⟩) 16 rfl Tryz.underlying34 info9 rfl (by decide) (by omega) u3 (hls d s k) (y.f0 ++ (⟨#[32]⟩ : ByteArray) ++ t1 ++ (⟨#[32]⟩ : ByteArray) ++ t2) [.string (y.f0 ++ (⟨#[32]⟩ : ByteArray) ++ t1 ++ (⟨#[32]⟩ : ByteArray) ++ t2)] (fun _ => True) (fun _ => False) rfl rfl rfl (fun _ hk => hk.elim) (fun _ _ => trivial) (Kd.R_drew HO4.out) (below_drew HB4.out) (below_drew HB4.out).size (by have := HLN.out; omega) ?_; intro v9 w6 ho hb hg hat; clear hat; have HYH6 := (hg.block W.heap.size (blk_lt HYE.out) (fun e_ => absurd (Kd.R_base HO.out _ e_.symm) (by have := blk_lt HY.out; omega))).trans HYE.out; refine hK.out _ _ ⟨(blk_cell HYH6 6).trans rfl, below_cell hb H0W.out⟩ (fun hHeld => ?_); clear hK K; refine WL.put (ys := ?_) ?_ ?_; rotate_left; (focus dsimp only [List.set_cons_zero, List.set_cons_succ]; rfl))))
            refine WL.more [17] ?_
            repeat (first
              | (refine WL.off (lb' := ?_) (ys := ?_) rfl rfl (by rfl) ?_ HT_.out ?_ (fun _ _ _ h => h) ?_ ?_; rotate_left 2; (focus dsimp only [List.set_cons_zero, List.set_cons_succ]; rfl); (focus kernel_rfl); (focus dsimp only [List.set_cons_zero, List.set_cons_succ]; rfl))
              | (refine WL.pure (lb' := ?_) (v := ?_) (ys := ?_) rfl rfl (by rfl) ?_ HT_.out ?_ (fun _ _ _ h => h) ?_ ?_ ?_; rotate_left 3; (focus dsimp only [List.set_cons_zero, List.set_cons_succ]; rfl); (focus kernel_rfl); (focus intro w'; go_simp; with_reducible rfl); (focus dsimp only [List.set_cons_zero, List.set_cons_succ]; rfl))
              | (refine WL.take (lb' := ?_) (v := ?_) (ys := ?_) rfl rfl (by rfl) ?_ HT_.out ?_ (fun _ _ _ h => h) hHeld ?_ ?_ ?_; rotate_left 3; (focus dsimp only [List.set_cons_zero, List.set_cons_succ]; rfl); (focus kernel_rfl); (focus rintro w' ⟨s0, s1⟩; go_simp; with_reducible rfl); (focus dsimp only [List.set_cons_zero, List.set_cons_succ]; rfl)))
            refine WL.done HT_.out (by kernel_rfl) ?_
            clear hHeld q5 q6 h0 HYH6
            have HF := Lib.hid (And.intro ho hb)
            clear ho hb hg
            go_wp2
            go_roundw
            case rel => exact ⟨k + 1, by go_num, by omega, ⟨by rw [HN2.out, HLL.out]; exact HF.out.1⟩, ⟨HF.out.2⟩⟩
            case measure => simp [intOf]; omega
    · have hk2 : k = s.f6.length := by omega
      subst hk2
      generalize hls d s s.f6.length = zs at *
      obtain ⟨A6, c6, hv, hl6, hC6⟩ := Kd.R_reads HO.out
      subst hv
      have HF := Lib.hid (And.intro hl6 (And.intro hC6 (below_tr HB.out HBW.out)))
      clear hl6 hC6
      go_wp2
      go_ret
      exact ⟨A6, c6, rfl, HF.out.1, HF.out.2.1, HF.out.2.2⟩
end Go.Proofs.YtafigkikblpbnaaGreatDoor.PG
namespace Go.Proofs.YtafigkikblpbnaaGreatDoor.PG
open Go.RowKit Go.Proofs.YtafigkikblpbnaaGreatDoorW.PrintWords Go.Proofs.YtafigkikblpbnaaGreatDoorW.PrintLast Go.Proofs.YtafigkikblpbnaaGreatDoorW.PrintMore
set_option linter.unusedVariables false
set_option linter.unusedSimpArgs false
set_option maxRecDepth 100000
theorem tab15_15 : rtab .any (opsOf Tryz.f15 15) = (true, [([], []), ([], []), ([1], [1]), ([], []), ([], []), ([], []), ([], []), ([5, 6], [5, 6]), ([7], [7]), ([], []), ([], []), ([10], [10]), ([9, 11], [9, 11]), ([12], [12]), ([0, 2, 0, 1, 2, 5, 6, 7, 8, 13], [0, 2]), ([14, 8, 0, 1, 2, 5, 6, 7, 8, 13], [8, 14]), ([3, 4, 0, 1, 2, 3, 4, 5, 6, 7, 8, 9, 10, 11, 12, 13, 14, 15], [3, 4]), ([16, 13, 15, 0, 1, 2, 3, 4, 5, 6, 7, 8, 9, 10, 11, 12, 13, 14, 15], [13, 16])]) := by kernel_rfl
theorem tab15_21 : rtab .any (opsOf Tryz.f15 21) = (true, [([], []), ([], []), ([], []), ([1, 2], [1, 2]), ([3], [3]), ([4], [4]), ([5], [5]), ([], []), ([], []), ([], []), ([8, 9], [8, 9]), ([10], [10]), ([7, 11], [7, 11]), ([6, 12], [6, 12]), ([13], [13]), ([0, 14, 12], [0, 14]), ([15, 15, 0, 1, 2, 3, 4, 5, 6, 7, 8, 9, 10, 11, 12, 13, 14, 15], [0, 15])]) := by kernel_rfl

/-- One more place to the front. -/
theorem swap_list (M : List ByteArray) (c : ByteArray) (i : Nat) (h : i < M.length) : ((M.take (i + 1) ++ c :: M.drop (i + 1)).set i c).set (i + 1) M[i] = M.take i ++ c :: M.drop i := by
  have h1 : M.take (i + 1) = M.take i ++ [M[i]] := (List.take_succ_eq_append_getElem h)
  have h2 : M.drop i = M[i] :: M.drop (i + 1) := List.drop_eq_getElem_cons h
  have hl : (M.take i).length = i := by rw [List.length_take]; omega
  rw [h1, h2, List.append_assoc]
  rw [List.set_append_right _ _ (by omega), hl, Nat.sub_self]
  rw [List.set_append_right _ _ (by omega), hl, show i + 1 - i = 1 by omega]
  rfl
theorem any_mem (M : List ByteArray) (c : ByteArray) : M.any (fun y => y.toList == c.toList) = true ↔ c ∈ M := by
  rw [List.any_eq_true]
  constructor
  · rintro ⟨x, hx, e⟩
    rw [← toList_inj (beq_iff_eq.1 e)]
    exact hx
  · intro h
    exact ⟨c, h, by simp⟩
set_option maxHeartbeats 8000000 in
/-- The document's answer: class by class. -/
theorem LinesR_any (s : S31) (A2 A3 A4 A5 A6 A7 A8 : Option Addr) (c2 c3 c4 c5 c6 c7 c8 : Nat) (W : World) (hs : Rs W s A2 A3 A4 A5 A6 A7 A8 c2 c3 c4 c5 c6 c7 c8) (hst : ∀ k : Nat, k < s.f5.length → 1 ≤ (rd_T48 s.f5 (k : Int)).f5 ∧ (rd_T48 s.f5 (k : Int)).f5 ≤ 4) (hz : ∀ r ∈ s.f5, r.f3.size ≤ 140737488351232) (h5 : s.f5.length ≤ 24) :
    Calls Tryz.prog 15 #[.agg #[.int .i64 s.f0, .int .u64 s.f1, .slice A2 s.f2.length c2, .slice A3 s.f3.length c3, .slice A4 s.f4.length c4, .slice A5 s.f5.length c5, .slice A6 s.f6.length c6, .slice A7 s.f7.length c7, .slice A8 s.f8.length c8, .int .i64 s.f9]] W (RNm (lnL s) W) := by
  have HB1 := Lib.hid (show Below W.heap.size W (W.alloc (.cells #[.int .i64 s.f0, .int .u64 s.f1, .slice A2 s.f2.length c2, .slice A3 s.f3.length c3, .slice A4 s.f4.length c4, .slice A5 s.f5.length c5, .slice A6 s.f6.length c6, .slice A7 s.f7.length c7, .slice A8 s.f8.length c8, .int .i64 s.f9] 31 (0, 0))) from below_alloc (Below.refl _ _) _)
  have HY1 := Lib.hid (new_blk W (.cells #[.int .i64 s.f0, .int .u64 s.f1, .slice A2 s.f2.length c2, .slice A3 s.f3.length c3, .slice A4 s.f4.length c4, .slice A5 s.f5.length c5, .slice A6 s.f6.length c6, .slice A7 s.f7.length c7, .slice A8 s.f8.length c8, .int .i64 s.f9] 31 (0, 0)))
  have HS1 := Lib.hid (hs.below HB1.out)
  have HST := Lib.hid hst
  have HZ := Lib.hid hz
  have h52 : (s.f5.length : Int) ≤ 24 := by omega
  clear hs hst hz
  go_enter Tryz.func15, Tryz.ntmps15
  go_wp2
  generalize (W.alloc (.cells #[.int .i64 s.f0, .int .u64 s.f1, .slice A2 s.f2.length c2, .slice A3 s.f3.length c3, .slice A4 s.f4.length c4, .slice A5 s.f5.length c5, .slice A6 s.f6.length c6, .slice A7 s.f7.length c7, .slice A8 s.f8.length c8, .int .i64 s.f9] 31 (0, 0))) = W1_ at *
  go_loopw [3, 4] (fun v3 v4 wr => ∃ (k : Nat) (M : List ByteArray), v4 = .int .i64 k ∧ k ≤ s.f5.length ∧ Aside0 (Kd.R Kd.string 9 wr W1_.heap.size (fun _ => True) v3 M) ∧ Aside0 (M.Perm (nms s k)) ∧ Aside0 (M.Pairwise (fun a b : ByteArray => a.toList < b.toList)) ∧ Aside0 (Below W1_.heap.size W1_ wr)) (fun _ v4 _ => s.f5.length - (intOf v4).toNat)
  case atStart => exact ⟨0, [], rfl, Nat.zero_le _, ⟨Kd.R_nil _ _ _ _ _⟩, ⟨List.Perm.refl _⟩, ⟨List.Pairwise.nil⟩, ⟨Below.refl _ _⟩⟩
  case round =>
    obtain ⟨k, M, rfl, hk, HO, HPM, HPW, HBW⟩ := hrel
    have HYR := Lib.hid ((HBW.out.block W.heap.size (blk_lt HY1.out)).trans HY1.out)
    have q5 : wr.cell? ⟨W.heap.size, 5, none⟩ = some (.slice A5 s.f5.length c5) := (blk_cell HYR.out 5).trans rfl
    have HML := Lib.hid (show M.length ≤ s.f5.length by rw [HPM.out.length_eq]; exact Nat.le_trans (nms_len s k) hk)
    have hml : (M.length : Int) ≤ 24 := by have := HML.out; omega
    by_cases hlt : k < s.f5.length
    · have hlt2 : (k : Int) < (s.f5.length : Int) := by omega
      obtain ⟨ad, e, h0, h1, h2, h3, h4, h5_⟩ := at_T48 (HS1.out.below HBW.out).g5 (k : Int) (by omega) (by omega)
      simp only [Int.toNat_natCast] at h3
      clear h0 h1 h2 h4 h5_
      have HZC := Lib.hid (HZ.out _ (rd_mem48 hlt))
      have HNO := Lib.hid (fun h => nms_old (s := s) (n := k) h)
      have HNN := Lib.hid (fun h => nms_new (s := s) (n := k) h)
      generalize (rd_T48 s.f5 (k : Int)).f3 = c at *
      subst e
      obtain ⟨AM, cM, hv, hlM, hCM⟩ := Kd.R_reads HO.out
      subst hv
      have HCM := Lib.hid hCM
      clear hlM hCM
      go_wp2
      generalize wr = wq at *
      go_loopw [6, 7] (fun v6 v7 wr => ∃ (m : Nat), v7 = .int .i64 m ∧ m ≤ M.length ∧ v6 = .bool ((M.take m).any fun y => y.toList == c.toList) ∧ Aside0 (Below wq.heap.size wq wr)) (fun _ v7 _ => M.length - (intOf v7).toNat)
      case atStart => exact ⟨0, rfl, Nat.zero_le _, rfl, ⟨Below.refl _ _⟩⟩
      case round =>
        obtain ⟨m, rfl, hm, rfl, HBM⟩ := hrel
        by_cases hmt : m < M.length
        · have hmt2 : (m : Int) < (M.length : Int) := by omega
          obtain ⟨adm, e, hc0⟩ := Kd.at_string (Kd.C_below HCM.out HBM.out) (m : Int) (by omega) (by omega)
          subst e
          simp only [Int.toNat_natCast] at hc0
          have hcm : rdOf ByteArray.empty M (m : Int) = M[m] := by unfold rdOf; rw [Int.toNat_natCast, List.getD_eq_getElem?_getD, List.getElem?_eq_getElem hmt]; rfl
          have HTK := Lib.hid (show (M.take (m + 1)).any (fun y => y.toList == c.toList) = ((M.take m).any (fun y => y.toList == c.toList) || (rdOf ByteArray.empty M (m : Int)).toList == c.toList) by rw [hcm, List.take_succ_eq_append_getElem hmt, List.any_append]; simp)
          clear hcm
          generalize rdOf ByteArray.empty M (m : Int) = y at *
          generalize (M.take m).any (fun y => y.toList == c.toList) = b at *
          generalize hq : (y.toList == c.toList) = q at *
          cases b
          · go_wp2
            go_roundw
            case rel => exact ⟨m + 1, by go_num, by omega, by rw [HTK.out, Bool.false_or], ⟨HBM.out⟩⟩
            case measure => simp [intOf]; omega
          · go_wp2
            go_roundw
            case rel => exact ⟨m + 1, by go_num, by omega, by rw [HTK.out, Bool.true_or], ⟨HBM.out⟩⟩
            case measure => simp [intOf]; omega
        · have hm2 : m = M.length := by omega
          subst hm2
          rw [List.take_length]
          have HOM := Lib.hid (Kd.R_below HO.out HBM.out)
          have HBX := Lib.hid (below_tr HBW.out HBM.out)
          have HAM := Lib.hid (any_mem M c)
          generalize M.any (fun y => y.toList == c.toList) = b at *
          clear hm hmt q5 h3
          cases b
          · have HNC := Lib.hid (show c ∉ M from fun h => absurd (HAM.out.2 h) (by decide))
            go_wp2_with ((with_reducible refine gate_builtin (b := .append) (xs := #[.tmp 42, .tmp 44]) rfl ?_); at_builtin; refine Kd.R_append Kd.string (w0 := W1_) W1_.heap.size rfl (.tmp 42) (.tmp 44) 34 9 (.string ⟨#[]⟩) 16 rfl Tryz.underlying34 info9 rfl (by decide) (by omega) (.slice AM M.length cM) M c [.string c] (fun _ => True) (fun _ => False) rfl rfl rfl (fun _ hk => hk.elim) (fun _ _ => trivial) HOM.out HBX.out (HBX.out).size (by have := HML.out; omega) ?_; intro v9 w5 ho hb hg hat; clear hg hat)
            obtain ⟨g, cap, hv9, hgb, hgl, _⟩ := Kd.R_form ho (by rw [List.length_append]; exact Nat.succ_pos _)
            rw [List.length_append, List.length_singleton] at hv9
            subst hv9
            have HO9 := Lib.hid ho
            have HB9 := Lib.hid hb
            clear ho hb hgb hgl
            generalize wr = wx at *
            go_loopw [8] (fun v8 wr => ∃ (j : Nat), v8 = .int .i64 j ∧ j ≤ M.length ∧ Aside0 (Kd.R Kd.string 9 wr W1_.heap.size (fun _ => True) (.slice (some ⟨g, 0, none⟩) (M.length + 1) cap) (M.take j ++ c :: M.drop j)) ∧ Aside0 (∀ y ∈ M.drop j, c.toList < y.toList) ∧ Aside0 (Below W1_.heap.size W1_ wr)) (fun v8 _ => (intOf v8).toNat)
            case atStart => exact ⟨M.length, rfl, Nat.le_refl _, ⟨by rw [List.take_length, List.drop_of_length_le (Nat.le_refl _)]; exact HO9.out⟩, ⟨by rw [List.drop_of_length_le (Nat.le_refl _)]; exact fun y hy => absurd hy List.not_mem_nil⟩, ⟨HB9.out⟩⟩
            case round =>
              obtain ⟨j, rfl, hj, HOJ, HLT, HBJ⟩ := hrel
              have HLN := Lib.hid (show (M.take j ++ c :: M.drop j).length = M.length + 1 by rw [List.length_append, List.length_cons, List.length_take, List.length_drop]; omega)
              rcases Nat.eq_zero_or_pos j with hj0 | hj0
              · subst hj0
                go_wp2_with fail
                go_quiet (fail)
                go_wp2
                go_roundw
                case rel => exact ⟨k + 1, c :: M, by go_num, by omega, ⟨Kd.R_drewN HOJ.out nq⟩, ⟨by rw [HNN.out (fun h => HNC.out (HPM.out.mem_iff.2 h))]; exact (List.Perm.cons _ HPM.out).trans (List.perm_append_singleton _ _).symm⟩, ⟨List.pairwise_cons.2 ⟨HLT.out, HPW.out⟩⟩, ⟨pw_below_drewN HBJ.out nq⟩⟩
                case measure => simp [intOf]; omega
              · obtain ⟨i, rfl⟩ : ∃ i, j = i + 1 := ⟨j - 1, by omega⟩
                have hi : i < M.length := by omega
                have hds : ((i + 1 : Nat) : Int) - 1 = (i : Int) := by omega
                have hgt : (0 : Int) < ((i + 1 : Nat) : Int) := by omega
                have hp0 : (0 : Int) ≤ (i : Int) + 1 := by omega
                have hwi : IntKind.i64.wrap (i : Int) = (i : Int) := by rw [IntKind.wrap_i64]; omega
                have hp1 : (i : Int) < (M.length : Int) + 1 := by omega
                have HOL := Lib.hid (show Kd.R Kd.string 9 wr W1_.heap.size (fun _ => True) (.slice (some ⟨g, 0, none⟩) (M.take (i + 1) ++ c :: M.drop (i + 1)).length cap) (M.take (i + 1) ++ c :: M.drop (i + 1)) by rw [HLN.out]; exact HOJ.out)
                have k1 := Kd.R_cell ByteArray.empty HOL.out (i : Int) (by omega) (by rw [HLN.out]; omega)
                have k2 := Kd.R_cell ByteArray.empty HOL.out ((i + 1 : Nat) : Int) (by omega) (by rw [HLN.out]; omega)
                have e1 : rdOf ByteArray.empty (M.take (i + 1) ++ c :: M.drop (i + 1)) (i : Int) = M[i] := by
                  unfold rdOf
                  rw [Int.toNat_natCast, List.getD_eq_getElem?_getD, List.getElem?_append_left (by rw [List.length_take]; omega), List.getElem?_take_of_lt (by omega), List.getElem?_eq_getElem hi]
                  rfl
                have e2 : rdOf ByteArray.empty (M.take (i + 1) ++ c :: M.drop (i + 1)) ((i + 1 : Nat) : Int) = c := by
                  unfold rdOf
                  rw [Int.toNat_natCast, List.getD_eq_getElem?_getD, List.getElem?_append_right (by rw [List.length_take]; omega), List.length_take, show i + 1 - min (i + 1) M.length = 0 by omega]
                  rfl
                rw [e1, Int.toNat_natCast] at k1
                rw [e2, Int.toNat_natCast] at k2
                obtain ⟨m1, f1⟩ := k1
                obtain ⟨m2, f2⟩ := k2
                have HSW := Lib.hid (swap_list M c i hi)
                have HMI := Lib.hid (show M.drop i = M[i] :: M.drop (i + 1) from List.drop_eq_getElem_cons hi)
                have HPS := Lib.hid (fun hn : ¬ c.toList < M[i].toList => put_sorted HPW.out (i + 1) hj HNC.out HLT.out (Or.inr ⟨M[i], by rw [Nat.add_sub_cancel]; exact List.getElem?_eq_getElem hi, hn⟩))
                have hbl := bytesLess_eq c.toList M[i].toList
                have HE1 := Lib.hid e1
                have HE2 := Lib.hid e2
                clear e1 e2
                have hne : (M[i].toList == c.toList) = false := by rw [beq_eq_false_iff_ne]; exact fun e_ => HNC.out (toList_inj e_ ▸ List.getElem_mem hi)
                have hgr := bytes_gtr M[i].toList c.toList
                rw [hne, Bool.or_false, hbl] at hgr
                clear hbl
                generalize M[i] = a at *
                by_cases hq : c.toList < a.toList
                · rw [decide_eq_true hq] at hgr
                  have hbl : Op.bytesLess a.toList c.toList = false := by simpa using hgr
                  clear hgr
                  have HYL := Lib.hid hq
                  clear hq
                  go_wp2_with fail
                  go_quiet (fail)
                  have HON := Lib.hid (Kd.R_drewN HOL.out nq)
                  have HBN := Lib.hid (pw_below_drewN HBJ.out nq)
                  go_wp2_with fail
                  clear m1 m2 f1 f2
                  generalize wr.drewN nq = wn at *
                  have HOD := Lib.hid (Kd.R_drew HON.out)
                  have k1 := Kd.R_cell ByteArray.empty HOD.out (i : Int) (by omega) (by rw [HLN.out]; omega)
                  have k2 := Kd.R_cell ByteArray.empty HOD.out ((i + 1 : Nat) : Int) (by omega) (by rw [HLN.out]; omega)
                  rw [HE1.out, Int.toNat_natCast] at k1
                  rw [HE2.out, Int.toNat_natCast] at k2
                  obtain ⟨m1, f1⟩ := k1
                  obtain ⟨m2, f2⟩ := k2
                  have HPT := Lib.hid (Kd.R_put HOD.out (i : Int) c).1
                  rw [Int.toNat_natCast] at HPT
                  have HPT2 := Lib.hid (show Kd.R Kd.string 9 (wn.drew.setCell ⟨g, i, none⟩ (.string c)) W1_.heap.size (fun _ => True) (.slice (some ⟨g, 0, none⟩) ((M.take (i + 1) ++ c :: M.drop (i + 1)).set i c).length cap) ((M.take (i + 1) ++ c :: M.drop (i + 1)).set i c) by rw [List.length_set]; exact HPT.out)
                  have k3 := (Kd.R_cell ByteArray.empty HPT2.out ((i + 1 : Nat) : Int) (by omega) (by rw [List.length_set, HLN.out]; omega))
                  rw [Int.toNat_natCast] at k3
                  have HPE := Lib.hid (Kd.R_put HPT2.out ((i + 1 : Nat) : Int) a).1
                  rw [Int.toNat_natCast, HSW.out, List.length_set, HLN.out] at HPE
                  obtain ⟨m3, f3⟩ := k3
                  have HGB := Lib.hid (Kd.R_base HON.out g rfl)
                  have n1 : wn.cell? ⟨g, i, none⟩ = some (.string a) := m1
                  have n2 : wn.cell? ⟨g, i + 1, none⟩ = some (.string c) := m2
                  have p1 : wn.frozen? ⟨g, i, none⟩ = false := f1
                  have p2 : wn.frozen? ⟨g, i + 1, none⟩ = false := f2
                  clear HPT HPT2 HE1 HE2
                  refine WL.start (n := 18) (S := fun w' => w'.cell? ⟨g, i, none⟩ = some (.string a) ∧ w'.cell? ⟨g, i + 1, none⟩ = some (.string c)) (ds := [15, 17]) [false, false, false, false, false, false, false, false, false, false, false, false, false, false, false, false, false, false] (by kernel_rfl) rfl rfl ⟨m1, m2⟩ (fun hHeld => ?_)
                  refine WL.tab tab15_15 (fun HT_ => ?_)
                  refine WL.more [0, 1, 2, 3, 4, 5, 6, 7, 9, 10, 11, 12, 8, 13, 14] ?_
                  repeat (first
                    | (refine WL.off (lb' := ?_) (ys := ?_) rfl rfl (by rfl) ?_ HT_.out ?_ (fun _ _ _ h => h) ?_ ?_; rotate_left 2; (focus dsimp only [List.set_cons_zero, List.set_cons_succ]; rfl); (focus kernel_rfl); (focus dsimp only [List.set_cons_zero, List.set_cons_succ]; rfl))
                    | (refine WL.pure (lb' := ?_) (v := ?_) (ys := ?_) rfl rfl (by rfl) ?_ HT_.out ?_ (fun _ _ _ h => h) ?_ ?_ ?_; rotate_left 3; (focus dsimp only [List.set_cons_zero, List.set_cons_succ]; rfl); (focus kernel_rfl); (focus intro w'; go_simp; with_reducible rfl); (focus dsimp only [List.set_cons_zero, List.set_cons_succ]; rfl))
                    | (refine WL.take (lb' := ?_) (v := ?_) (ys := ?_) rfl rfl (by rfl) ?_ HT_.out ?_ (fun _ _ _ h => h) hHeld ?_ ?_ ?_; rotate_left 3; (focus dsimp only [List.set_cons_zero, List.set_cons_succ]; rfl); (focus kernel_rfl); (focus rintro w' ⟨s0, s1⟩; go_simp; with_reducible rfl); (focus dsimp only [List.set_cons_zero, List.set_cons_succ]; rfl)))
                  refine WL.more [15] ?_
                  refine WL.last (lb' := ?_) rfl rfl ?_ HT_.out ?_ (by decide) (fun K hK => ?_); rotate_left; (focus dsimp only [List.set_cons_zero, List.set_cons_succ]; rfl); (focus kernel_rfl)
                  refine skip_ (w1 := ?_) (by rfl) rfl ?_ ?_
                  rotate_left
                  (focus go_simp; rfl)
                  refine hK.out _ _ ?_
                  clear hK K
                  refine WL.more [16] ?_
                  repeat (first
                    | (refine WL.off (lb' := ?_) (ys := ?_) rfl rfl (by rfl) ?_ HT_.out ?_ (fun _ _ _ h => h) ?_ ?_; rotate_left 2; (focus dsimp only [List.set_cons_zero, List.set_cons_succ]; rfl); (focus kernel_rfl); (focus dsimp only [List.set_cons_zero, List.set_cons_succ]; rfl))
                    | (refine WL.pure (lb' := ?_) (v := ?_) (ys := ?_) rfl rfl (by rfl) ?_ HT_.out ?_ (fun _ _ _ h => h) ?_ ?_ ?_; rotate_left 3; (focus dsimp only [List.set_cons_zero, List.set_cons_succ]; rfl); (focus kernel_rfl); (focus intro w'; go_simp; with_reducible rfl); (focus dsimp only [List.set_cons_zero, List.set_cons_succ]; rfl))
                    | (refine WL.take (lb' := ?_) (v := ?_) (ys := ?_) rfl rfl (by rfl) ?_ HT_.out ?_ (fun _ _ _ h => h) hHeld ?_ ?_ ?_; rotate_left 3; (focus dsimp only [List.set_cons_zero, List.set_cons_succ]; rfl); (focus kernel_rfl); (focus rintro w' ⟨s0, s1⟩; go_simp; with_reducible rfl); (focus dsimp only [List.set_cons_zero, List.set_cons_succ]; rfl)))
                  refine WL.more [17] ?_
                  refine WL.last (lb' := ?_) rfl rfl ?_ HT_.out ?_ (by decide) (fun K hK => ?_); rotate_left; (focus dsimp only [List.set_cons_zero, List.set_cons_succ]; rfl); (focus kernel_rfl)
                  refine skip_ (w1 := ?_) (by rfl) rfl ?_ ?_
                  rotate_left
                  (focus go_simp; rfl)
                  refine hK.out _ _ ?_
                  clear hK K
                  refine WL.done HT_.out (by kernel_rfl) ?_
                  clear n1 n2 p1 p2 m1 m2 m3 f1 f2 f3
                  go_wp2
                  go_roundw
                  case rel => exact ⟨i, by go_num, by omega, ⟨HPE.out⟩, ⟨by rw [HMI.out]; exact fun y hy => (List.mem_cons.1 hy).elim (fun e_ => e_ ▸ HYL.out) (fun h_ => HLT.out y h_)⟩, ⟨((below_drew HBN.out).setCell HGB.out _).setCell HGB.out _⟩⟩
                  case measure => simp [intOf]
                · rw [decide_eq_false hq] at hgr
                  have hbl : Op.bytesLess a.toList c.toList = true := by simpa using hgr
                  clear hgr
                  have HFP := Lib.hid (HPS.out hq)
                  clear hq
                  go_wp2_with fail
                  go_quiet (fail)
                  have HON := Lib.hid (Kd.R_drewN HOJ.out nq)
                  have HBN := Lib.hid (pw_below_drewN HBJ.out nq)
                  go_wp2
                  go_roundw
                  case rel => exact ⟨k + 1, _, by go_num, by omega, ⟨HON.out⟩, ⟨by rw [HNN.out (fun h => HNC.out (HPM.out.mem_iff.2 h))]; exact ((put_perm M c (i + 1)).trans (List.Perm.cons _ HPM.out)).trans (List.perm_append_singleton _ _).symm⟩, ⟨HFP.out⟩, ⟨HBN.out⟩⟩
                  case measure => simp [intOf]; omega
          · have HNC := Lib.hid (HAM.out.1 rfl)
            go_wp2
            go_roundw
            case rel => exact ⟨k + 1, M, by go_num, by omega, ⟨HOM.out⟩, ⟨by rw [HNO.out (HPM.out.mem_iff.1 HNC.out)]; exact HPM.out⟩, ⟨HPW.out⟩, ⟨HBX.out⟩⟩
            case measure => simp [intOf]; omega
    · have hk2 : k = s.f5.length := by omega
      subst hk2
      have HMO := Lib.hid (ord_uniq HPM.out HPW.out)
      have HMN := Lib.hid (show lnL s = (ordN (nms s s.f5.length)).map (lnC s) ++ [(⟨#[97, 108, 108, 32]⟩ : ByteArray) ++ tx4 (stN (cls true ⟨#[]⟩) s.f5)] from rfl)
      rw [← HMO.out] at HMN
      have HMZ := Lib.hid (show ∀ c ∈ M, c.size ≤ 140737488351232 from fun c hc => by
        obtain ⟨r, hr, e_⟩ := nms_mem s _ (Nat.le_refl _) c (HPM.out.mem_iff.1 hc)
        exact e_ ▸ HZ.out r hr)
      have HSQ := Lib.hid (HS1.out.below HBW.out)
      obtain ⟨AM, cM, hv, hlM, hCM⟩ := Kd.R_reads HO.out
      subst hv
      have HCM := Lib.hid hCM
      have HLM := Lib.hid hlM
      have HB0 := Lib.hid (below_tr HB1.out HBW.out)
      clear hlM hCM HMO
      go_wp2
      clear q5
      generalize wr = wq at *
      go_loopw [9, 10] (fun v9 v10 wr => ∃ j : Nat, v10 = .int .i64 j ∧ j ≤ M.length ∧ Aside0 (Kd.R Kd.string 9 wr wq.heap.size (fun _ => True) v9 ((M.take j).map (lnC s))) ∧ Aside0 (Below wq.heap.size wq wr)) (fun _ v10 _ => M.length - (intOf v10).toNat)
      case atStart => exact ⟨0, rfl, Nat.zero_le _, ⟨Kd.R_nil _ _ _ _ _⟩, ⟨Below.refl _ _⟩⟩
      case round =>
        obtain ⟨j, rfl, hj, HOJ, HBJ⟩ := hrel
        have HYJ := Lib.hid ((HBJ.out.block W.heap.size (blk_lt HYR.out)).trans HYR.out)
        have q0 : (wr).cell? ⟨W.heap.size, 0, none⟩ = some (.int .i64 s.f0) := (blk_cell HYJ.out 0).trans rfl
        have q1 : (wr).cell? ⟨W.heap.size, 1, none⟩ = some (.int .u64 s.f1) := (blk_cell HYJ.out 1).trans rfl
        have q2 : (wr).cell? ⟨W.heap.size, 2, none⟩ = some (.slice A2 s.f2.length c2) := (blk_cell HYJ.out 2).trans rfl
        have q3 : (wr).cell? ⟨W.heap.size, 3, none⟩ = some (.slice A3 s.f3.length c3) := (blk_cell HYJ.out 3).trans rfl
        have q4 : (wr).cell? ⟨W.heap.size, 4, none⟩ = some (.slice A4 s.f4.length c4) := (blk_cell HYJ.out 4).trans rfl
        have q5 : (wr).cell? ⟨W.heap.size, 5, none⟩ = some (.slice A5 s.f5.length c5) := (blk_cell HYJ.out 5).trans rfl
        have q6 : (wr).cell? ⟨W.heap.size, 6, none⟩ = some (.slice A6 s.f6.length c6) := (blk_cell HYJ.out 6).trans rfl
        have q7 : (wr).cell? ⟨W.heap.size, 7, none⟩ = some (.slice A7 s.f7.length c7) := (blk_cell HYJ.out 7).trans rfl
        have q8 : (wr).cell? ⟨W.heap.size, 8, none⟩ = some (.slice A8 s.f8.length c8) := (blk_cell HYJ.out 8).trans rfl
        have q9 : (wr).cell? ⟨W.heap.size, 9, none⟩ = some (.int .i64 s.f9) := (blk_cell HYJ.out 9).trans rfl
        have HCT := Lib.hid (fun (c : ByteArray) (all : Bool) (w' : World) (h : Below wq.heap.size wq w') => Lib.hid (counts_eq s A2 A3 A4 A5 A6 A7 A8 c2 c3 c4 c5 c6 c7 c8 c all w' (HSQ.out.below h) HST.out (by omega)))
        by_cases hjt : j < M.length
        · have hjt2 : (j : Int) < (M.length : Int) := by omega
          obtain ⟨adm, e, hc0⟩ := Kd.at_string HCM.out (j : Int) (by omega) (by omega)
          subst e
          simp only [Int.toNat_natCast] at hc0
          have hcm : rdOf ByteArray.empty M (j : Int) = M[j] := by unfold rdOf; rw [Int.toNat_natCast, List.getD_eq_getElem?_getD, List.getElem?_eq_getElem hjt]; rfl
          have HTK := Lib.hid (show M.take (j + 1) = M.take j ++ [rdOf ByteArray.empty M (j : Int)] by rw [hcm, List.take_succ_eq_append_getElem hjt])
          have hzc := HMZ.out (rdOf ByteArray.empty M (j : Int)) (by rw [hcm]; exact List.getElem_mem _)
          clear hcm
          generalize rdOf ByteArray.empty M (j : Int) = c at *
          have HC0 := Lib.hid hc0
          have hc1 := below_cell HBJ.out hc0
          clear hc0
          have HLC := Lib.hid (show lnC s c = (⟨#[99, 108, 97, 115, 115, 32]⟩ : ByteArray) ++ c ++ (⟨#[32]⟩ : ByteArray) ++ tx4 (stN (cls false c) s.f5) from rfl)
          have HCC := Lib.hid (HCT.out c false)
          have zt := tx4_size (stN (cls false c) s.f5)
          generalize tx4 (stN (cls false c) s.f5) = tx at *
          have d0 : ¬ 9223372036854775807 < 6 + c.size := by omega
          have d1 : ¬ 9223372036854775807 < 6 + c.size + 1 := by omega
          have d2 : ¬ 9223372036854775807 < 6 + c.size + 1 + tx.size := by omega
          go_wp2_with fail
          refine WL.start (n := 17) (S := fun w' => Aside0 (Below wq.heap.size wq w') ∧ Aside0 (Kd.R Kd.string 9 w' wq.heap.size (fun _ => True) u9 ((M.take j).map (lnC s))) ∧ w'.cell? ⟨W.heap.size, 0, none⟩ = some (.int .i64 s.f0) ∧ w'.cell? ⟨W.heap.size, 1, none⟩ = some (.int .u64 s.f1) ∧ w'.cell? ⟨W.heap.size, 2, none⟩ = some (.slice A2 s.f2.length c2) ∧ w'.cell? ⟨W.heap.size, 3, none⟩ = some (.slice A3 s.f3.length c3) ∧ w'.cell? ⟨W.heap.size, 4, none⟩ = some (.slice A4 s.f4.length c4) ∧ w'.cell? ⟨W.heap.size, 5, none⟩ = some (.slice A5 s.f5.length c5) ∧ w'.cell? ⟨W.heap.size, 6, none⟩ = some (.slice A6 s.f6.length c6) ∧ w'.cell? ⟨W.heap.size, 7, none⟩ = some (.slice A7 s.f7.length c7) ∧ w'.cell? ⟨W.heap.size, 8, none⟩ = some (.slice A8 s.f8.length c8) ∧ w'.cell? ⟨W.heap.size, 9, none⟩ = some (.int .i64 s.f9) ∧ w'.cell? (adm.add j) = some (.string c)) (ds := [15]) [false, false, false, false, false, false, false, false, false, false, false, false, false, false, false, false, false] (by kernel_rfl) rfl rfl ⟨⟨below_drew HBJ.out⟩, ⟨Kd.R_drew HOJ.out⟩, q0, q1, q2, q3, q4, q5, q6, q7, q8, q9, hc1⟩ (fun hHeld => ?_)
          refine WL.tab tab15_21 (fun HT_ => ?_)
          refine WL.more [0, 1, 2, 3, 8, 9, 10, 4, 5, 6, 7, 11] ?_
          repeat (first
            | (refine WL.off (lb' := ?_) (ys := ?_) rfl rfl (by rfl) ?_ HT_.out ?_ (fun _ _ _ h => h) ?_ ?_; rotate_left 2; (focus dsimp only [List.set_cons_zero, List.set_cons_succ]; rfl); (focus kernel_rfl); (focus dsimp only [List.set_cons_zero, List.set_cons_succ]; rfl))
            | (refine WL.pure (lb' := ?_) (v := ?_) (ys := ?_) rfl rfl (by rfl) ?_ HT_.out ?_ (fun _ _ _ h => h) ?_ ?_ ?_; rotate_left 3; (focus dsimp only [List.set_cons_zero, List.set_cons_succ]; rfl); (focus kernel_rfl); (focus intro w'; go_simp; with_reducible rfl); (focus dsimp only [List.set_cons_zero, List.set_cons_succ]; rfl))
            | (refine WL.take (lb' := ?_) (v := ?_) (ys := ?_) rfl rfl (by rfl) ?_ HT_.out ?_ (fun _ _ _ h => h) hHeld ?_ ?_ ?_; rotate_left 3; (focus dsimp only [List.set_cons_zero, List.set_cons_succ]; rfl); (focus kernel_rfl); (focus rintro w' ⟨s0, s1, s2, s3, s4, s5, s6, s7, s8, s9, s10, s11, s12⟩; go_simp; with_reducible rfl); (focus dsimp only [List.set_cons_zero, List.set_cons_succ]; rfl)))
          refine WL.more [12] ?_
          repeat (first
            | (refine WL.off (lb' := ?_) (ys := ?_) rfl rfl (by rfl) ?_ HT_.out ?_ (fun _ _ _ h => h) ?_ ?_; rotate_left 2; (focus dsimp only [List.set_cons_zero, List.set_cons_succ]; rfl); (focus kernel_rfl); (focus dsimp only [List.set_cons_zero, List.set_cons_succ]; rfl))
            | (refine WL.pure (lb' := ?_) (v := ?_) (ys := ?_) rfl rfl (by rfl) ?_ HT_.out ?_ (fun _ _ _ h => h) ?_ ?_ ?_; rotate_left 3; (focus dsimp only [List.set_cons_zero, List.set_cons_succ]; rfl); (focus kernel_rfl); (focus intro w'; go_simp; with_reducible rfl); (focus dsimp only [List.set_cons_zero, List.set_cons_succ]; rfl))
            | (refine WL.take (lb' := ?_) (v := ?_) (ys := ?_) rfl rfl (by rfl) ?_ HT_.out ?_ (fun _ _ _ h => h) hHeld ?_ ?_ ?_; rotate_left 3; (focus dsimp only [List.set_cons_zero, List.set_cons_succ]; rfl); (focus kernel_rfl); (focus rintro w' ⟨s0, s1, s2, s3, s4, s5, s6, s7, s8, s9, s10, s11, s12⟩; go_simp; with_reducible rfl); (focus dsimp only [List.set_cons_zero, List.set_cons_succ]; rfl))
            | (refine WL.one (lb' := ?_) rfl rfl ?_ HT_.out ?_ (by decide) (fun K hK => ?_); rotate_left; (focus dsimp only [List.set_cons_zero, List.set_cons_succ]; rfl); (focus kernel_rfl); first
                | (refine goes_ Tryz.func33 (by kernel_rfl) rfl #[.agg #[.int .i64 s.f0, .int .u64 s.f1, .slice A2 s.f2.length c2, .slice A3 s.f3.length c3, .slice A4 s.f4.length c4, .slice A5 s.f5.length c5, .slice A6 s.f6.length c6, .slice A7 s.f7.length c7, .slice A8 s.f8.length c8, .int .i64 s.f9], .string c, .bool false] (by rfl) rfl rfl (by simp only [List.map_toArray, List.map_cons, List.map_nil]; rfl) ?_; (with_reducible refine ((HCC.out _ hHeld.1.out).out).mono ?_); rintro e w5 ⟨rfl, hb⟩; refine ⟨_, rfl, ?_⟩; refine hK.out _ _ ⟨⟨below_tr hHeld.1.out hb⟩, ⟨Kd.R_below hHeld.2.1.out hb⟩, below_cell hb hHeld.2.2.1, below_cell hb hHeld.2.2.2.1, below_cell hb hHeld.2.2.2.2.1, below_cell hb hHeld.2.2.2.2.2.1, below_cell hb hHeld.2.2.2.2.2.2.1, below_cell hb hHeld.2.2.2.2.2.2.2.1, below_cell hb hHeld.2.2.2.2.2.2.2.2.1, below_cell hb hHeld.2.2.2.2.2.2.2.2.2.1, below_cell hb hHeld.2.2.2.2.2.2.2.2.2.2.1, below_cell hb hHeld.2.2.2.2.2.2.2.2.2.2.2.1, below_cell hb hHeld.2.2.2.2.2.2.2.2.2.2.2.2⟩ (fun hHeld => ?_); clear hK K; refine WL.put (ys := ?_) ?_ ?_; rotate_left; (focus dsimp only [List.set_cons_zero, List.set_cons_succ]; rfl))))
          refine WL.more [13] ?_
          repeat (first
            | (refine WL.off (lb' := ?_) (ys := ?_) rfl rfl (by rfl) ?_ HT_.out ?_ (fun _ _ _ h => h) ?_ ?_; rotate_left 2; (focus dsimp only [List.set_cons_zero, List.set_cons_succ]; rfl); (focus kernel_rfl); (focus dsimp only [List.set_cons_zero, List.set_cons_succ]; rfl))
            | (refine WL.pure (lb' := ?_) (v := ?_) (ys := ?_) rfl rfl (by rfl) ?_ HT_.out ?_ (fun _ _ _ h => h) ?_ ?_ ?_; rotate_left 3; (focus dsimp only [List.set_cons_zero, List.set_cons_succ]; rfl); (focus kernel_rfl); (focus intro w'; go_simp; with_reducible rfl); (focus dsimp only [List.set_cons_zero, List.set_cons_succ]; rfl))
            | (refine WL.take (lb' := ?_) (v := ?_) (ys := ?_) rfl rfl (by rfl) ?_ HT_.out ?_ (fun _ _ _ h => h) hHeld ?_ ?_ ?_; rotate_left 3; (focus dsimp only [List.set_cons_zero, List.set_cons_succ]; rfl); (focus kernel_rfl); (focus rintro w' ⟨s0, s1, s2, s3, s4, s5, s6, s7, s8, s9, s10, s11, s12⟩; go_simp; with_reducible rfl); (focus dsimp only [List.set_cons_zero, List.set_cons_succ]; rfl)))
          refine WL.more [14] ?_
          repeat (first
            | (refine WL.off (lb' := ?_) (ys := ?_) rfl rfl (by rfl) ?_ HT_.out ?_ (fun _ _ _ h => h) ?_ ?_; rotate_left 2; (focus dsimp only [List.set_cons_zero, List.set_cons_succ]; rfl); (focus kernel_rfl); (focus dsimp only [List.set_cons_zero, List.set_cons_succ]; rfl))
            | (refine WL.pure (lb' := ?_) (v := ?_) (ys := ?_) rfl rfl (by rfl) ?_ HT_.out ?_ (fun _ _ _ h => h) ?_ ?_ ?_; rotate_left 3; (focus dsimp only [List.set_cons_zero, List.set_cons_succ]; rfl); (focus kernel_rfl); (focus intro w'; go_simp; with_reducible rfl); (focus dsimp only [List.set_cons_zero, List.set_cons_succ]; rfl))
            | (refine WL.take (lb' := ?_) (v := ?_) (ys := ?_) rfl rfl (by rfl) ?_ HT_.out ?_ (fun _ _ _ h => h) hHeld ?_ ?_ ?_; rotate_left 3; (focus dsimp only [List.set_cons_zero, List.set_cons_succ]; rfl); (focus kernel_rfl); (focus rintro w' ⟨s0, s1, s2, s3, s4, s5, s6, s7, s8, s9, s10, s11, s12⟩; go_simp; with_reducible rfl); (focus dsimp only [List.set_cons_zero, List.set_cons_succ]; rfl))
            | (refine WL.one (lb' := ?_) rfl rfl ?_ HT_.out ?_ (by decide) (fun K hK => ?_); rotate_left; (focus dsimp only [List.set_cons_zero, List.set_cons_succ]; rfl); (focus kernel_rfl); first
                | (have HO6 := Lib.hid hHeld.2.1.out; have HB6 := Lib.hid hHeld.1.out; refine value_ (w1 := ?_) (v := ?_) (by rfl) rfl ?_ ?_; rotate_left 2; (focus go_simp; constructor; rfl; rfl); refine hK.out _ _ ⟨⟨below_alloc hHeld.1.out _⟩, ⟨Kd.R_alloc hHeld.2.1.out _⟩, below_cell (below_alloc (Below.refl _ _) _) hHeld.2.2.1, below_cell (below_alloc (Below.refl _ _) _) hHeld.2.2.2.1, below_cell (below_alloc (Below.refl _ _) _) hHeld.2.2.2.2.1, below_cell (below_alloc (Below.refl _ _) _) hHeld.2.2.2.2.2.1, below_cell (below_alloc (Below.refl _ _) _) hHeld.2.2.2.2.2.2.1, below_cell (below_alloc (Below.refl _ _) _) hHeld.2.2.2.2.2.2.2.1, below_cell (below_alloc (Below.refl _ _) _) hHeld.2.2.2.2.2.2.2.2.1, below_cell (below_alloc (Below.refl _ _) _) hHeld.2.2.2.2.2.2.2.2.2.1, below_cell (below_alloc (Below.refl _ _) _) hHeld.2.2.2.2.2.2.2.2.2.2.1, below_cell (below_alloc (Below.refl _ _) _) hHeld.2.2.2.2.2.2.2.2.2.2.2.1, below_cell (below_alloc (Below.refl _ _) _) hHeld.2.2.2.2.2.2.2.2.2.2.2.2⟩ (fun hHeld => ?_); clear hK K; refine WL.put (ys := ?_) ?_ ?_; rotate_left; (focus dsimp only [List.set_cons_zero, List.set_cons_succ]; rfl))))
          refine WL.more [15] ?_
          refine WL.last (lb' := ?_) rfl rfl ?_ HT_.out ?_ (by decide) (fun K hK => ?_); rotate_left; (focus dsimp only [List.set_cons_zero, List.set_cons_succ]; rfl); (focus kernel_rfl)
          refine Kd.R_append_step Kd.string (w0 := wq) wq.heap.size (by rfl) (.tmp 84) (.tmp 98) 34 9 (.string ⟨#[]⟩) 16 rfl Tryz.underlying34 info9 rfl (by decide) (by omega) u9 ((M.take j).map (lnC s)) ((⟨#[99, 108, 97, 115, 115, 32]⟩ : ByteArray) ++ c ++ (⟨#[32]⟩ : ByteArray) ++ tx) [.string ((⟨#[99, 108, 97, 115, 115, 32]⟩ : ByteArray) ++ c ++ (⟨#[32]⟩ : ByteArray) ++ tx)] (fun _ => True) (fun _ => False) rfl rfl rfl (fun _ hk => hk.elim) (fun _ _ => trivial) HO6.out HB6.out HB6.out.size (by rw [List.length_map, List.length_take]; have := HML.out; omega) ?_
          intro v9 w6 ho hb hg hat
          clear hat hg
          refine hK.out _ _ ?_
          clear hK K
          refine WL.put (ys := ?_) ?_ ?_
          rotate_left
          (focus dsimp only [List.set_cons_zero, List.set_cons_succ]; rfl)
          refine WL.more [16] ?_
          repeat (first
            | (refine WL.off (lb' := ?_) (ys := ?_) rfl rfl (by rfl) ?_ HT_.out ?_ (fun _ _ _ h => h) ?_ ?_; rotate_left 2; (focus dsimp only [List.set_cons_zero, List.set_cons_succ]; rfl); (focus kernel_rfl); (focus dsimp only [List.set_cons_zero, List.set_cons_succ]; rfl))
            | (refine WL.pure (lb' := ?_) (v := ?_) (ys := ?_) rfl rfl (by rfl) ?_ HT_.out ?_ (fun _ _ _ h => h) ?_ ?_ ?_; rotate_left 3; (focus dsimp only [List.set_cons_zero, List.set_cons_succ]; rfl); (focus kernel_rfl); (focus intro w'; go_simp; with_reducible rfl); (focus dsimp only [List.set_cons_zero, List.set_cons_succ]; rfl))
            | (refine WL.take (lb' := ?_) (v := ?_) (ys := ?_) rfl rfl (by rfl) ?_ HT_.out ?_ (fun _ _ _ h => h) hHeld ?_ ?_ ?_; rotate_left 3; (focus dsimp only [List.set_cons_zero, List.set_cons_succ]; rfl); (focus kernel_rfl); (focus rintro w' ⟨s0, s1, s2, s3, s4, s5, s6, s7, s8, s9, s10, s11, s12⟩; go_simp; with_reducible rfl); (focus dsimp only [List.set_cons_zero, List.set_cons_succ]; rfl)))
          refine WL.done HT_.out (by kernel_rfl) ?_
          clear q0 q1 q2 q3 q4 q5 q6 q7 q8 q9 hc1
          have HF := Lib.hid (And.intro ho hb)
          clear ho hb
          go_wp2
          go_roundw
          case rel => exact ⟨j + 1, by go_num, by omega, ⟨by rw [HTK.out, List.map_append, List.map_cons, List.map_nil, HLC.out]; exact HF.out.1⟩, ⟨HF.out.2⟩⟩
          case measure => simp [intOf]; omega
        · have hj2 : j = M.length := by omega
          subst hj2
          rw [List.take_length] at HOJ
          have HTE := Lib.hid (HCT.out ⟨#[]⟩ true wr HBJ.out)
          have zt := tx4_size (stN (cls true ⟨#[]⟩) s.f5)
          generalize tx4 (stN (cls true ⟨#[]⟩) s.f5) = tx at *
          have d0 : ¬ 9223372036854775807 < 4 + tx.size := by omega
          clear zt
          go_wp2_with (first | (go_at_call 33; refine HTE.out.out.mono ?_; rintro e w4 ⟨rfl, hb4⟩; have HO4 := Lib.hid (Kd.R_below HOJ.out hb4); have HB4 := Lib.hid (below_tr HBJ.out hb4); clear hb4) | ((with_reducible refine gate_builtin (b := .append) (xs := #[.tmp 100, .tmp 104]) rfl ?_); at_builtin; refine Kd.R_append Kd.string (w0 := wq) wq.heap.size rfl (.tmp 100) (.tmp 104) 34 9 (.string ⟨#[]⟩) 16 rfl Tryz.underlying34 info9 rfl (by decide) (by omega) u9 (M.map (lnC s)) ((⟨#[97, 108, 108, 32]⟩ : ByteArray) ++ tx) [.string ((⟨#[97, 108, 108, 32]⟩ : ByteArray) ++ tx)] (fun _ => True) (fun _ => False) rfl rfl rfl (fun _ hk => hk.elim) (fun _ _ => trivial) HO4.out HB4.out HB4.out.size (by rw [List.length_map]; have := HML.out; omega) ?_; intro v9 w5 ho hb hg hat; clear hg hat); obtain ⟨AR, cR, hvr, hlr, hcr⟩ := Kd.R_reads ho; subst hvr; have HF := Lib.hid (And.intro hlr (And.intro hcr (below_tr HB0.out hb))); clear hlr hcr ho hb)
          go_ret
          rw [← HMN.out] at HF
          refine ⟨AR, cR, ?_, HF.out.1, HF.out.2.1, HF.out.2.2⟩
          rw [HMN.out, List.length_append, List.length_map]
          rfl
end Go.Proofs.YtafigkikblpbnaaGreatDoor.PG
namespace Go.Proofs.YtafigkikblpbnaaGreatDoor.PG
open Go.RowKit Go.Proofs.YtafigkikblpbnaaGreatDoorW.PrintWords Go.Proofs.YtafigkikblpbnaaGreatDoorW.PrintLast Go.Proofs.YtafigkikblpbnaaGreatDoorW.PrintMore
set_option linter.unusedVariables false
set_option linter.unusedSimpArgs false
set_option maxRecDepth 100000
theorem tab10_6 : rtab .any (opsOf Tryz.f10 6) = (true, [([], []), ([], []), ([0, 1], [0, 1]), ([2], [2]), ([], []), ([], []), ([4, 5], [4, 5]), ([6], [6]), ([3, 7], [3, 7])]) := by kernel_rfl

/-- Two lists that are the same: it answers true. -/
theorem SameNames_eq (xs : List ByteArray) (A B : Option Addr) (ca cb : Nat) (W : World) (hA : Kd.C Kd.string W A xs.length xs) (hB : Kd.C Kd.string W B xs.length xs) :
    Calls Tryz.prog 10 #[.slice A xs.length ca, .slice B xs.length cb] W fun e w' => e = .returned (.bool true) ∧ Below W.heap.size W w' := by
  have HA := Lib.hid hA
  have HB := Lib.hid hB
  have hm : xs.length ≤ 9223372036854775807 := hA.2.1
  clear hA hB
  go_enter Tryz.func10, Tryz.ntmps10
  go_wp2
  go_loopw [5] (fun v5 wr => ∃ k : Nat, v5 = .int .i64 k ∧ k ≤ xs.length ∧ Aside0 (Below W.heap.size W wr)) (fun v5 _ => xs.length - (intOf v5).toNat)
  case atStart => exact ⟨0, rfl, Nat.zero_le _, ⟨Below.refl _ _⟩⟩
  case round =>
    obtain ⟨k, rfl, hk, HW⟩ := hrel
    by_cases hlt : k < xs.length
    · have hlt2 : (k : Int) < (xs.length : Int) := by omega
      obtain ⟨ada, e, g0⟩ := Kd.at_string (Kd.C_below HA.out HW.out) (k : Int) (by omega) (by omega)
      obtain ⟨adb, e2, h0⟩ := Kd.at_string (Kd.C_below HB.out HW.out) (k : Int) (by omega) (by omega)
      subst e
      subst e2
      simp only [Int.toNat_natCast] at g0 h0
      generalize rdOf ByteArray.empty xs (k : Int) = y at *
      go_wp2_with fail
      refine WL.start (n := 9) (S := fun w' => w'.cell? (ada.add k) = some (.string y) ∧ w'.cell? (adb.add k) = some (.string y)) (ds := []) [false, false, false, false, false, false, false, false, false] (by kernel_rfl) rfl rfl ⟨g0, h0⟩ (fun hHeld => ?_)
      refine WL.tab tab10_6 (fun HT_ => ?_)
      refine WL.more [0, 1, 2, 4, 5, 6, 3, 7, 8] ?_
      repeat (first
        | (refine WL.off (lb' := ?_) (ys := ?_) rfl rfl (by rfl) ?_ HT_.out ?_ (fun _ _ _ h => h) ?_ ?_; rotate_left 2; (focus dsimp only [List.set_cons_zero, List.set_cons_succ]; rfl); (focus kernel_rfl); (focus dsimp only [List.set_cons_zero, List.set_cons_succ]; rfl))
        | (refine WL.pure (lb' := ?_) (v := ?_) (ys := ?_) rfl rfl (by rfl) ?_ HT_.out ?_ (fun _ _ _ h => h) ?_ ?_ ?_; rotate_left 3; (focus dsimp only [List.set_cons_zero, List.set_cons_succ]; rfl); (focus kernel_rfl); (focus intro w'; go_simp; with_reducible rfl); (focus dsimp only [List.set_cons_zero, List.set_cons_succ]; rfl))
        | (refine WL.take (lb' := ?_) (v := ?_) (ys := ?_) rfl rfl (by rfl) ?_ HT_.out ?_ (fun _ _ _ h => h) hHeld ?_ ?_ ?_; rotate_left 3; (focus dsimp only [List.set_cons_zero, List.set_cons_succ]; rfl); (focus kernel_rfl); (focus rintro w' ⟨s0, s1⟩; go_simp; with_reducible rfl); (focus dsimp only [List.set_cons_zero, List.set_cons_succ]; rfl)))
      refine WL.done HT_.out (by kernel_rfl) ?_
      clear hHeld g0 h0
      go_wp2
      go_roundw
      case rel => exact ⟨k + 1, by go_num, by omega, ⟨below_drew HW.out⟩⟩
      case measure => simp [intOf]; omega
    · have hk2 : k = xs.length := by omega
      subst hk2
      have hq : ¬ (xs.length : Int) < (xs.length : Int) := by omega
      go_wp2
      go_ret
      exact ⟨rfl, HW.out⟩
end Go.Proofs.YtafigkikblpbnaaGreatDoor.PG
namespace Go.Proofs.YtafigkikblpbnaaGreatDoor.PG
open Go.RowKit Go.Proofs.YtafigkikblpbnaaGreatDoorW.PrintWords Go.Proofs.YtafigkikblpbnaaGreatDoorW.PrintLast Go.Proofs.YtafigkikblpbnaaGreatDoorW.PrintMore
set_option linter.unusedVariables false
set_option linter.unusedSimpArgs false
set_option maxRecDepth 100000

theorem num_eq (n : Int) (w : World) : Calls Tryz.prog 11 #[.int .i64 n] w fun e w' => e = .returned (.int .i64 n) ∧ w' = w := by
  go_enter Tryz.func11, Tryz.ntmps11
  go_wp2
  go_ret
  exact ⟨rfl, rfl⟩
def zst : S31 := ⟨0, 0, [], [], [], [], [], [], [], 0⟩
theorem zst_rs (W : World) : Rs W zst none none none none none none none 0 0 0 0 0 0 0 :=
  ⟨Kd.C_nil _ _, Nat.le_refl _, Kd.C_nil _ _, Nat.le_refl _, Kd.C_nil _ _, Nat.le_refl _, Kd.C_nil _ _, Nat.le_refl _, Kd.C_nil _ _, Nat.le_refl _, Kd.C_nil _ _, Nat.le_refl _, Kd.C_nil _ _, Nat.le_refl _⟩
theorem zst_ln : lnL zst = [(⟨#[97, 108, 108, 32, 48, 32, 48, 32, 48, 32, 48]⟩ : ByteArray)] := by
  have h : nms zst zst.f5.length = [] := rfl
  unfold lnL
  rw [h, ordN_nil]
  rfl
/-- The document's and the program's: days that may not be. -/
theorem ComingP_neg (s : S31) (A2 A3 A4 A5 A6 A7 A8 : Option Addr) (c2 c3 c4 c5 c6 c7 c8 : Nat) (W : World) : Calls Tryz.prog 8 #[.agg #[.int .i64 s.f0, .int .u64 s.f1, .slice A2 s.f2.length c2, .slice A3 s.f3.length c3, .slice A4 s.f4.length c4, .slice A5 s.f5.length c5, .slice A6 s.f6.length c6, .slice A7 s.f7.length c7, .slice A8 s.f8.length c8, .int .i64 s.f9], .int .i64 (-1)] W fun e w' => e = .returned (.tuple #[.slice none 0 0, .int .i64 1]) ∧ Below W.heap.size W w' := by
  have HB := Lib.hid (show Below W.heap.size W (W.alloc (.cells #[.int .i64 s.f0, .int .u64 s.f1, .slice A2 s.f2.length c2, .slice A3 s.f3.length c3, .slice A4 s.f4.length c4, .slice A5 s.f5.length c5, .slice A6 s.f6.length c6, .slice A7 s.f7.length c7, .slice A8 s.f8.length c8, .int .i64 s.f9] 31 (0, 0))) from below_alloc (Below.refl _ _) _)
  go_enter Tryz.func8, Tryz.ntmps8
  go_wp2
  go_ret2
  exact ⟨rfl, HB.out⟩
set_option maxHeartbeats 1000000 in
/-- The page's example. -/
theorem live_eq (W : World) : Calls Tryz.prog 7 #[] W fun e w' => e = .returned (.bool true) ∧ Below W.heap.size W w' := by
  have HC := Lib.hid (show Calls Tryz.prog 8 #[.agg #[.int .i64 0, .int .u64 0, .slice none 0 0, .slice none 0 0, .slice none 0 0, .slice none 0 0, .slice none 0 0, .slice none 0 0, .slice none 0 0, .int .i64 0], .int .i64 (-1)] W fun e w' => e = .returned (.tuple #[.slice none 0 0, .int .i64 1]) ∧ Below W.heap.size W w' from ComingP_neg zst none none none none none none none 0 0 0 0 0 0 0 W)
  have HL := Lib.hid (fun w => (show Calls Tryz.prog 12 #[.agg #[.int .i64 0, .int .u64 0, .slice none 0 0, .slice none 0 0, .slice none 0 0, .slice none 0 0, .slice none 0 0, .slice none 0 0, .slice none 0 0, .int .i64 0]] w (RNm [(⟨#[97, 108, 108, 32, 48, 32, 48, 32, 48, 32, 48]⟩ : ByteArray)] w) by
    have h := LinesP_any zst none none none none none none none 0 0 0 0 0 0 0 w (zst_rs w) (fun k h => absurd h (Nat.not_lt_zero _)) (fun r h => absurd h List.not_mem_nil) (Nat.zero_le _)
    rw [zst_ln] at h
    exact h))
  have HN := Lib.hid num_eq
  go_enter Tryz.func7, Tryz.ntmps7
  go_wp2_with fail
  refine HC.out.mono ?_
  rintro e w2 ⟨rfl, hb⟩
  have HB2 := Lib.hid hb
  clear hb
  go_wp2_with fail
  refine (HL.out w2).mono ?_
  rintro e w3 ⟨A, c, rfl, hl, hC, hb⟩
  have HB3 := Lib.hid (below_tr HB2.out hb)
  have HC3 := Lib.hid hC
  clear hl hC hb
  obtain ⟨w4, hw4⟩ : ∃ w4, w3.alloc (.cells #[.string (⟨#[97, 108, 108, 32, 48, 32, 48, 32, 48, 32, 48]⟩ : ByteArray)] 9 (0, 0)) = w4 := ⟨_, rfl⟩
  have HB4 := Lib.hid (show Below w3.heap.size w3 w4 by rw [← hw4]; exact below_alloc (Below.refl _ _) _)
  have HX4 := Lib.hid (show w4.heap[w3.heap.size]? = some (.cells #[.string (⟨#[97, 108, 108, 32, 48, 32, 48, 32, 48, 32, 48]⟩ : ByteArray)] 9 (0, 0)) by rw [← hw4]; exact new_blk w3 _)
  have HW4 := Lib.hid hw4
  have HS := Lib.hid (SameNames_eq [(⟨#[97, 108, 108, 32, 48, 32, 48, 32, 48, 32, 48]⟩ : ByteArray)] A (some ⟨w3.heap.size, 0, none⟩) c 1 w4 (Kd.C_below HC3.out HB4.out) (Kd.C_of_reads (d := ByteArray.empty) ⟨rfl, by decide, fun _ => ⟨_, rfl, fun j hj => by
    have : j = 0 := by have h_ : j < 1 := hj; omega
    subst this
    exact (blk_cell HX4.out 0).trans rfl⟩⟩))
  clear hw4
  go_wp2_with fail
  rw [HW4.out]
  refine HS.out.mono ?_
  rintro e w5 ⟨rfl, hb⟩
  have HB5 := Lib.hid (below_tr HB3.out (below_tr HB4.out hb))
  clear hb
  go_wp2_with (go_at_call 11; refine (HN.out _ _).mono ?_; rintro e w6 ⟨rfl, rfl⟩)
  go_ret
  exact ⟨rfl, HB5.out⟩
end Go.Proofs.YtafigkikblpbnaaGreatDoor.PG
