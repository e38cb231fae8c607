/- What is to be reviewed, in the program. What is to be reviewed, in the document. The document's questions of a work: is it held, is it due. Of the lists alone: the document's items are the program's, and the command's. The document's count of what is to be reviewed. The document's way through its commands, at the command of review; no condition beyond each theorem its own. -/
import Derived.Test.YtafigkikblpbnaaGreatHandAI
import Derived.Test.YtafigkikblpbnaaGreatHandAG
import Derived.Test.YtafigkikblpbnaaGreatJ18
import Derived.Test.YtafigkikblpbnaaGreatJ11
import Derived.Test.YtafigkikblpbnaaGreatJ07
namespace Go.Proofs.YtafigkikblpbnaaGreat.PG
open Go.RowKit Go.Proofs.YtafigkikblpbnaaGreatW.PrintWords Go.Proofs.YtafigkikblpbnaaGreatW.PrintLast Go.Proofs.YtafigkikblpbnaaGreatW.PrintMore
set_option linter.unusedVariables false
set_option linter.unusedSimpArgs false
set_option maxRecDepth 100000

theorem info39 : (Tryz.prog.info? 39).map (fun i => (i.zero, i.size, i.bytes)) = some (some (.agg #[.string ⟨#[]⟩, .int .i64 0, .int .i64 0]), 3, 32) := by kernel_rfl
/-- The items that are to be reviewed, of the first n records. -/
def revs (d : Nat) (s : S31) : Nat → List S40
  | 0 => []
  | n + 1 => revs d s n ++ (if (rvL d s (n : Int) (rd_T73 s.f5 (n : Int))).2 = true then [(rvL d s (n : Int) (rd_T73 s.f5 (n : Int))).1] else [])
theorem revs_len (d : Nat) (s : S31) : ∀ n, (revs d s n).length ≤ n
  | 0 => Nat.le_refl _
  | n + 1 => by
    have := revs_len d s n
    unfold revs
    rw [List.length_append]
    split <;> simp <;> omega
/-- It answers a list of items. -/
def RIts (l : List S40) (W : World) (e : Ending) (w' : World) : Prop := ∃ (A : Option Addr) (c : Nat), e = .returned (.slice A l.length c) ∧ l.length ≤ c ∧ Kd.C k40 w' A l.length l ∧ Below W.heap.size W w'
set_option maxHeartbeats 4000000 in
theorem QOf_any (d : Nat) (s : S31) (A2 A3 A4 A5 A6 A7 A8 : Option Addr) (c2 c3 c4 c5 c6 c7 c8 : Nat) (W : World) (hs : Rs W s A2 A3 A4 A5 A6 A7 A8 c2 c3 c4 c5 c6 c7 c8) (ha : Ask d s) (hn : s.f5.length ≤ 1000) :
    Calls Tryz.prog 7 #[.agg #[.int .i64 s.f0, .int .u64 s.f1, .slice A2 s.f2.length c2, .slice A3 s.f3.length c3, .slice A4 s.f4.length c4, .slice A5 s.f5.length c5, .slice A6 s.f6.length c6, .slice A7 s.f7.length c7, .slice A8 s.f8.length c8, .int .i64 s.f9]] W (RIts (sortI (revs d s s.f5.length)) W) := by
  have HB := Lib.hid (show Below W.heap.size W (W.alloc (.cells #[.int .i64 s.f0, .int .u64 s.f1, .slice A2 s.f2.length c2, .slice A3 s.f3.length c3, .slice A4 s.f4.length c4, .slice A5 s.f5.length c5, .slice A6 s.f6.length c6, .slice A7 s.f7.length c7, .slice A8 s.f8.length c8, .int .i64 s.f9] 31 (0, 0))) from below_alloc (Below.refl _ _) _)
  have HY := Lib.hid (new_blk W (.cells #[.int .i64 s.f0, .int .u64 s.f1, .slice A2 s.f2.length c2, .slice A3 s.f3.length c3, .slice A4 s.f4.length c4, .slice A5 s.f5.length c5, .slice A6 s.f6.length c6, .slice A7 s.f7.length c7, .slice A8 s.f8.length c8, .int .i64 s.f9] 31 (0, 0)))
  have HS := Lib.hid (hs.below HB.out)
  have HA := Lib.hid ha
  have hn2 : (s.f5.length : Int) ≤ 1000 := by omega
  have q5 : (W.alloc (.cells #[.int .i64 s.f0, .int .u64 s.f1, .slice A2 s.f2.length c2, .slice A3 s.f3.length c3, .slice A4 s.f4.length c4, .slice A5 s.f5.length c5, .slice A6 s.f6.length c6, .slice A7 s.f7.length c7, .slice A8 s.f8.length c8, .int .i64 s.f9] 31 (0, 0))).cell? ⟨W.heap.size, 5, none⟩ = some (.slice A5 s.f5.length c5) := (blk_cell HY.out 5).trans rfl
  clear hs ha
  go_enter Tryz.func7, Tryz.ntmps7
  go_wp2
  generalize W.alloc (.cells #[.int .i64 s.f0, .int .u64 s.f1, .slice A2 s.f2.length c2, .slice A3 s.f3.length c3, .slice A4 s.f4.length c4, .slice A5 s.f5.length c5, .slice A6 s.f6.length c6, .slice A7 s.f7.length c7, .slice A8 s.f8.length c8, .int .i64 s.f9] 31 (0, 0)) = W1 at *
  clear q5
  go_loopw [3, 11] (fun v3 v11 wr => ∃ k : Nat, v11 = .int .i64 k ∧ k ≤ s.f5.length ∧ Aside0 (Kd.R k40 39 wr W1.heap.size (fun _ => True) v3 (revs d s k)) ∧ Aside0 (Below W1.heap.size W1 wr)) (fun _ v11 _ => s.f5.length - (intOf v11).toNat)
  case atStart => exact ⟨0, rfl, Nat.zero_le _, ⟨Kd.R_nil _ _ _ _ _⟩, ⟨Below.refl _ _⟩⟩
  case round =>
    obtain ⟨k, rfl, hk, HO, HBW⟩ := hrel
    have HY2 := Lib.hid ((HBW.out.block W.heap.size (blk_lt HY.out)).trans HY.out)
    have HS2 := Lib.hid (HS.out.below HBW.out)
    by_cases hlt : k < s.f5.length
    · have hlt2 : (k : Int) < (s.f5.length : Int) := by omega
      obtain ⟨ad, e, h0, h1, h2, h3, h4, h5⟩ := at_T73 HS2.out.g5 (k : Int) (by omega) (by omega)
      subst e
      simp only [Int.toNat_natCast] at h0 h1 h2 h3 h4 h5
      have HRV := Lib.hid (show revs d s (k + 1) = revs d s k ++ (if (rvL d s (k : Int) (rd_T73 s.f5 (k : Int))).2 = true then [(rvL d s (k : Int) (rd_T73 s.f5 (k : Int))).1] else []) from rfl)
      generalize rd_T73 s.f5 (k : Int) = y at *
      have hbE := below_alloc (Below.refl wr.heap.size wr) (.cells #[.string y.f0, .string y.f1, .string y.f2, .string y.f3, .int .i64 y.f4, .int .i64 y.f5] 73 (0, 0))
      have HYE := (hbE.block W.heap.size (blk_lt HY2.out)).trans HY2.out
      have q0 : (wr.alloc (.cells #[.string y.f0, .string y.f1, .string y.f2, .string y.f3, .int .i64 y.f4, .int .i64 y.f5] 73 (0, 0))).cell? ⟨W.heap.size, 0, none⟩ = some (.int .i64 s.f0) := (blk_cell HYE 0).trans rfl
      have q1 : (wr.alloc (.cells #[.string y.f0, .string y.f1, .string y.f2, .string y.f3, .int .i64 y.f4, .int .i64 y.f5] 73 (0, 0))).cell? ⟨W.heap.size, 1, none⟩ = some (.int .u64 s.f1) := (blk_cell HYE 1).trans rfl
      have q2 : (wr.alloc (.cells #[.string y.f0, .string y.f1, .string y.f2, .string y.f3, .int .i64 y.f4, .int .i64 y.f5] 73 (0, 0))).cell? ⟨W.heap.size, 2, none⟩ = some (.slice A2 s.f2.length c2) := (blk_cell HYE 2).trans rfl
      have q3 : (wr.alloc (.cells #[.string y.f0, .string y.f1, .string y.f2, .string y.f3, .int .i64 y.f4, .int .i64 y.f5] 73 (0, 0))).cell? ⟨W.heap.size, 3, none⟩ = some (.slice A3 s.f3.length c3) := (blk_cell HYE 3).trans rfl
      have q4 : (wr.alloc (.cells #[.string y.f0, .string y.f1, .string y.f2, .string y.f3, .int .i64 y.f4, .int .i64 y.f5] 73 (0, 0))).cell? ⟨W.heap.size, 4, none⟩ = some (.slice A4 s.f4.length c4) := (blk_cell HYE 4).trans rfl
      have q5 : (wr.alloc (.cells #[.string y.f0, .string y.f1, .string y.f2, .string y.f3, .int .i64 y.f4, .int .i64 y.f5] 73 (0, 0))).cell? ⟨W.heap.size, 5, none⟩ = some (.slice (some ad) s.f5.length c5) := (blk_cell HYE 5).trans rfl
      have q6 : (wr.alloc (.cells #[.string y.f0, .string y.f1, .string y.f2, .string y.f3, .int .i64 y.f4, .int .i64 y.f5] 73 (0, 0))).cell? ⟨W.heap.size, 6, none⟩ = some (.slice A6 s.f6.length c6) := (blk_cell HYE 6).trans rfl
      have q7 : (wr.alloc (.cells #[.string y.f0, .string y.f1, .string y.f2, .string y.f3, .int .i64 y.f4, .int .i64 y.f5] 73 (0, 0))).cell? ⟨W.heap.size, 7, none⟩ = some (.slice A7 s.f7.length c7) := (blk_cell HYE 7).trans rfl
      have q8 : (wr.alloc (.cells #[.string y.f0, .string y.f1, .string y.f2, .string y.f3, .int .i64 y.f4, .int .i64 y.f5] 73 (0, 0))).cell? ⟨W.heap.size, 8, none⟩ = some (.slice A8 s.f8.length c8) := (blk_cell HYE 8).trans rfl
      have q9 : (wr.alloc (.cells #[.string y.f0, .string y.f1, .string y.f2, .string y.f3, .int .i64 y.f4, .int .i64 y.f5] 73 (0, 0))).cell? ⟨W.heap.size, 9, none⟩ = some (.int .i64 s.f9) := (blk_cell HYE 9).trans rfl
      have HRE := Lib.hid (review_any d s _ _ _ _ _ _ _ _ _ _ _ _ _ _ (k : Int) y (wr.alloc (.cells #[.string y.f0, .string y.f1, .string y.f2, .string y.f3, .int .i64 y.f4, .int .i64 y.f5] 73 (0, 0))) (HS2.out.below hbE) HA.out)
      have HBE := Lib.hid (below_tr HBW.out hbE)
      have HOE := Lib.hid (Kd.R_below HO.out hbE)
      clear hbE HYE
      generalize rvL d s (k : Int) y = vb at *
      obtain ⟨v, b⟩ := vb
      go_wp2_with fail
      refine HRE.out.mono ?_
      rintro e w2 ⟨rfl, hb⟩
      have hb3 := below_tr hb (below_alloc (Below.refl w2.heap.size w2) (.cells #[.string v.f0, .int .i64 v.f1, .int .i64 v.f2] 39 (0, 0)))
      have HB3 := Lib.hid (below_tr HBE.out hb3)
      have HSZ := Lib.hid (show (w2.alloc (.cells #[.string v.f0, .int .i64 v.f1, .int .i64 v.f2] 39 (0, 0))).heap.size = w2.heap.size + 1 by show (w2.heap.push _).size = _; rw [Array.size_push])
      have HO3 := Lib.hid (Kd.R_below HOE.out hb3)
      clear hb hb3 q0 q1 q2 q3 q4 q5 q6 q7 q8 q9 h0 h1 h2 h3 h4 h5
      cases b
      · go_wp2
        go_roundw
        case rel => exact ⟨k + 1, by go_num, by omega, ⟨by rw [HRV.out]; simpa using HO3.out⟩, ⟨HB3.out⟩⟩
        case measure => simp [intOf]; omega
      · go_wp2_with ((with_reducible refine gate_builtin (b := .append) (xs := #[.tmp 24, .tmp 26]) rfl ?_); at_builtin; refine Kd.R_append k40 (w0 := W1) W1.heap.size rfl (.tmp 24) (.tmp 26) 34 39 (.agg #[(.string ⟨#[]⟩), (.int .i64 0), (.int .i64 0)]) 32 rfl Tryz.underlying34 info39 rfl (by decide) (by omega) u3 (revs d s k) v [.string v.f0, .int .i64 v.f1, .int .i64 v.f2] (fun _ => True) (fun _ => False) rfl (by rw [HSZ.out]; rfl) (k40_mkM _ _ _ v) (fun _ hk => hk.elim) (fun _ _ => trivial) HO3.out HB3.out HB3.out.size (by have := revs_len d s k; omega) ?_; intro v9 w4 ho hb hg hat; clear hg hat)
        go_roundw
        case rel => exact ⟨k + 1, by go_num, by omega, ⟨by rw [HRV.out]; simpa using ho⟩, ⟨hb⟩⟩
        case measure => simp [intOf]; omega
    · have hk2 : k = s.f5.length := by omega
      subst hk2
      have HL := Lib.hid (revs_len d s s.f5.length)
      generalize hz : revs d s s.f5.length = zs at *
      have HSO := Lib.hid (Sort_any zs W1.heap.size u3 W1 wr HO.out HBW.out HBW.out.size (by have := HL.out; omega))
      have HLE := Lib.hid (sortI_perm zs).length_eq
      go_wp2_with fail
      refine HSO.out.mono ?_
      rintro e w2 ⟨rfl, A6, c6, hv, hl6, hC6, hb6⟩
      subst hv
      have HF := Lib.hid (And.intro hl6 (And.intro hC6 hb6))
      clear hl6 hC6 hb6
      go_wp2
      go_ret
      exact ⟨A6, c6, by rw [HLE.out]; rfl, by rw [HLE.out]; exact HF.out.1, by rw [HLE.out]; exact HF.out.2.1, below_tr HB.out HF.out.2.2⟩
end Go.Proofs.YtafigkikblpbnaaGreat.PG
namespace Go.Proofs.YtafigkikblpbnaaGreat.PG
open Go.RowKit Go.Proofs.YtafigkikblpbnaaGreatW.PrintWords Go.Proofs.YtafigkikblpbnaaGreatW.PrintLast Go.Proofs.YtafigkikblpbnaaGreatW.PrintMore
set_option linter.unusedVariables false
set_option linter.unusedSimpArgs false
set_option maxRecDepth 100000
theorem tab8_8 : rtab .any (opsOf Tryz.f8 8) = (true, [([], []), ([0], [0]), ([], []), ([], []), ([3], [3]), ([], []), ([4, 5], [4, 5]), ([6], [6]), ([1, 2, 7], [1, 2, 7]), ([8], [8]), ([9], [9]), ([9], [9]), ([9], [9]), ([10, 8, 0, 1, 2, 3, 4, 5, 6, 7, 8, 9, 10], [10]), ([11, 13, 0, 1, 2, 3, 4, 5, 6, 7, 8, 9, 10, 11, 13], [11]), ([12, 14, 0, 1, 2, 3, 4, 5, 6, 7, 8, 9, 10, 11, 12, 13, 14], [12])]) := by kernel_rfl

/-- The document's items: one put behind the other. -/
def refs (d : Nat) (s : S31) : Nat → List S40
  | 0 => []
  | n + 1 => if (rvL d s (n : Int) (rd_T73 s.f5 (n : Int))).2 = true then (putL (refs d s n) (rvL d s (n : Int) (rd_T73 s.f5 (n : Int))).1).1 else refs d s n
theorem refs_len (d : Nat) (s : S31) : ∀ n, (refs d s n).length ≤ n
  | 0 => Nat.le_refl _
  | n + 1 => by
    have := refs_len d s n
    unfold refs
    split
    · unfold putL
      split
      · exact Nat.le_succ_of_le this
      · split
        · exact Nat.le_succ_of_le this
        · rw [insB_len]; omega
    · exact Nat.le_succ_of_le this
set_option maxHeartbeats 4000000 in
theorem ROf_any (d : Nat) (s : S31) (A2 A3 A4 A5 A6 A7 A8 : Option Addr) (c2 c3 c4 c5 c6 c7 c8 : Nat) (W : World) (hs : Rs W s A2 A3 A4 A5 A6 A7 A8 c2 c3 c4 c5 c6 c7 c8) (ha : Ask d s) (hn : s.f5.length ≤ 1000) :
    Calls Tryz.prog 8 #[.agg #[.int .i64 s.f0, .int .u64 s.f1, .slice A2 s.f2.length c2, .slice A3 s.f3.length c3, .slice A4 s.f4.length c4, .slice A5 s.f5.length c5, .slice A6 s.f6.length c6, .slice A7 s.f7.length c7, .slice A8 s.f8.length c8, .int .i64 s.f9]] W (RIts (refs d s s.f5.length) W) := by
  have HB := Lib.hid (show Below W.heap.size W (W.alloc (.cells #[.int .i64 s.f0, .int .u64 s.f1, .slice A2 s.f2.length c2, .slice A3 s.f3.length c3, .slice A4 s.f4.length c4, .slice A5 s.f5.length c5, .slice A6 s.f6.length c6, .slice A7 s.f7.length c7, .slice A8 s.f8.length c8, .int .i64 s.f9] 31 (0, 0))) from below_alloc (Below.refl _ _) _)
  have HY := Lib.hid (new_blk W (.cells #[.int .i64 s.f0, .int .u64 s.f1, .slice A2 s.f2.length c2, .slice A3 s.f3.length c3, .slice A4 s.f4.length c4, .slice A5 s.f5.length c5, .slice A6 s.f6.length c6, .slice A7 s.f7.length c7, .slice A8 s.f8.length c8, .int .i64 s.f9] 31 (0, 0)))
  have HS := Lib.hid (hs.below HB.out)
  have HA := Lib.hid ha
  have hn2 : (s.f5.length : Int) ≤ 1000 := by omega
  clear hs ha
  go_enter Tryz.func8, Tryz.ntmps8
  go_wp2
  generalize W.alloc (.cells #[.int .i64 s.f0, .int .u64 s.f1, .slice A2 s.f2.length c2, .slice A3 s.f3.length c3, .slice A4 s.f4.length c4, .slice A5 s.f5.length c5, .slice A6 s.f6.length c6, .slice A7 s.f7.length c7, .slice A8 s.f8.length c8, .int .i64 s.f9] 31 (0, 0)) = W1 at *
  go_loopw [3, 4] (fun v3 v4 wr => ∃ (k : Nat) (A9 : Option Addr) (c9 : Nat), v3 = .slice A9 (refs d s k).length c9 ∧ v4 = .int .i64 k ∧ k ≤ s.f5.length ∧ Aside0 ((refs d s k).length ≤ c9) ∧ Aside0 (Kd.C k40 wr A9 (refs d s k).length (refs d s k)) ∧ Aside0 (Below W1.heap.size W1 wr)) (fun _ v4 _ => s.f5.length - (intOf v4).toNat)
  case atStart => exact ⟨0, none, 0, rfl, rfl, Nat.zero_le _, ⟨Nat.le_refl _⟩, ⟨Kd.C_nil _ _⟩, ⟨Below.refl _ _⟩⟩
  case round =>
    obtain ⟨k, A9, c9, rfl, rfl, hk, HL9, HC9, HBW⟩ := hrel
    have HY2 := Lib.hid ((HBW.out.block W.heap.size (blk_lt HY.out)).trans HY.out)
    have HS2 := Lib.hid (HS.out.below HBW.out)
    have q0 : (wr).cell? ⟨W.heap.size, 0, none⟩ = some (.int .i64 s.f0) := (blk_cell HY2.out 0).trans rfl
    have q1 : (wr).cell? ⟨W.heap.size, 1, none⟩ = some (.int .u64 s.f1) := (blk_cell HY2.out 1).trans rfl
    have q2 : (wr).cell? ⟨W.heap.size, 2, none⟩ = some (.slice A2 s.f2.length c2) := (blk_cell HY2.out 2).trans rfl
    have q3 : (wr).cell? ⟨W.heap.size, 3, none⟩ = some (.slice A3 s.f3.length c3) := (blk_cell HY2.out 3).trans rfl
    have q4 : (wr).cell? ⟨W.heap.size, 4, none⟩ = some (.slice A4 s.f4.length c4) := (blk_cell HY2.out 4).trans rfl
    have q5 : (wr).cell? ⟨W.heap.size, 5, none⟩ = some (.slice A5 s.f5.length c5) := (blk_cell HY2.out 5).trans rfl
    have q6 : (wr).cell? ⟨W.heap.size, 6, none⟩ = some (.slice A6 s.f6.length c6) := (blk_cell HY2.out 6).trans rfl
    have q7 : (wr).cell? ⟨W.heap.size, 7, none⟩ = some (.slice A7 s.f7.length c7) := (blk_cell HY2.out 7).trans rfl
    have q8 : (wr).cell? ⟨W.heap.size, 8, none⟩ = some (.slice A8 s.f8.length c8) := (blk_cell HY2.out 8).trans rfl
    have q9 : (wr).cell? ⟨W.heap.size, 9, none⟩ = some (.int .i64 s.f9) := (blk_cell HY2.out 9).trans rfl
    by_cases hlt : k < s.f5.length
    · have hlt2 : (k : Int) < (s.f5.length : Int) := by omega
      obtain ⟨ad, e, h0, h1, h2, h3, h4, h5⟩ := at_T73 HS2.out.g5 (k : Int) (by omega) (by omega)
      subst e
      simp only [Int.toNat_natCast] at h0 h1 h2 h3 h4 h5
      have HRV := Lib.hid (show refs d s (k + 1) = if (rvL d s (k : Int) (rd_T73 s.f5 (k : Int))).2 = true then (putL (refs d s k) (rvL d s (k : Int) (rd_T73 s.f5 (k : Int))).1).1 else refs d s k from rfl)
      have HLN := Lib.hid (refs_len d s k)
      generalize rd_T73 s.f5 (k : Int) = y at *
      generalize hrf : refs d s k = L at *
      clear hrf
      obtain ⟨w3, hw3⟩ : ∃ w3, wr.alloc (.cells #[.string y.f0, .string y.f1, .string y.f2, .string y.f3, .int .i64 y.f4, .int .i64 y.f5] 73 (0, 0)) = w3 := ⟨_, rfl⟩
      have HB3 := Lib.hid (show Below wr.heap.size wr w3 by rw [← hw3]; exact below_alloc (Below.refl _ _) _)
      have HY3 := Lib.hid (show w3.heap[wr.heap.size]? = some (.cells #[.string y.f0, .string y.f1, .string y.f2, .string y.f3, .int .i64 y.f4, .int .i64 y.f5] 73 (0, 0)) by rw [← hw3]; exact new_blk wr _)
      have HW3 := Lib.hid hw3
      clear hw3
      have HCA := Lib.hid (Case_eq s _ _ _ _ _ _ _ _ _ _ _ _ _ _ y.f1 w3 (HS2.out.below HB3.out))
      have HJR := Lib.hid (ix_range (nm59 y.f1) s.f3 0)
      have HCI := Lib.hid (show csI s y = ix (nm59 y.f1) s.f3 0 from rfl)
      generalize ix (nm59 y.f1) s.f3 0 = ci at *
      have p0 : (wr.alloc (.cells #[.string y.f0, .string y.f1, .string y.f2, .string y.f3, .int .i64 y.f4, .int .i64 y.f5] 73 (0, 0))).cell? ⟨W.heap.size, 0, none⟩ = some (.int .i64 s.f0) := below_cell (below_alloc (Below.refl _ _) _) q0
      have p1 : (wr.alloc (.cells #[.string y.f0, .string y.f1, .string y.f2, .string y.f3, .int .i64 y.f4, .int .i64 y.f5] 73 (0, 0))).cell? ⟨W.heap.size, 1, none⟩ = some (.int .u64 s.f1) := below_cell (below_alloc (Below.refl _ _) _) q1
      have p2 : (wr.alloc (.cells #[.string y.f0, .string y.f1, .string y.f2, .string y.f3, .int .i64 y.f4, .int .i64 y.f5] 73 (0, 0))).cell? ⟨W.heap.size, 2, none⟩ = some (.slice A2 s.f2.length c2) := below_cell (below_alloc (Below.refl _ _) _) q2
      have p3 : (wr.alloc (.cells #[.string y.f0, .string y.f1, .string y.f2, .string y.f3, .int .i64 y.f4, .int .i64 y.f5] 73 (0, 0))).cell? ⟨W.heap.size, 3, none⟩ = some (.slice A3 s.f3.length c3) := below_cell (below_alloc (Below.refl _ _) _) q3
      have p4 : (wr.alloc (.cells #[.string y.f0, .string y.f1, .string y.f2, .string y.f3, .int .i64 y.f4, .int .i64 y.f5] 73 (0, 0))).cell? ⟨W.heap.size, 4, none⟩ = some (.slice A4 s.f4.length c4) := below_cell (below_alloc (Below.refl _ _) _) q4
      have p5 : (wr.alloc (.cells #[.string y.f0, .string y.f1, .string y.f2, .string y.f3, .int .i64 y.f4, .int .i64 y.f5] 73 (0, 0))).cell? ⟨W.heap.size, 5, none⟩ = some (.slice (some ad) s.f5.length c5) := below_cell (below_alloc (Below.refl _ _) _) q5
      have p6 : (wr.alloc (.cells #[.string y.f0, .string y.f1, .string y.f2, .string y.f3, .int .i64 y.f4, .int .i64 y.f5] 73 (0, 0))).cell? ⟨W.heap.size, 6, none⟩ = some (.slice A6 s.f6.length c6) := below_cell (below_alloc (Below.refl _ _) _) q6
      have p7 : (wr.alloc (.cells #[.string y.f0, .string y.f1, .string y.f2, .string y.f3, .int .i64 y.f4, .int .i64 y.f5] 73 (0, 0))).cell? ⟨W.heap.size, 7, none⟩ = some (.slice A7 s.f7.length c7) := below_cell (below_alloc (Below.refl _ _) _) q7
      have p8 : (wr.alloc (.cells #[.string y.f0, .string y.f1, .string y.f2, .string y.f3, .int .i64 y.f4, .int .i64 y.f5] 73 (0, 0))).cell? ⟨W.heap.size, 8, none⟩ = some (.slice A8 s.f8.length c8) := below_cell (below_alloc (Below.refl _ _) _) q8
      have p9 : (wr.alloc (.cells #[.string y.f0, .string y.f1, .string y.f2, .string y.f3, .int .i64 y.f4, .int .i64 y.f5] 73 (0, 0))).cell? ⟨W.heap.size, 9, none⟩ = some (.int .i64 s.f9) := below_cell (below_alloc (Below.refl _ _) _) q9
      go_wp2_with fail
      rw [HW3.out]
      clear p0 p1 p2 p3 p4 p5 p6 p7 p8 p9
      clear h0 h1 h2 h3 h4 h5 q0 q1 q2 q3 q4 q5 q6 q7 q8 q9
      refine HCA.out.mono ?_
      rintro e w4 ⟨rfl, hb⟩
      have HB4 := Lib.hid (below_tr HBW.out (below_tr HB3.out hb))
      have HW4 := Lib.hid (below_tr HB3.out hb)
      have HY4 := Lib.hid ((hb.block _ (blk_lt HY3.out)).trans HY3.out)
      have HYS := Lib.hid ((HB4.out.block W.heap.size (blk_lt HY.out)).trans HY.out)
      have HS4 := Lib.hid (HS.out.below HB4.out)
      clear hb
      have q0 : (w4).cell? ⟨W.heap.size, 0, none⟩ = some (.int .i64 s.f0) := (blk_cell HYS.out 0).trans rfl
      have q1 : (w4).cell? ⟨W.heap.size, 1, none⟩ = some (.int .u64 s.f1) := (blk_cell HYS.out 1).trans rfl
      have q2 : (w4).cell? ⟨W.heap.size, 2, none⟩ = some (.slice A2 s.f2.length c2) := (blk_cell HYS.out 2).trans rfl
      have q3 : (w4).cell? ⟨W.heap.size, 3, none⟩ = some (.slice A3 s.f3.length c3) := (blk_cell HYS.out 3).trans rfl
      have q4 : (w4).cell? ⟨W.heap.size, 4, none⟩ = some (.slice A4 s.f4.length c4) := (blk_cell HYS.out 4).trans rfl
      have q5 : (w4).cell? ⟨W.heap.size, 5, none⟩ = some (.slice (some ad) s.f5.length c5) := (blk_cell HYS.out 5).trans rfl
      have q6 : (w4).cell? ⟨W.heap.size, 6, none⟩ = some (.slice A6 s.f6.length c6) := (blk_cell HYS.out 6).trans rfl
      have q7 : (w4).cell? ⟨W.heap.size, 7, none⟩ = some (.slice A7 s.f7.length c7) := (blk_cell HYS.out 7).trans rfl
      have q8 : (w4).cell? ⟨W.heap.size, 8, none⟩ = some (.slice A8 s.f8.length c8) := (blk_cell HYS.out 8).trans rfl
      have q9 : (w4).cell? ⟨W.heap.size, 9, none⟩ = some (.int .i64 s.f9) := (blk_cell HYS.out 9).trans rfl
      have x0 : w4.cell? ⟨wr.heap.size, 0, none⟩ = some (.string y.f0) := (blk_cell HY4.out 0).trans rfl
      have x1 : w4.cell? ⟨wr.heap.size, 1, none⟩ = some (.string y.f1) := (blk_cell HY4.out 1).trans rfl
      have x2 : w4.cell? ⟨wr.heap.size, 2, none⟩ = some (.string y.f2) := (blk_cell HY4.out 2).trans rfl
      have x3 : w4.cell? ⟨wr.heap.size, 3, none⟩ = some (.string y.f3) := (blk_cell HY4.out 3).trans rfl
      have x4 : w4.cell? ⟨wr.heap.size, 4, none⟩ = some (.int .i64 y.f4) := (blk_cell HY4.out 4).trans rfl
      have x5 : w4.cell? ⟨wr.heap.size, 5, none⟩ = some (.int .i64 y.f5) := (blk_cell HY4.out 5).trans rfl
      generalize hr5 : (y.f5 != 1) = b5 at *
      cases b5
      · by_cases hci : 0 ≤ ci
        · have hc2 : decide (ci < 0) = false := decide_eq_false (by omega)
          have hlc : ci < (s.f3.length : Int) := by have := HJR.out; omega
          have HON := Lib.hid (On_any d s.f6 y A6 c6 w4 HA.out.holds HS4.out.g6 HA.out.few)
          have HOA := Lib.hid (onL_any d s.f6 y)
          generalize (onL d s.f6 y).length = no at *
          have HR6 := Lib.hid (show y.f5 = 1 by simpa [bne] using hr5)
          have HHP := Lib.hid (show heldP d s.f6 y = heldP d s.f6 y from rfl)
          generalize hhp : heldP d s.f6 y = hp at *
          have HHE := Lib.hid hhp
          clear hhp
          have hon : decide (0 < no) = hp := HOA.out
          have hon2 : decide ((0 : Int) < (no : Int)) = hp := by rw [← hon]; exact decide_eq_decide.2 (by omega)
          go_wp2_with fail
          refine HON.out.mono ?_
          rintro e w5 ⟨A7_, c7_, rfl, hb⟩
          have HB5 := Lib.hid (below_tr HB4.out hb)
          have HW5 := Lib.hid (below_tr HW4.out hb)
          have HS5 := Lib.hid (HS4.out.below hb)
          have HYE5 := Lib.hid ((hb.block _ (blk_lt HY4.out)).trans HY4.out)
          have HYS5 := Lib.hid ((hb.block _ (blk_lt HYS.out)).trans HYS.out)
          replace q0 := below_cell hb q0
          replace q1 := below_cell hb q1
          replace q2 := below_cell hb q2
          replace q3 := below_cell hb q3
          replace q4 := below_cell hb q4
          replace q5 := below_cell hb q5
          replace q6 := below_cell hb q6
          replace q7 := below_cell hb q7
          replace q8 := below_cell hb q8
          replace q9 := below_cell hb q9
          replace x0 := below_cell hb x0
          replace x1 := below_cell hb x1
          replace x2 := below_cell hb x2
          replace x3 := below_cell hb x3
          replace x4 := below_cell hb x4
          replace x5 := below_cell hb x5
          clear hb
          cases hp
          · obtain ⟨ad2, A1, c1, e, g0, g1, hl1, hC1⟩ := at_T59 HS5.out.g3 ci hci hlc
            subst e
            have HRV2 := Lib.hid (show refs d s (k + 1) = if ((dueL s.f2 y (rd_T59 s.f3 ci)).2.2 && decide ((dueL s.f2 y (rd_T59 s.f3 ci)).2.1 = 2) && decide ((dueL s.f2 y (rd_T59 s.f3 ci)).1 ≤ s.f0)) = true then (putL L ⟨y.f0, (dueL s.f2 y (rd_T59 s.f3 ci)).1, k⟩).1 else L by
              have e : rvL d s (k : Int) y = (⟨y.f0, (dueL s.f2 y (rd_T59 s.f3 ci)).1, k⟩, (dueL s.f2 y (rd_T59 s.f3 ci)).2.2 && decide ((dueL s.f2 y (rd_T59 s.f3 ci)).2.1 = 2) && decide ((dueL s.f2 y (rd_T59 s.f3 ci)).1 ≤ s.f0)) := by
                unfold rvL
                rw [HCI.out, if_pos ⟨HR6.out, hci, HHE.out⟩]
              rw [HRV.out, e])
            clear HRV
            have HMI := Lib.hid (HA.out.miles _ (rd_memi59 hci hlc))
            generalize rd_T59 s.f3 ci = c at *
            have HOF := fun w' (h : Below w5.heap.size w5 w') => Lib.hid (OfR_any s.f2 y c A2 c2 A1 c1 w' (HS5.out.below h).g2 (HS5.out.below h).l2 HA.out.rules (Kd.C_below hC1 h) hl1 HMI.out)
            clear hl1 hC1
            generalize dueL s.f2 y c = du at *
            obtain ⟨du1, du2, du3⟩ := du
            go_wp2_with fail
            refine WL.start (n := 16) (S := fun w' => Aside0 (Below w5.heap.size w5 w') ∧ w'.cell? ⟨W.heap.size, 0, none⟩ = some (.int .i64 s.f0) ∧ w'.cell? ⟨W.heap.size, 2, none⟩ = some (.slice A2 s.f2.length c2) ∧ w'.cell? ⟨W.heap.size, 3, none⟩ = some (.slice (some ad2) s.f3.length c3) ∧ w'.cell? ⟨wr.heap.size, 0, none⟩ = some (.string y.f0) ∧ w'.cell? ⟨wr.heap.size, 1, none⟩ = some (.string y.f1) ∧ w'.cell? ⟨wr.heap.size, 2, none⟩ = some (.string y.f2) ∧ w'.cell? ⟨wr.heap.size, 3, none⟩ = some (.string y.f3) ∧ w'.cell? ⟨wr.heap.size, 4, none⟩ = some (.int .i64 y.f4) ∧ w'.cell? ⟨wr.heap.size, 5, none⟩ = some (.int .i64 y.f5) ∧ w'.cell? (ad2.add (ci.toNat * 2)) = some (.string c.f0) ∧ w'.cell? ⟨(ad2.add (ci.toNat * 2)).block, (ad2.add (ci.toNat * 2)).off + 1, none⟩ = some (.slice A1 c.f1.length c1)) (ds := []) [false, false, false, false, false, false, false, false, false, false, false, false, false, false, false, false] (by kernel_rfl) rfl rfl ⟨⟨below_drew (Below.refl _ _)⟩, q0, q2, q3, x0, x1, x2, x3, x4, x5, g0, g1⟩ (fun hHeld => ?_)
            refine WL.tab tab8_8 (fun HT_ => ?_)
            refine WL.more [0, 3, 5, 1, 2, 4, 6, 7, 8, 9, 10, 11, 12, 13, 14, 15] ?_
            repeat (first
              | (refine WL.off (lb' := ?_) (ys := ?_) rfl rfl (by rfl) ?_ HT_.out ?_ (fun _ _ _ h => h) ?_ ?_; rotate_left 2; (focus dsimp only [List.set_cons_zero, List.set_cons_succ]; rfl); (focus kernel_rfl); (focus dsimp only [List.set_cons_zero, List.set_cons_succ]; rfl))
              | (refine WL.pure (lb' := ?_) (v := ?_) (ys := ?_) rfl rfl (by rfl) ?_ HT_.out ?_ (fun _ _ _ h => h) ?_ ?_ ?_; rotate_left 3; (focus dsimp only [List.set_cons_zero, List.set_cons_succ]; rfl); (focus kernel_rfl); (focus intro w'; go_simp; with_reducible rfl); (focus dsimp only [List.set_cons_zero, List.set_cons_succ]; rfl))
              | (refine WL.take (lb' := ?_) (v := ?_) (ys := ?_) rfl rfl (by rfl) ?_ HT_.out ?_ (fun _ _ _ h => h) hHeld ?_ ?_ ?_; rotate_left 3; (focus dsimp only [List.set_cons_zero, List.set_cons_succ]; rfl); (focus kernel_rfl); (focus rintro w' ⟨s0, s1, s2, s3, s4, s5, s6, s7, s8, s9, s10, s11⟩; go_simp; with_reducible rfl); (focus dsimp only [List.set_cons_zero, List.set_cons_succ]; rfl))
              | (refine WL.one (lb' := ?_) rfl rfl ?_ HT_.out ?_ (by decide) (fun K hK => ?_); rotate_left; (focus dsimp only [List.set_cons_zero, List.set_cons_succ]; rfl); (focus kernel_rfl); first
                  | (refine goes_ Tryz.func26 (by kernel_rfl) rfl #[.slice A2 s.f2.length c2, .agg #[.string y.f0, .string y.f1, .string y.f2, .string y.f3, .int .i64 y.f4, .int .i64 y.f5], .agg #[.string c.f0, .slice A1 c.f1.length c1]] (by rfl) rfl rfl (by simp only [List.map_toArray, List.map_cons, List.map_nil]; rfl) ?_; (with_reducible refine ((HOF _ hHeld.1.out).out).mono ?_); rintro e w6 ⟨rfl, hb⟩; refine ⟨_, rfl, ?_⟩; refine hK.out _ _ (by have h_ := hHeld.2; refine ⟨⟨below_tr hHeld.1.out hb⟩, ?_⟩; repeat (first | exact below_cell hb h_ | (refine ⟨below_cell hb h_.1, ?_⟩; replace h_ := h_.2))) (fun hHeld => ?_); clear hK K; refine WL.put (ys := ?_) ?_ ?_; rotate_left; (focus dsimp only [List.set_cons_zero, List.set_cons_succ]; rfl))))
            refine WL.done HT_.out (by kernel_rfl) ?_
            have HB6 := Lib.hid (below_tr HB5.out hHeld.1.out)
            have HW6 := Lib.hid (below_tr HW5.out hHeld.1.out)
            obtain ⟨_, q0, q2, q3, x0, x1, x2, x3, x4, x5, g0, g1⟩ := hHeld
            clear q2 q3 x1 x2 x3 x4 x5 g0 g1
            generalize hg2 : (du2 == 2) = g2 at *
            generalize hg3 : decide (du1 ≤ s.f0) = g3 at *
            have HRV3 := Lib.hid (show refs d s (k + 1) = if (du3 && g2 && g3) = true then (putL L ⟨y.f0, du1, k⟩).1 else L by rw [HRV2.out, ← hg2, ← hg3]; rfl)
            clear HRV2
            have HRV := HRV3
            clear HRV3
            have HPU := Lib.hid (show Calls Tryz.prog 27 #[.slice A9 L.length c9, .agg #[.string y.f0, .int .i64 du1, .int .i64 k]] w6 (RPut (putL L ⟨y.f0, du1, k⟩) w6) from Put_any L A9 c9 ⟨y.f0, du1, k⟩ w6 (Kd.C_below HC9.out HW6.out) HL9.out (by have := HLN.out; omega))
            generalize putL L ⟨y.f0, du1, k⟩ = pl at *
            cases du3
            all_goals cases g2
            all_goals cases g3
            all_goals first
              | (go_wp2_with fail
                 refine HPU.out.mono ?_
                 rintro e w7 ⟨A', c', rfl, hl', hC', hb'⟩
                 have HF := Lib.hid (And.intro hl' (And.intro hC' (below_tr HB6.out hb')))
                 clear hl' hC' hb'
                 go_wp2
                 go_roundw
                 case rel => exact ⟨k + 1, A', c', by rw [HRV.out]; rfl, by go_num, by omega, ⟨by rw [HRV.out]; exact HF.out.1⟩, ⟨by rw [HRV.out]; exact HF.out.2.1⟩, ⟨HF.out.2.2⟩⟩
                 case measure => simp [intOf]; omega)
              | (go_wp2
                 go_roundw
                 case rel => exact ⟨k + 1, A9, c9, by rw [HRV.out]; rfl, by go_num, by omega, ⟨by rw [HRV.out]; exact HL9.out⟩, ⟨by rw [HRV.out]; exact Kd.C_below HC9.out HW6.out⟩, ⟨HB6.out⟩⟩
                 case measure => simp [intOf]; omega)
          · have HRV2 := Lib.hid (show refs d s (k + 1) = L by rw [HRV.out]; unfold rvL; rw [if_neg (by rw [HHE.out]; simp)])
            clear HRV
            have HRV := HRV2
            go_wp2
            go_roundw
            case rel => exact ⟨k + 1, A9, c9, by rw [HRV.out], by go_num, by omega, ⟨by rw [HRV.out]; exact HL9.out⟩, ⟨by rw [HRV.out]; exact Kd.C_below HC9.out HW5.out⟩, ⟨HB5.out⟩⟩
            case measure => simp [intOf]; omega
        · have hc2 : decide (ci < 0) = true := decide_eq_true (by omega)
          have HRV2 := Lib.hid (show refs d s (k + 1) = L by rw [HRV.out]; unfold rvL; rw [if_neg (by rw [HCI.out]; simp [hci])])
          clear HRV
          have HRV := HRV2
          go_wp2
          go_roundw
          case rel => exact ⟨k + 1, A9, c9, by rw [HRV.out], by go_num, by omega, ⟨by rw [HRV.out]; exact HL9.out⟩, ⟨by rw [HRV.out]; exact Kd.C_below HC9.out HW4.out⟩, ⟨HB4.out⟩⟩
          case measure => simp [intOf]; omega
      · have HRV2 := Lib.hid (show refs d s (k + 1) = L by rw [HRV.out]; unfold rvL; rw [if_neg (by simp at hr5; simp [hr5])])
        clear HRV
        have HRV := HRV2
        go_wp2
        go_roundw
        case rel => exact ⟨k + 1, A9, c9, by rw [HRV.out], by go_num, by omega, ⟨by rw [HRV.out]; exact HL9.out⟩, ⟨by rw [HRV.out]; exact Kd.C_below HC9.out HW4.out⟩, ⟨HB4.out⟩⟩
        case measure => simp [intOf]; omega
    · have hk2 : k = s.f5.length := by omega
      subst hk2
      generalize refs d s s.f5.length = zs at *
      clear q0 q1 q2 q3 q4 q6 q7 q8 q9
      have HF := Lib.hid (And.intro HL9.out (And.intro HC9.out (below_tr HB.out HBW.out)))
      go_wp2
      go_ret
      exact ⟨A9, c9, rfl, HF.out⟩
end Go.Proofs.YtafigkikblpbnaaGreat.PG
namespace Go.Proofs.YtafigkikblpbnaaGreat.PG
open Go.RowKit Go.Proofs.YtafigkikblpbnaaGreatW.PrintWords Go.Proofs.YtafigkikblpbnaaGreatW.PrintLast Go.Proofs.YtafigkikblpbnaaGreatW.PrintMore
set_option linter.unusedVariables false
set_option linter.unusedSimpArgs false
set_option maxRecDepth 100000
theorem tab104_1 : rtab .any (opsOf Tryz.f104 1) = (true, [([], []), ([0], [0]), ([1], [1]), ([2], [2]), ([3], [3]), ([], []), ([4, 5], [4, 5]), ([6], [6]), ([7], [7]), ([8, 6, 0, 1, 2, 3, 4, 5, 6, 7, 8], [8])]) := by kernel_rfl
theorem tab105_1 : rtab .any (opsOf Tryz.f105 1) = (true, [([], []), ([0], [0]), ([1], [1]), ([2], [2]), ([], []), ([4], [4]), ([3, 5], [3, 5]), ([6, 6, 0, 1, 2, 3, 4, 5, 6], [6])]) := by kernel_rfl
theorem tab105_4 : rtab .any (opsOf Tryz.f105 4) = (true, [([], []), ([0], [0]), ([1], [1]), ([2], [2]), ([3], [3]), ([], []), ([], []), ([6], [6]), ([7], [7]), ([8], [8]), ([9], [9]), ([], []), ([10, 11], [10, 11]), ([12], [12]), ([4, 5, 13], [4, 5, 13]), ([14], [14]), ([15], [15]), ([15], [15]), ([15], [15]), ([16, 14, 0, 1, 2, 3, 4, 5, 6, 7, 8, 9, 10, 11, 12, 13, 14, 15, 16], [16]), ([17, 19, 0, 1, 2, 3, 4, 5, 6, 7, 8, 9, 10, 11, 12, 13, 14, 15, 16, 17, 19], [17]), ([18, 20, 0, 1, 2, 3, 4, 5, 6, 7, 8, 9, 10, 11, 12, 13, 14, 15, 16, 17, 18, 19, 20], [18])]) := by kernel_rfl

set_option maxHeartbeats 2000000 in
theorem held29_any (d : Nat) (s : S31) (A2 A3 A4 A5 A6 A7 A8 : Option Addr) (c2 c3 c4 c5 c6 c7 c8 : Nat) (p : Nat) (e0 e1 e2 e3 e4 e5 e6 e7 : Value) (r : S73) (W : World) (hs : Rs W s A2 A3 A4 A5 A6 A7 A8 c2 c3 c4 c5 c6 c7 c8) (ha : Ask d s) (hp : W.heap[p]? = some (.cells #[.int .i64 s.f0, .int .u64 s.f1, .slice A2 s.f2.length c2, .slice A3 s.f3.length c3, .slice A4 s.f4.length c4, .slice A5 s.f5.length c5, .slice A6 s.f6.length c6, .slice A7 s.f7.length c7, .slice A8 s.f8.length c8, .int .i64 s.f9, e0, e1, e2, e3, e4, e5, e6, e7] 87 (0, 0))) :
    Calls Tryz.prog 104 #[.pointer (some ⟨p, 0, none⟩), .agg #[.string r.f0, .string r.f1, .string r.f2, .string r.f3, .int .i64 r.f4, .int .i64 r.f5]] W fun e w' => e = .returned (.bool (heldP d s.f6 r)) ∧ Below W.heap.size W w' := by
  have HB := Lib.hid (show Below W.heap.size W (W.alloc (.cells #[.string r.f0, .string r.f1, .string r.f2, .string r.f3, .int .i64 r.f4, .int .i64 r.f5] 73 (0, 0))) from below_alloc (Below.refl _ _) _)
  have HY := Lib.hid (new_blk W (.cells #[.string r.f0, .string r.f1, .string r.f2, .string r.f3, .int .i64 r.f4, .int .i64 r.f5] 73 (0, 0)))
  have HP := Lib.hid ((HB.out.block p (blk_lt hp)).trans hp)
  have HS := Lib.hid (hs.below HB.out)
  have HA := Lib.hid ha
  clear hs ha hp
  generalize hW1 : W.alloc (.cells #[.string r.f0, .string r.f1, .string r.f2, .string r.f3, .int .i64 r.f4, .int .i64 r.f5] 73 (0, 0)) = W1 at *
  have HW1 := Lib.hid hW1
  clear hW1
  have q6 : W1.cell? ⟨p, 6, none⟩ = some (.slice A6 s.f6.length c6) := (blk_cell HP.out 6).trans rfl
  have x0 : W1.cell? ⟨W.heap.size, 0, none⟩ = some (.string r.f0) := (blk_cell HY.out 0).trans rfl
  have x1 : W1.cell? ⟨W.heap.size, 1, none⟩ = some (.string r.f1) := (blk_cell HY.out 1).trans rfl
  have x2 : W1.cell? ⟨W.heap.size, 2, none⟩ = some (.string r.f2) := (blk_cell HY.out 2).trans rfl
  have x3 : W1.cell? ⟨W.heap.size, 3, none⟩ = some (.string r.f3) := (blk_cell HY.out 3).trans rfl
  have x4 : W1.cell? ⟨W.heap.size, 4, none⟩ = some (.int .i64 r.f4) := (blk_cell HY.out 4).trans rfl
  have x5 : W1.cell? ⟨W.heap.size, 5, none⟩ = some (.int .i64 r.f5) := (blk_cell HY.out 5).trans rfl
  have HON := fun w' (h : Below W1.heap.size W1 w') => Lib.hid (On_any d s.f6 r A6 c6 w' HA.out.holds (HS.out.below h).g6 HA.out.few)
  have HOA := Lib.hid (onL_any d s.f6 r)
  generalize (onL d s.f6 r).length = no at *
  generalize heldP d s.f6 r = hp at *
  go_enter Tryz.func104, Tryz.ntmps104
  go_wp2_with fail
  rw [HW1.out]
  refine WL.start (n := 10) (S := fun w' => Aside0 (Below W1.heap.size W1 w') ∧ w'.cell? ⟨p, 6, none⟩ = some (.slice A6 s.f6.length c6) ∧ w'.cell? ⟨W.heap.size, 0, none⟩ = some (.string r.f0) ∧ w'.cell? ⟨W.heap.size, 1, none⟩ = some (.string r.f1) ∧ w'.cell? ⟨W.heap.size, 2, none⟩ = some (.string r.f2) ∧ w'.cell? ⟨W.heap.size, 3, none⟩ = some (.string r.f3) ∧ w'.cell? ⟨W.heap.size, 4, none⟩ = some (.int .i64 r.f4) ∧ w'.cell? ⟨W.heap.size, 5, none⟩ = some (.int .i64 r.f5)) (ds := []) [false, false, false, false, false, false, false, false, false, false] (by kernel_rfl) rfl rfl ⟨⟨below_drew (Below.refl _ _)⟩, q6, x0, x1, x2, x3, x4, x5⟩ (fun hHeld => ?_)
  refine WL.tab tab104_1 (fun HT_ => ?_)
  refine WL.more [0, 1, 2, 3, 4, 5, 6, 7, 8, 9] ?_
  repeat (first
    | (refine WL.off (lb' := ?_) (ys := ?_) rfl rfl (by rfl) ?_ HT_.out ?_ (fun _ _ _ h => h) ?_ ?_; rotate_left 2; (focus dsimp only [List.set_cons_zero, List.set_cons_succ]; rfl); (focus kernel_rfl); (focus dsimp only [List.set_cons_zero, List.set_cons_succ]; rfl))
    | (refine WL.pure (lb' := ?_) (v := ?_) (ys := ?_) rfl rfl (by rfl) ?_ HT_.out ?_ (fun _ _ _ h => h) ?_ ?_ ?_; rotate_left 3; (focus dsimp only [List.set_cons_zero, List.set_cons_succ]; rfl); (focus kernel_rfl); (focus intro w'; go_simp; with_reducible rfl); (focus dsimp only [List.set_cons_zero, List.set_cons_succ]; rfl))
    | (refine WL.take (lb' := ?_) (v := ?_) (ys := ?_) rfl rfl (by rfl) ?_ HT_.out ?_ (fun _ _ _ h => h) hHeld ?_ ?_ ?_; rotate_left 3; (focus dsimp only [List.set_cons_zero, List.set_cons_succ]; rfl); (focus kernel_rfl); (focus rintro w' ⟨s0, s1, s2, s3, s4, s5, s6, s7⟩; go_simp; with_reducible rfl); (focus dsimp only [List.set_cons_zero, List.set_cons_succ]; rfl))
    | (refine WL.one (lb' := ?_) rfl rfl ?_ HT_.out ?_ (by decide) (fun K hK => ?_); rotate_left; (focus dsimp only [List.set_cons_zero, List.set_cons_succ]; rfl); (focus kernel_rfl); first
        | (refine goes_ Tryz.func25 (by kernel_rfl) rfl #[.slice A6 s.f6.length c6, .agg #[.string r.f0, .string r.f1, .string r.f2, .string r.f3, .int .i64 r.f4, .int .i64 r.f5]] (by rfl) rfl rfl (by simp only [List.map_toArray, List.map_cons, List.map_nil]; rfl) ?_; (with_reducible refine ((HON _ hHeld.1.out).out).mono ?_); rintro e w3 ⟨A7_, c7_, rfl, hb⟩; refine ⟨_, rfl, ?_⟩; refine hK.out _ _ (by have h_ := hHeld.2; refine ⟨⟨below_tr hHeld.1.out hb⟩, ?_⟩; repeat (first | exact below_cell hb h_ | (refine ⟨below_cell hb h_.1, ?_⟩; replace h_ := h_.2))) (fun hHeld => ?_); clear hK K; refine WL.put (ys := ?_) ?_ ?_; rotate_left; (focus dsimp only [List.set_cons_zero, List.set_cons_succ]; rfl))))
  refine WL.done HT_.out (by kernel_rfl) ?_
  have HF := Lib.hid (below_tr HB.out hHeld.1.out)
  have HOA2 := Lib.hid (show decide ((0 : Int) < (no : Int)) = hp by rw [← HOA.out]; exact decide_eq_decide.2 (by omega))
  clear hHeld
  go_wp2
  go_ret
  exact ⟨ret_b (by first | exact HOA.out | exact HOA2.out), HF.out⟩

/-- Is a record due for that? -/
def forL (s : S31) (r : S73) (act : Int) : Bool := decide (0 ≤ csI s r) && ((dueL s.f2 r (rd_T59 s.f3 (csI s r))).2.2 && decide ((dueL s.f2 r (rd_T59 s.f3 (csI s r))).1 ≤ s.f0) && decide ((dueL s.f2 r (rd_T59 s.f3 (csI s r))).2.1 = act))
set_option maxHeartbeats 4000000 in
theorem dueFor_any (d : Nat) (s : S31) (A2 A3 A4 A5 A6 A7 A8 : Option Addr) (c2 c3 c4 c5 c6 c7 c8 : Nat) (p : Nat) (e0 e1 e2 e3 e4 e5 e6 e7 : Value) (r : S73) (act : Int) (W : World) (hs : Rs W s A2 A3 A4 A5 A6 A7 A8 c2 c3 c4 c5 c6 c7 c8) (ha : Ask d s) (hp : W.heap[p]? = some (.cells #[.int .i64 s.f0, .int .u64 s.f1, .slice A2 s.f2.length c2, .slice A3 s.f3.length c3, .slice A4 s.f4.length c4, .slice A5 s.f5.length c5, .slice A6 s.f6.length c6, .slice A7 s.f7.length c7, .slice A8 s.f8.length c8, .int .i64 s.f9, e0, e1, e2, e3, e4, e5, e6, e7] 87 (0, 0))) :
    Calls Tryz.prog 105 #[.pointer (some ⟨p, 0, none⟩), .agg #[.string r.f0, .string r.f1, .string r.f2, .string r.f3, .int .i64 r.f4, .int .i64 r.f5], .int .i64 act] W fun e w' => e = .returned (.bool (forL s r act)) ∧ Below W.heap.size W w' := by
  have HB := Lib.hid (show Below W.heap.size W (W.alloc (.cells #[.string r.f0, .string r.f1, .string r.f2, .string r.f3, .int .i64 r.f4, .int .i64 r.f5] 73 (0, 0))) from below_alloc (Below.refl _ _) _)
  have HY := Lib.hid (new_blk W (.cells #[.string r.f0, .string r.f1, .string r.f2, .string r.f3, .int .i64 r.f4, .int .i64 r.f5] 73 (0, 0)))
  have HP := Lib.hid ((HB.out.block p (blk_lt hp)).trans hp)
  have HS := Lib.hid (hs.below HB.out)
  have HA := Lib.hid ha
  clear hs ha hp
  generalize hW1 : W.alloc (.cells #[.string r.f0, .string r.f1, .string r.f2, .string r.f3, .int .i64 r.f4, .int .i64 r.f5] 73 (0, 0)) = W1 at *
  have HW1 := Lib.hid hW1
  clear hW1
  have q0 : W1.cell? ⟨p, 0, none⟩ = some (.int .i64 s.f0) := (blk_cell HP.out 0).trans rfl
  have q1 : W1.cell? ⟨p, 1, none⟩ = some (.int .u64 s.f1) := (blk_cell HP.out 1).trans rfl
  have q2 : W1.cell? ⟨p, 2, none⟩ = some (.slice A2 s.f2.length c2) := (blk_cell HP.out 2).trans rfl
  have q3 : W1.cell? ⟨p, 3, none⟩ = some (.slice A3 s.f3.length c3) := (blk_cell HP.out 3).trans rfl
  have q4 : W1.cell? ⟨p, 4, none⟩ = some (.slice A4 s.f4.length c4) := (blk_cell HP.out 4).trans rfl
  have q5 : W1.cell? ⟨p, 5, none⟩ = some (.slice A5 s.f5.length c5) := (blk_cell HP.out 5).trans rfl
  have q6 : W1.cell? ⟨p, 6, none⟩ = some (.slice A6 s.f6.length c6) := (blk_cell HP.out 6).trans rfl
  have q7 : W1.cell? ⟨p, 7, none⟩ = some (.slice A7 s.f7.length c7) := (blk_cell HP.out 7).trans rfl
  have q8 : W1.cell? ⟨p, 8, none⟩ = some (.slice A8 s.f8.length c8) := (blk_cell HP.out 8).trans rfl
  have q9 : W1.cell? ⟨p, 9, none⟩ = some (.int .i64 s.f9) := (blk_cell HP.out 9).trans rfl
  have x0 : W1.cell? ⟨W.heap.size, 0, none⟩ = some (.string r.f0) := (blk_cell HY.out 0).trans rfl
  have x1 : W1.cell? ⟨W.heap.size, 1, none⟩ = some (.string r.f1) := (blk_cell HY.out 1).trans rfl
  have x2 : W1.cell? ⟨W.heap.size, 2, none⟩ = some (.string r.f2) := (blk_cell HY.out 2).trans rfl
  have x3 : W1.cell? ⟨W.heap.size, 3, none⟩ = some (.string r.f3) := (blk_cell HY.out 3).trans rfl
  have x4 : W1.cell? ⟨W.heap.size, 4, none⟩ = some (.int .i64 r.f4) := (blk_cell HY.out 4).trans rfl
  have x5 : W1.cell? ⟨W.heap.size, 5, none⟩ = some (.int .i64 r.f5) := (blk_cell HY.out 5).trans rfl
  have HCA := fun w' (h : Below W1.heap.size W1 w') => Lib.hid (Case_eq s _ _ _ _ _ _ _ _ _ _ _ _ _ _ r.f1 w' (HS.out.below h))
  have HJR := Lib.hid (ix_range (nm59 r.f1) s.f3 0)
  obtain ⟨D, hD⟩ : ∃ D, D = forL s r act := ⟨_, rfl⟩
  rw [← hD]
  have HD := Lib.hid hD
  clear hD
  have HCI := Lib.hid (show csI s r = ix (nm59 r.f1) s.f3 0 from rfl)
  generalize ix (nm59 r.f1) s.f3 0 = ci at *
  go_enter Tryz.func105, Tryz.ntmps105
  go_wp2_with fail
  rw [HW1.out]
  refine WL.start (n := 8) (S := fun w' => Aside0 (Below W1.heap.size W1 w') ∧ w'.cell? ⟨p, 0, none⟩ = some (.int .i64 s.f0) ∧ w'.cell? ⟨p, 1, none⟩ = some (.int .u64 s.f1) ∧ w'.cell? ⟨p, 2, none⟩ = some (.slice A2 s.f2.length c2) ∧ w'.cell? ⟨p, 3, none⟩ = some (.slice A3 s.f3.length c3) ∧ w'.cell? ⟨p, 4, none⟩ = some (.slice A4 s.f4.length c4) ∧ w'.cell? ⟨p, 5, none⟩ = some (.slice A5 s.f5.length c5) ∧ w'.cell? ⟨p, 6, none⟩ = some (.slice A6 s.f6.length c6) ∧ w'.cell? ⟨p, 7, none⟩ = some (.slice A7 s.f7.length c7) ∧ w'.cell? ⟨p, 8, none⟩ = some (.slice A8 s.f8.length c8) ∧ w'.cell? ⟨p, 9, none⟩ = some (.int .i64 s.f9) ∧ w'.cell? ⟨W.heap.size, 0, none⟩ = some (.string r.f0) ∧ w'.cell? ⟨W.heap.size, 1, none⟩ = some (.string r.f1) ∧ w'.cell? ⟨W.heap.size, 2, none⟩ = some (.string r.f2) ∧ w'.cell? ⟨W.heap.size, 3, none⟩ = some (.string r.f3) ∧ w'.cell? ⟨W.heap.size, 4, none⟩ = some (.int .i64 r.f4) ∧ w'.cell? ⟨W.heap.size, 5, none⟩ = some (.int .i64 r.f5)) (ds := []) [false, false, false, false, false, false, false, false] (by kernel_rfl) rfl rfl ⟨⟨below_drew (Below.refl _ _)⟩, q0, q1, q2, q3, q4, q5, q6, q7, q8, q9, x0, x1, x2, x3, x4, x5⟩ (fun hHeld => ?_)
  refine WL.tab tab105_1 (fun HT_ => ?_)
  refine WL.more [0, 1, 2, 4, 3, 5, 6, 7] ?_
  repeat (first
    | (refine WL.off (lb' := ?_) (ys := ?_) rfl rfl (by rfl) ?_ HT_.out ?_ (fun _ _ _ h => h) ?_ ?_; rotate_left 2; (focus dsimp only [List.set_cons_zero, List.set_cons_succ]; rfl); (focus kernel_rfl); (focus dsimp only [List.set_cons_zero, List.set_cons_succ]; rfl))
    | (refine WL.pure (lb' := ?_) (v := ?_) (ys := ?_) rfl rfl (by rfl) ?_ HT_.out ?_ (fun _ _ _ h => h) ?_ ?_ ?_; rotate_left 3; (focus dsimp only [List.set_cons_zero, List.set_cons_succ]; rfl); (focus kernel_rfl); (focus intro w'; go_simp; with_reducible rfl); (focus dsimp only [List.set_cons_zero, List.set_cons_succ]; rfl))
    | (refine WL.take (lb' := ?_) (v := ?_) (ys := ?_) rfl rfl (by rfl) ?_ HT_.out ?_ (fun _ _ _ h => h) hHeld ?_ ?_ ?_; rotate_left 3; (focus dsimp only [List.set_cons_zero, List.set_cons_succ]; rfl); (focus kernel_rfl); (focus rintro w' ⟨s0, s1, s2, s3, s4, s5, s6, s7, s8, s9, s10, s11, s12, s13, s14, s15, s16⟩; go_simp; with_reducible rfl); (focus dsimp only [List.set_cons_zero, List.set_cons_succ]; rfl))
    | (refine WL.one (lb' := ?_) rfl rfl ?_ HT_.out ?_ (by decide) (fun K hK => ?_); rotate_left; (focus dsimp only [List.set_cons_zero, List.set_cons_succ]; rfl); (focus kernel_rfl); first
        | (refine goes_ Tryz.func24 (by kernel_rfl) rfl #[.agg #[.int .i64 s.f0, .int .u64 s.f1, .slice A2 s.f2.length c2, .slice A3 s.f3.length c3, .slice A4 s.f4.length c4, .slice A5 s.f5.length c5, .slice A6 s.f6.length c6, .slice A7 s.f7.length c7, .slice A8 s.f8.length c8, .int .i64 s.f9], .string r.f1] (by rfl) rfl rfl (by simp only [List.map_toArray, List.map_cons, List.map_nil]; rfl) ?_; (with_reducible refine ((HCA _ hHeld.1.out).out).mono ?_); rintro e w3 ⟨rfl, hb⟩; refine ⟨_, rfl, ?_⟩; refine hK.out _ _ (by have h_ := hHeld.2; refine ⟨⟨below_tr hHeld.1.out hb⟩, ?_⟩; repeat (first | exact below_cell hb h_ | (refine ⟨below_cell hb h_.1, ?_⟩; replace h_ := h_.2))) (fun hHeld => ?_); clear hK K; refine WL.put (ys := ?_) ?_ ?_; rotate_left; (focus dsimp only [List.set_cons_zero, List.set_cons_succ]; rfl))))
  refine WL.done HT_.out (by kernel_rfl) ?_
  clear q0 q1 q2 q3 q4 q5 q6 q7 q8 q9 x0 x1 x2 x3 x4 x5
  have HB3 := Lib.hid (below_tr HB.out hHeld.1.out)
  have HS3 := Lib.hid (HS.out.below hHeld.1.out)
  obtain ⟨_, q0, q1, q2, q3, q4, q5, q6, q7, q8, q9, x0, x1, x2, x3, x4, x5⟩ := hHeld
  clear q1 q4 q5 q6 q7 q8 q9
  by_cases hci : 0 ≤ ci
  · have hc2 : decide (ci < 0) = false := decide_eq_false (by omega)
    have hc3 : ¬ ci < 0 := by omega
    have hlc : ci < (s.f3.length : Int) := by have := HJR.out; omega
    obtain ⟨ad2, A1, c1, e, g0, g1, hl1, hC1⟩ := at_T59 HS3.out.g3 ci hci hlc
    subst e
    have HDD := Lib.hid (show D = ((dueL s.f2 r (rd_T59 s.f3 ci)).2.2 && decide ((dueL s.f2 r (rd_T59 s.f3 ci)).1 ≤ s.f0) && decide ((dueL s.f2 r (rd_T59 s.f3 ci)).2.1 = act)) by rw [HD.out]; unfold forL; rw [HCI.out, decide_eq_true hci, Bool.true_and])
    have HMI := Lib.hid (HA.out.miles _ (rd_memi59 hci hlc))
    generalize rd_T59 s.f3 ci = c at *
    have HOF := fun w' (h : Below w3.heap.size w3 w') => Lib.hid (OfR_any s.f2 r c A2 c2 A1 c1 w' (HS3.out.below h).g2 (HS3.out.below h).l2 HA.out.rules (Kd.C_below hC1 h) hl1 HMI.out)
    clear hl1 hC1
    generalize dueL s.f2 r c = du at *
    obtain ⟨du1, du2, du3⟩ := du
    go_wp2_with fail
    refine WL.start (n := 22) (S := fun w' => Aside0 (Below w3.heap.size w3 w') ∧ w'.cell? ⟨p, 0, none⟩ = some (.int .i64 s.f0) ∧ w'.cell? ⟨p, 2, none⟩ = some (.slice A2 s.f2.length c2) ∧ w'.cell? ⟨p, 3, none⟩ = some (.slice (some ad2) s.f3.length c3) ∧ w'.cell? ⟨W.heap.size, 0, none⟩ = some (.string r.f0) ∧ w'.cell? ⟨W.heap.size, 1, none⟩ = some (.string r.f1) ∧ w'.cell? ⟨W.heap.size, 2, none⟩ = some (.string r.f2) ∧ w'.cell? ⟨W.heap.size, 3, none⟩ = some (.string r.f3) ∧ w'.cell? ⟨W.heap.size, 4, none⟩ = some (.int .i64 r.f4) ∧ w'.cell? ⟨W.heap.size, 5, none⟩ = some (.int .i64 r.f5) ∧ w'.cell? (ad2.add (ci.toNat * 2)) = some (.string c.f0) ∧ w'.cell? ⟨(ad2.add (ci.toNat * 2)).block, (ad2.add (ci.toNat * 2)).off + 1, none⟩ = some (.slice A1 c.f1.length c1)) (ds := []) [false, false, false, false, false, false, false, false, false, false, false, false, false, false, false, false, false, false, false, false, false, false] (by kernel_rfl) rfl rfl ⟨⟨below_drew (Below.refl _ _)⟩, q0, q2, q3, x0, x1, x2, x3, x4, x5, g0, g1⟩ (fun hHeld => ?_)
    refine WL.tab tab105_4 (fun HT_ => ?_)
    refine WL.more [0, 1, 2, 3, 6, 7, 8, 9, 11, 4, 5, 10, 12, 13, 14, 15, 16, 17, 18, 19, 20, 21] ?_
    repeat (first
      | (refine WL.off (lb' := ?_) (ys := ?_) rfl rfl (by rfl) ?_ HT_.out ?_ (fun _ _ _ h => h) ?_ ?_; rotate_left 2; (focus dsimp only [List.set_cons_zero, List.set_cons_succ]; rfl); (focus kernel_rfl); (focus dsimp only [List.set_cons_zero, List.set_cons_succ]; rfl))
      | (refine WL.pure (lb' := ?_) (v := ?_) (ys := ?_) rfl rfl (by rfl) ?_ HT_.out ?_ (fun _ _ _ h => h) ?_ ?_ ?_; rotate_left 3; (focus dsimp only [List.set_cons_zero, List.set_cons_succ]; rfl); (focus kernel_rfl); (focus intro w'; go_simp; with_reducible rfl); (focus dsimp only [List.set_cons_zero, List.set_cons_succ]; rfl))
      | (refine WL.take (lb' := ?_) (v := ?_) (ys := ?_) rfl rfl (by rfl) ?_ HT_.out ?_ (fun _ _ _ h => h) hHeld ?_ ?_ ?_; rotate_left 3; (focus dsimp only [List.set_cons_zero, List.set_cons_succ]; rfl); (focus kernel_rfl); (focus rintro w' ⟨s0, s1, s2, s3, s4, s5, s6, s7, s8, s9, s10, s11⟩; go_simp; with_reducible rfl); (focus dsimp only [List.set_cons_zero, List.set_cons_succ]; rfl))
      | (refine WL.one (lb' := ?_) rfl rfl ?_ HT_.out ?_ (by decide) (fun K hK => ?_); rotate_left; (focus dsimp only [List.set_cons_zero, List.set_cons_succ]; rfl); (focus kernel_rfl); first
          | (refine goes_ Tryz.func26 (by kernel_rfl) rfl #[.slice A2 s.f2.length c2, .agg #[.string r.f0, .string r.f1, .string r.f2, .string r.f3, .int .i64 r.f4, .int .i64 r.f5], .agg #[.string c.f0, .slice A1 c.f1.length c1]] (by rfl) rfl rfl (by simp only [List.map_toArray, List.map_cons, List.map_nil]; rfl) ?_; (with_reducible refine ((HOF _ hHeld.1.out).out).mono ?_); rintro e w4 ⟨rfl, hb⟩; refine ⟨_, rfl, ?_⟩; refine hK.out _ _ (by have h_ := hHeld.2; refine ⟨⟨below_tr hHeld.1.out hb⟩, ?_⟩; repeat (first | exact below_cell hb h_ | (refine ⟨below_cell hb h_.1, ?_⟩; replace h_ := h_.2))) (fun hHeld => ?_); clear hK K; refine WL.put (ys := ?_) ?_ ?_; rotate_left; (focus dsimp only [List.set_cons_zero, List.set_cons_succ]; rfl))))
    refine WL.done HT_.out (by kernel_rfl) ?_
    have HB4 := Lib.hid (below_tr HB3.out hHeld.1.out)
    obtain ⟨_, q0, q2, q3, x0, x1, x2, x3, x4, x5, g0, g1⟩ := hHeld
    clear q2 q3 x0 x1 x2 x3 x4 x5 g0 g1
    generalize hg2 : (du2 == act) = g2 at *
    generalize hg3 : decide (du1 ≤ s.f0) = g3 at *
    have HFD := Lib.hid (show D = (du3 && g3 && g2) by rw [HDD.out, ← hg2, ← hg3]; rfl)
    clear HDD
    cases du3
    all_goals cases g2
    all_goals cases g3
    all_goals
      obtain rfl := HFD.out
      go_wp2
      go_ret
      exact ⟨rfl, HB4.out⟩
  · have hc2 : decide (ci < 0) = true := decide_eq_true (by omega)
    have hc3 : ci < 0 := by omega
    obtain rfl : D = false := by rw [HD.out]; unfold forL; rw [HCI.out, decide_eq_false hci, Bool.false_and]
    go_wp2
    go_ret
    exact ⟨rfl, HB3.out⟩
end Go.Proofs.YtafigkikblpbnaaGreat.PG
namespace Go.Proofs.YtafigkikblpbnaaGreat.PG
open Go.RowKit Go.Proofs.YtafigkikblpbnaaGreatW.PrintWords Go.Proofs.YtafigkikblpbnaaGreatW.PrintLast Go.Proofs.YtafigkikblpbnaaGreatW.PrintMore
set_option linter.unusedVariables false
set_option linter.unusedSimpArgs false
set_option maxRecDepth 100000
/-- Names of the records that the command tells. -/
def cnt (d : Nat) (s : S31) : Nat → List ByteArray
  | 0 => []
  | n + 1 => cnt d s n ++ (if (decide ((rd_T73 s.f5 (n : Int)).f5 = 1) && forL s (rd_T73 s.f5 (n : Int)) 2 && !heldP d s.f6 (rd_T73 s.f5 (n : Int))) = true then [(rd_T73 s.f5 (n : Int)).f0] else [])
theorem cnt_len (d : Nat) (s : S31) : ∀ n, (cnt d s n).length ≤ n
  | 0 => Nat.le_refl _
  | n + 1 => by
    have := cnt_len d s n
    unfold cnt
    rw [List.length_append]
    split <;> simp <;> omega
theorem rv_for (d : Nat) (s : S31) (i : Int) (r : S73) : (rvL d s i r).2 = (decide (r.f5 = 1) && forL s r 2 && !heldP d s.f6 r) := by
  unfold rvL forL
  generalize dueL s.f2 r (rd_T59 s.f3 (csI s r)) = du
  obtain ⟨d1, d2, d3⟩ := du
  generalize heldP d s.f6 r = hp
  generalize csI s r = c
  by_cases h1 : r.f5 = 1
  · by_cases h2 : 0 ≤ c
    · cases hp
      · rw [if_pos ⟨h1, h2, rfl⟩, decide_eq_true h1, decide_eq_true h2]
        cases d3
        · rfl
        · show (true && decide (d2 = 2) && decide (d1 ≤ s.f0)) = (true && (true && (true && decide (d1 ≤ s.f0) && decide (d2 = 2))) && !false)
          simp only [Bool.true_and, Bool.not_false, Bool.and_true]
          exact Bool.and_comm _ _
      · rw [if_neg (by simp)]; simp
    · rw [if_neg (by intro h; exact h2 h.2.1), decide_eq_false h2]; simp
  · rw [if_neg (by intro h; exact h1 h.1), decide_eq_false h1]; simp
theorem rv_name (d : Nat) (s : S31) (i : Int) (r : S73) (h : (rvL d s i r).2 = true) : (rvL d s i r).1.f0 = r.f0 := by
  unfold rvL at *
  split at h
  · rename_i hc
    rw [if_pos hc]
  · cases h
theorem cnt_eq (d : Nat) (s : S31) : ∀ n, cnt d s n = (revs d s n).map (·.f0)
  | 0 => rfl
  | n + 1 => by
    unfold cnt revs
    rw [cnt_eq d s n, List.map_append, ← rv_for d s (n : Int)]
    split
    · rename_i hc
      rw [List.map_singleton, rv_name d s _ _ hc]
    · rfl
theorem insB_perm (x : S40) : ∀ l, (insB x l).Perm (x :: l)
  | [] => List.Perm.refl _
  | y :: l => by
    unfold insB
    split
    · exact ((insB_perm x l).cons y).trans (List.Perm.swap x y l)
    · exact List.Perm.refl _
theorem insB_sorted (x : S40) : ∀ l : List S40, l.Pairwise (fun a b => ltB a b = true) → (∀ y ∈ l, y ≠ x) → (insB x l).Pairwise (fun a b => ltB a b = true)
  | [], _, _ => by unfold insB; exact List.pairwise_singleton _ _
  | y :: l, h, hn => by
    rw [List.pairwise_cons] at h
    unfold insB
    split
    · rename_i hy
      rw [List.pairwise_cons]
      refine ⟨fun z hz => ?_, insB_sorted x l h.2 (fun z hz => hn z (List.mem_cons.2 (.inr hz)))⟩
      rcases List.mem_cons.1 ((insB_perm x l).mem_iff.1 hz) with rfl | hz
      · exact hy
      · exact h.1 z hz
    · rename_i hy
      have hxy : ltB x y = true := by
        cases hx : ltB x y
        · exact absurd (ltB_tot y x (by simpa using hy) hx) (hn y (List.mem_cons.2 (.inl rfl)))
        · rfl
      rw [List.pairwise_cons]
      refine ⟨fun z hz => ?_, List.pairwise_cons.2 h⟩
      rcases List.mem_cons.1 hz with rfl | hz
      · exact hxy
      · exact ltB_trans hxy (h.1 z hz)
theorem revs_mem (d : Nat) (s : S31) {y : S40} : ∀ n, y ∈ revs d s n → ∃ k : Nat, k < n ∧ y.f0 = (rd_T73 s.f5 (k : Int)).f0
  | 0, h => by cases h
  | n + 1, h => by
    unfold revs at h
    rcases List.mem_append.1 h with h | h
    · obtain ⟨k, hk, e⟩ := revs_mem d s n h
      exact ⟨k, Nat.lt_succ_of_lt hk, e⟩
    · split at h
      · rename_i hc
        rw [List.mem_singleton] at h
        exact ⟨n, Nat.lt_succ_self n, by rw [h]; exact rv_name d s _ _ hc⟩
      · cases h
theorem name_uniq {s : S31} (h : Ok5 s) {i k : Nat} (hi : i < s.f5.length) (hk : k < s.f5.length) (e : (rd_T73 s.f5 (i : Int)).f0 = (rd_T73 s.f5 (k : Int)).f0) : i = k := by
  have h1 := h.2 i hi
  rw [e, h.2 k hk] at h1
  omega
theorem refs_sorted (d : Nat) (s : S31) (h : Ok5 s) : ∀ n, n ≤ s.f5.length → (refs d s n).Perm (revs d s n) ∧ (refs d s n).Pairwise (fun a b => ltB a b = true) ∧ (revs d s n).Nodup
  | 0, _ => ⟨List.Perm.refl _, List.Pairwise.nil, List.nodup_nil⟩
  | n + 1, hn => by
    obtain ⟨h1, h2, h3⟩ := refs_sorted d s h n (by omega)
    have hL := refs_len d s n
    have hM := fun y => revs_mem d s (y := y) n
    unfold refs revs
    split
    · rename_i hc
      have hnm := rv_name d s (n : Int) (rd_T73 s.f5 (n : Int)) hc
      generalize (rvL d s (n : Int) (rd_T73 s.f5 (n : Int))).1 = x at *
      generalize refs d s n = L at *
      generalize revs d s n = V at *
      have hne : ∀ y ∈ V, y.f0 ≠ x.f0 := fun y hy e => by
        obtain ⟨k, hk, ek⟩ := hM y hy
        have := name_uniq h (i := k) (k := n) (by omega) (by omega) (ek.symm.trans (e.trans hnm))
        omega
      have hno : L.any (nm40 x.f0) = false := by
        rw [List.any_eq_false]
        intro y hy hyx
        exact hne y (h1.mem_iff.1 hy) (ba_ext (by unfold nm40 at hyx; exact beq_iff_eq.1 hyx))
      have hlen : ¬ 200 ≤ L.length := by have := h.1; omega
      have e : (putL L x).1 = insB x L := by unfold putL; rw [if_neg (by rw [hno]; simp), if_neg hlen]
      rw [e]
      have hp : (V ++ [x]).Perm (x :: V) := List.perm_append_singleton x V
      refine ⟨(insB_perm x L).trans ((h1.cons x).trans hp.symm), insB_sorted x L h2 (fun y hy e => hne y (h1.mem_iff.1 hy) (by rw [e])), ?_⟩
      rw [hp.nodup_iff, List.nodup_cons]
      exact ⟨fun hx => hne x hx rfl, h3⟩
    · rw [List.append_nil]; exact ⟨h1, h2, h3⟩
theorem sortI_sorted (xs : List S40) (h : xs.Nodup) : (sortI xs).Pairwise (fun a b => ltB a b = true) := by
  have h1 : (sortI xs).Pairwise (fun a b => (!(ltOf ordI) b a) = true) := List.pairwise_mergeSort (le := fun a b => !(ltOf ordI) b a) (fun a b c hab hbc => by
    simp only [lt_ord, Bool.not_eq_true'] at *
    cases hac : ltB c a
    · rfl
    · cases hab2 : ltB a b
      · have := ltB_tot a b hab2 hab
        subst this
        rw [hac] at hbc
        cases hbc
      · have := ltB_trans hac hab2
        rw [this] at hbc
        cases hbc) (fun a b => by
    simp only [lt_ord]
    cases hab : ltB b a
    · rfl
    · cases hba : ltB a b
      · rfl
      · exact absurd hba (ltB_asy _ _ hab)) xs
  have h2 : (sortI xs).Nodup := (sortI_perm xs).nodup_iff.2 h
  refine (h1.and h2).imp (fun {a b} hab => ?_)
  obtain ⟨p, q⟩ := hab
  simp only [lt_ord, Bool.not_eq_true'] at p
  cases hl : ltB a b
  · exact absurd (ltB_tot a b hl p) q
  · rfl
/-- The document's items are the program's. -/
theorem refs_eq (d : Nat) (s : S31) (h : Ok5 s) : refs d s s.f5.length = sortI (revs d s s.f5.length) := by
  obtain ⟨h1, h2, h3⟩ := refs_sorted d s h s.f5.length (Nat.le_refl _)
  exact sorted_uniq (r := fun a b => ltB a b = true) (fun a b p q => ltB_asy a b p q) _ _ h2 (sortI_sorted _ h3) (h1.trans (sortI_perm _).symm)
/-- Every name that the command tells is an item's. -/
theorem cnt_found (d : Nat) (s : S31) (n : Nat) {t : ByteArray} (h : t ∈ cnt d s n) : ∃ y ∈ sortI (revs d s n), y.f0 = t := by
  rw [cnt_eq] at h
  obtain ⟨y, hy, e⟩ := List.mem_map.1 h
  exact ⟨y, (sortI_perm _).mem_iff.2 hy, e⟩
theorem cnt_num (d : Nat) (s : S31) (n : Nat) : (cnt d s n).length = (sortI (revs d s n)).length := by
  rw [cnt_eq, List.length_map, (sortI_perm _).length_eq]
end Go.Proofs.YtafigkikblpbnaaGreat.PG
namespace Go.Proofs.YtafigkikblpbnaaGreat.PG
open Go.RowKit Go.Proofs.YtafigkikblpbnaaGreatW.PrintWords Go.Proofs.YtafigkikblpbnaaGreatW.PrintLast Go.Proofs.YtafigkikblpbnaaGreatW.PrintMore
set_option linter.unusedVariables false
set_option linter.unusedSimpArgs false
set_option maxRecDepth 100000
theorem tab69_8 : rtab .any (opsOf Tryz.f69 8) = (true, [([], []), ([], []), ([1], [1]), ([2], [2]), ([3], [3]), ([4], [4]), ([], []), ([6], [6]), ([7], [7]), ([5, 8], [5, 8]), ([0, 0, 1, 2, 3, 4, 5, 6, 7, 8, 9], [0]), ([10, 0, 1, 2, 3, 4, 5, 6, 7, 8, 9], [10]), ([11, 0, 1, 2, 3, 4, 5, 6, 7, 8, 9], [11]), ([12, 9, 9, 0, 1, 2, 3, 4, 5, 6, 7, 8, 9], [9, 12])]) := by kernel_rfl

/-- The work is done: it answers 0, and the names stand in the work's block. -/
def RCn (d : Nat) (s : S31) (A2 A3 A4 A5 A6 A7 A8 : Option Addr) (c2 c3 c4 c5 c6 c7 c8 : Nat) (p : Nat) (e0 e1 e3 e4 e5 e6 e7 : Value) (wB : World) (e : Ending) (w' : World) : Prop := e = .returned (.int .i64 0) ∧ ∃ (A9 : Option Addr) (c9 : Nat), (cnt d s s.f5.length).length ≤ c9 ∧ Kd.F Kd.string w' (fun j => p < j) A9 (cnt d s s.f5.length).length (cnt d s s.f5.length) ∧ w'.heap[p]? = some (.cells #[.int .i64 s.f0, .int .u64 s.f1, .slice A2 s.f2.length c2, .slice A3 s.f3.length c3, .slice A4 s.f4.length c4, .slice A5 s.f5.length c5, .slice A6 s.f6.length c6, .slice A7 s.f7.length c7, .slice A8 s.f8.length c8, .int .i64 s.f9, e0, e1, .slice A9 (cnt d s s.f5.length).length c9, e3, e4, e5, e6, e7] 87 (0, 0)) ∧ Below p wB w'
set_option maxHeartbeats 4000000 in
theorem count_any (d : Nat) (s : S31) (A2 A3 A4 A5 A6 A7 A8 : Option Addr) (c2 c3 c4 c5 c6 c7 c8 : Nat) (p : Nat) (e0 e1 e3 e4 e5 e6 e7 : Value) (wB W : World) (hs : Rs wB s A2 A3 A4 A5 A6 A7 A8 c2 c3 c4 c5 c6 c7 c8) (ha : Ask d s) (hn : s.f5.length ≤ 1000) (hpp : p = wB.heap.size) (hb : Below p wB W) (hp : W.heap[p]? = some (.cells #[.int .i64 s.f0, .int .u64 s.f1, .slice A2 s.f2.length c2, .slice A3 s.f3.length c3, .slice A4 s.f4.length c4, .slice A5 s.f5.length c5, .slice A6 s.f6.length c6, .slice A7 s.f7.length c7, .slice A8 s.f8.length c8, .int .i64 s.f9, e0, e1, .slice none 0 0, e3, e4, e5, e6, e7] 87 (0, 0))) :
    Calls Tryz.prog 69 #[.pointer (some ⟨p, 0, none⟩), .agg #[.int .i64 13, .string ⟨#[]⟩, .string ⟨#[]⟩, .string ⟨#[]⟩, .string ⟨#[]⟩, .int .i64 0, .slice none 0 0, .int .u64 0, .int .u64 0, .int .i64 0, .string ⟨#[]⟩, .int .i64 0, .int .i64 0, .slice none 0 0]] W (RCn d s A2 A3 A4 A5 A6 A7 A8 c2 c3 c4 c5 c6 c7 c8 p e0 e1 e3 e4 e5 e6 e7 wB) := by
  have HB := Lib.hid (show Below W.heap.size W (W.alloc (.cells #[.int .i64 13, .string ⟨#[]⟩, .string ⟨#[]⟩, .string ⟨#[]⟩, .string ⟨#[]⟩, .int .i64 0, .slice none 0 0, .int .u64 0, .int .u64 0, .int .i64 0, .string ⟨#[]⟩, .int .i64 0, .int .i64 0, .slice none 0 0] 54 (0, 0))) from below_alloc (Below.refl _ _) _)
  have HC := Lib.hid (new_blk W (.cells #[.int .i64 13, .string ⟨#[]⟩, .string ⟨#[]⟩, .string ⟨#[]⟩, .string ⟨#[]⟩, .int .i64 0, .slice none 0 0, .int .u64 0, .int .u64 0, .int .i64 0, .string ⟨#[]⟩, .int .i64 0, .int .i64 0, .slice none 0 0] 54 (0, 0)))
  have HP := Lib.hid ((HB.out.block p (blk_lt hp)).trans hp)
  have HPW := Lib.hid (blk_lt hp)
  have HBW := Lib.hid (show Below p wB (W.alloc (.cells #[.int .i64 13, .string ⟨#[]⟩, .string ⟨#[]⟩, .string ⟨#[]⟩, .string ⟨#[]⟩, .int .i64 0, .slice none 0 0, .int .u64 0, .int .u64 0, .int .i64 0, .string ⟨#[]⟩, .int .i64 0, .int .i64 0, .slice none 0 0] 54 (0, 0))) from hb.trans ⟨HB.out.os, HB.out.tape, HB.out.output, HB.out.size, fun k hk => HB.out.block k (Nat.lt_trans hk (blk_lt hp))⟩)
  have HS := Lib.hid (show ∀ w', Below p wB w' → Rs w' s A2 A3 A4 A5 A6 A7 A8 c2 c3 c4 c5 c6 c7 c8 from fun w' h => hs.below (hpp ▸ h))
  have HA := Lib.hid ha
  have hn2 : (s.f5.length : Int) ≤ 1000 := by omega
  clear hs ha hp hb hpp
  go_enter Tryz.func69, Tryz.ntmps69
  go_wp2
  generalize W.alloc (.cells #[.int .i64 13, .string ⟨#[]⟩, .string ⟨#[]⟩, .string ⟨#[]⟩, .string ⟨#[]⟩, .int .i64 0, .slice none 0 0, .int .u64 0, .int .u64 0, .int .i64 0, .string ⟨#[]⟩, .int .i64 0, .int .i64 0, .slice none 0 0] 54 (0, 0)) = W1 at *
  have HPL := Lib.hid (show p < W1.heap.size from blk_lt HP.out)
  have HBL := Lib.hid (show W.heap.size < W1.heap.size from blk_lt HC.out)
  go_loopw [5] (fun v5 wr => ∃ (k : Nat) (A9 : Option Addr) (c9 : Nat), v5 = .int .i64 k ∧ k ≤ s.f5.length ∧ Aside0 (Kd.R Kd.string 9 wr W1.heap.size (fun j => W1.heap.size ≤ j) (.slice A9 (cnt d s k).length c9) (cnt d s k)) ∧ Aside0 (wr.heap[p]? = some (.cells #[.int .i64 s.f0, .int .u64 s.f1, .slice A2 s.f2.length c2, .slice A3 s.f3.length c3, .slice A4 s.f4.length c4, .slice A5 s.f5.length c5, .slice A6 s.f6.length c6, .slice A7 s.f7.length c7, .slice A8 s.f8.length c8, .int .i64 s.f9, e0, e1, .slice A9 (cnt d s k).length c9, e3, e4, e5, e6, e7] 87 (0, 0))) ∧ Aside0 (wr.heap[W.heap.size]? = some (.cells #[.int .i64 13, .string ⟨#[]⟩, .string ⟨#[]⟩, .string ⟨#[]⟩, .string ⟨#[]⟩, .int .i64 0, .slice none 0 0, .int .u64 0, .int .u64 0, .int .i64 0, .string ⟨#[]⟩, .int .i64 0, .int .i64 0, .slice none 0 0] 54 (0, 0)) ∧ W1.heap.size ≤ wr.heap.size) ∧ Aside0 (Below p wB wr)) (fun v5 _ => s.f5.length - (intOf v5).toNat)
  case atStart => exact ⟨0, none, 0, rfl, Nat.zero_le _, ⟨Kd.R_nil _ _ _ _ _⟩, ⟨HP.out⟩, ⟨HC.out, Nat.le_refl _⟩, ⟨HBW.out⟩⟩
  case round =>
    obtain ⟨k, A9, c9, rfl, hk, HR, HPR, HCR, HBR⟩ := hrel
    have HS2 := Lib.hid (HS.out _ HBR.out)
    have HLN := Lib.hid (Nat.le_trans (cnt_len d s k) hk)
    by_cases hlt : k < s.f5.length
    · have hlt2 : (k : Int) < (s.f5.length : Int) := by omega
      obtain ⟨ad, e, h0, h1, h2, h3, h4, h5⟩ := at_T73 HS2.out.g5 (k : Int) (by omega) (by omega)
      simp only [Int.toNat_natCast] at h0 h1 h2 h3 h4 h5
      have q5 : wr.cell? ⟨p, 5, none⟩ = some (.slice (some ad) s.f5.length c5) := e ▸ (blk_cell HPR.out 5).trans rfl
      clear e
      have HCN := Lib.hid (show cnt d s (k + 1) = cnt d s k ++ (if (decide ((rd_T73 s.f5 (k : Int)).f5 = 1) && forL s (rd_T73 s.f5 (k : Int)) 2 && !heldP d s.f6 (rd_T73 s.f5 (k : Int))) = true then [(rd_T73 s.f5 (k : Int)).f0] else []) from rfl)
      generalize rd_T73 s.f5 (k : Int) = y at *
      obtain ⟨w3, hw3⟩ : ∃ w3, wr.alloc (.cells #[.string y.f0, .string y.f1, .string y.f2, .string y.f3, .int .i64 y.f4, .int .i64 y.f5] 73 (0, 0)) = w3 := ⟨_, rfl⟩
      have HB3 := Lib.hid (show Below wr.heap.size wr w3 by rw [← hw3]; exact below_alloc (Below.refl _ _) _)
      have HY3 := Lib.hid (show w3.heap[wr.heap.size]? = some (.cells #[.string y.f0, .string y.f1, .string y.f2, .string y.f3, .int .i64 y.f4, .int .i64 y.f5] 73 (0, 0)) by rw [← hw3]; exact new_blk wr _)
      have HP3 := Lib.hid ((HB3.out.block p (blk_lt HPR.out)).trans HPR.out)
      have HC3 := Lib.hid ((HB3.out.block W.heap.size (blk_lt HCR.out.1)).trans HCR.out.1)
      have HR3 := Lib.hid (Kd.R_below HR.out HB3.out)
      have HW3 := Lib.hid hw3
      clear hw3
      have p0 : (wr.alloc (.cells #[.string y.f0, .string y.f1, .string y.f2, .string y.f3, .int .i64 y.f4, .int .i64 y.f5] 73 (0, 0))).cell? ⟨W.heap.size, 0, none⟩ = some (.int .i64 13) := by rw [HW3.out]; exact (blk_cell HC3.out 0).trans rfl
      have HB3W := Lib.hid (show Below p wB w3 from HBR.out.trans ⟨HB3.out.os, HB3.out.tape, HB3.out.output, HB3.out.size, fun j hj => HB3.out.block j (Nat.lt_trans hj (blk_lt HPR.out))⟩)
      by_cases h51 : y.f5 = 1
      · have hb5 : (y.f5 == 1) = true := by simp [h51]
        have HDF := Lib.hid (dueFor_any d s A2 A3 A4 A5 A6 A7 A8 c2 c3 c4 c5 c6 c7 c8 p e0 e1 (.slice A9 (cnt d s k).length c9) e3 e4 e5 e6 e7 y 2 w3 (HS.out _ HB3W.out) HA.out HP3.out)
        have HH := Lib.hid (fun w' (h : Below p wB w') (h2 : w'.heap[p]? = some (.cells #[.int .i64 s.f0, .int .u64 s.f1, .slice A2 s.f2.length c2, .slice A3 s.f3.length c3, .slice A4 s.f4.length c4, .slice A5 s.f5.length c5, .slice A6 s.f6.length c6, .slice A7 s.f7.length c7, .slice A8 s.f8.length c8, .int .i64 s.f9, e0, e1, .slice A9 (cnt d s k).length c9, e3, e4, e5, e6, e7] 87 (0, 0))) => held29_any d s A2 A3 A4 A5 A6 A7 A8 c2 c3 c4 c5 c6 c7 c8 p e0 e1 (.slice A9 (cnt d s k).length c9) e3 e4 e5 e6 e7 y w' (HS.out _ h) HA.out h2)
        rw [decide_eq_true h51, Bool.true_and] at HCN
        clear h51
        generalize forL s y 2 = bf at *
        generalize heldP d s.f6 y = bh at *
        go_wp2_with fail
        rw [HW3.out]
        refine HDF.out.mono ?_
        rintro e w4 ⟨rfl, hb⟩
        have HP4 := Lib.hid ((hb.block p (blk_lt HP3.out)).trans HP3.out)
        have HC4 := Lib.hid ((hb.block W.heap.size (blk_lt HC3.out)).trans HC3.out)
        have HY4 := Lib.hid ((hb.block wr.heap.size (blk_lt HY3.out)).trans HY3.out)
        have HR4 := Lib.hid (Kd.R_below HR3.out hb)
        have HB4 := Lib.hid (below_tr HB3.out hb)
        have HB4W := Lib.hid (show Below p wB w4 from HB3W.out.trans ⟨hb.os, hb.tape, hb.output, hb.size, fun j hj => hb.block j (Nat.lt_trans hj (blk_lt HP3.out))⟩)
        clear hb h0 h1 h2 h3 h4 h5 q5 p0
        cases bf
        · rw [Bool.false_and, if_neg (by decide), List.append_nil] at HCN
          go_wp2
          go_roundw
          case rel => exact ⟨k + 1, A9, c9, by go_num, by omega, ⟨by rw [HCN.out]; exact HR4.out⟩, ⟨by rw [HCN.out]; exact HP4.out⟩, ⟨HC4.out, Nat.le_trans HCR.out.2 HB4.out.size⟩, ⟨HB4W.out⟩⟩
          case measure => simp [intOf]; omega
        · have HH5 := Lib.hid (HH.out w4 HB4W.out HP4.out)
          have x0 : w4.cell? ⟨wr.heap.size, 0, none⟩ = some (.string y.f0) := (blk_cell HY4.out 0).trans rfl
          have x1 : w4.cell? ⟨wr.heap.size, 1, none⟩ = some (.string y.f1) := (blk_cell HY4.out 1).trans rfl
          have x2 : w4.cell? ⟨wr.heap.size, 2, none⟩ = some (.string y.f2) := (blk_cell HY4.out 2).trans rfl
          have x3 : w4.cell? ⟨wr.heap.size, 3, none⟩ = some (.string y.f3) := (blk_cell HY4.out 3).trans rfl
          have x4 : w4.cell? ⟨wr.heap.size, 4, none⟩ = some (.int .i64 y.f4) := (blk_cell HY4.out 4).trans rfl
          have x5 : w4.cell? ⟨wr.heap.size, 5, none⟩ = some (.int .i64 y.f5) := (blk_cell HY4.out 5).trans rfl
          go_wp2_with fail
          refine HH5.out.mono ?_
          rintro e w5 ⟨rfl, hb⟩
          have HP5 := Lib.hid ((hb.block p (blk_lt HP4.out)).trans HP4.out)
          have HC5 := Lib.hid ((hb.block W.heap.size (blk_lt HC4.out)).trans HC4.out)
          have HY5 := Lib.hid ((hb.block wr.heap.size (blk_lt HY4.out)).trans HY4.out)
          have HR5 := Lib.hid (Kd.R_below HR4.out hb)
          have HB5 := Lib.hid (below_tr HB4.out hb)
          have HZ5 := Lib.hid (Nat.le_trans HCR.out.2 HB5.out.size)
          have HB5W := Lib.hid (show Below p wB w5 from HB4W.out.trans ⟨hb.os, hb.tape, hb.output, hb.size, fun j hj => hb.block j (Nat.lt_trans hj (blk_lt HP4.out))⟩)
          clear hb x0 x1 x2 x3 x4 x5
          cases bh
          · rw [Bool.true_and, Bool.not_false, if_pos rfl] at HCN
            have z12 : w5.drew.cell? ⟨p, 12, none⟩ = some (.slice A9 (cnt d s k).length c9) := (blk_cell HP5.out 12).trans rfl
            have zy : w5.drew.cell? ⟨wr.heap.size, 0, none⟩ = some (.string y.f0) := (blk_cell HY5.out 0).trans rfl
            go_wp2_with fail
            refine WL.start (n := 14) (ds := [13]) (S := fun w' => w'.cell? ⟨p, 12, none⟩ = some (.slice A9 (cnt d s k).length c9) ∧ w'.cell? ⟨wr.heap.size, 0, none⟩ = some (.string y.f0)) [false, false, false, false, false, false, false, false, false, false, false, false, false, false] (by kernel_rfl) rfl rfl ⟨z12, zy⟩ (fun hHeld => ?_)
            refine WL.tab tab69_8 (fun HT_ => ?_)
            refine WL.more [0, 1, 2, 3, 4, 6, 5, 7, 8, 9, 10, 11, 12] ?_
            repeat (first
              | (refine WL.off (lb' := ?_) (ys := ?_) rfl rfl (by rfl) ?_ HT_.out ?_ (fun _ _ _ h => h) ?_ ?_; rotate_left 2; (focus dsimp only [List.set_cons_zero, List.set_cons_succ]; rfl); (focus kernel_rfl); (focus dsimp only [List.set_cons_zero, List.set_cons_succ]; rfl))
              | (refine WL.pure (lb' := ?_) (v := ?_) (ys := ?_) rfl rfl (by rfl) ?_ HT_.out ?_ (fun _ _ _ h => h) ?_ ?_ ?_; rotate_left 3; (focus dsimp only [List.set_cons_zero, List.set_cons_succ]; rfl); (focus kernel_rfl); (focus intro w'; go_simp; with_reducible rfl); (focus dsimp only [List.set_cons_zero, List.set_cons_succ]; rfl))
              | (refine WL.take (lb' := ?_) (v := ?_) (ys := ?_) rfl rfl (by rfl) ?_ HT_.out ?_ (fun _ _ _ h => h) hHeld ?_ ?_ ?_; rotate_left 3; (focus dsimp only [List.set_cons_zero, List.set_cons_succ]; rfl); (focus kernel_rfl); (focus rintro w' ⟨s0, s1⟩; go_simp; with_reducible rfl); (focus dsimp only [List.set_cons_zero, List.set_cons_succ]; rfl))
              | (refine WL.one (lb' := ?_) rfl rfl ?_ HT_.out ?_ (by decide) (fun K hK => ?_); rotate_left; (focus dsimp only [List.set_cons_zero, List.set_cons_succ]; rfl); (focus kernel_rfl); first
                  | (refine value_ (w1 := ?_) (v := ?_) (by rfl) rfl ?_ ?_; rotate_left 2; (focus go_simp; constructor; rfl; rfl); refine hK.out _ _ ⟨below_cell (below_alloc (Below.refl _ _) _) hHeld.1, below_cell (below_alloc (Below.refl _ _) _) hHeld.2⟩ (fun hHeld => ?_); clear hK K; refine WL.put (ys := ?_) ?_ ?_; rotate_left; (focus dsimp only [List.set_cons_zero, List.set_cons_succ]; rfl))
                  | (refine Kd.R_append_step Kd.string (w0 := w5.drew) (W := w5.drew) W1.heap.size (by rfl) (.tmp 66) (.tmp 69) 42 9 (.string ⟨#[]⟩) 16 rfl Tryz.underlying42 info9 rfl (by decide) (by omega) (.slice A9 (cnt d s k).length c9) (cnt d s k) y.f0 [.string y.f0] (fun j => W1.heap.size ≤ j) (fun _ => False) rfl rfl rfl (fun _ hk => hk.elim) (fun j hj => Nat.le_trans HZ5.out hj) (Kd.R_drew HR5.out) (Below.refl _ _) HZ5.out (by have := HLN.out; omega) ?_; intro v9 w6 ho hb hg hat; clear hat; have HP6 := (hb.block p (Nat.lt_of_lt_of_le HPL.out (Nat.le_refl _))).trans HP5.out; have HC6 := (hb.block W.heap.size HBL.out).trans HC5.out; have HY6 := (hg.block wr.heap.size (blk_lt HY5.out) (fun e_ => by have := Kd.R_lt HR.out _ e_.symm; omega)).trans HY5.out; have HZ6 := Nat.le_trans HZ5.out hg.size; obtain ⟨A10, c10, rfl⟩ : ∃ A c, v9 = .slice A ((cnt d s k).length + 1) c := (by obtain ⟨A, c, e⟩ := Kd.R_slice ho; exact ⟨A, c, by rw [e, List.length_append]; rfl⟩); have k12 : w6.cell? ⟨p, 12, none⟩ = some (.slice A9 (cnt d s k).length c9) := (blk_cell HP6 12).trans rfl; have f12 := blk_frozen HP6 12; refine hK.out _ _ ⟨k12, (blk_cell HY6 0).trans rfl⟩ (fun hHeld => ?_); clear hK K; refine WL.put (ys := ?_) ?_ ?_; rotate_left; (focus dsimp only [List.set_cons_zero, List.set_cons_succ]; rfl))))
            refine WL.more [13] ?_
            refine WL.last (lb' := ?_) rfl rfl ?_ HT_.out ?_ (by decide) (fun K hK => ?_); rotate_left; (focus dsimp only [List.set_cons_zero, List.set_cons_succ]; rfl); (focus kernel_rfl)
            refine skip_ (w1 := ?_) (by rfl) rfl ?_ ?_
            rotate_left
            (focus go_simp; rfl)
            refine hK.out _ _ ?_
            clear hK K
            refine WL.done HT_.out (by kernel_rfl) ?_
            have HF1 := Lib.hid (Kd.R_far (p := ⟨p, 12, none⟩) ho (fun j hj => by have := HPL.out; show j ≠ p; omega) (.slice A10 ((cnt d s k).length + 1) c10))
            have HF2 := Lib.hid (blk_put HP6 12 (.slice A10 ((cnt d s k).length + 1) c10) rfl)
            have HF3 := Lib.hid ((Below.heap_setCell w6 ⟨p, 12, none⟩ (.slice A10 ((cnt d s k).length + 1) c10) W.heap.size (by have := HPW.out; show W.heap.size ≠ p; omega)).trans HC6)
            have HF4 := Lib.hid (show W1.heap.size ≤ (w6.setCell ⟨p, 12, none⟩ (.slice A10 ((cnt d s k).length + 1) c10)).heap.size by simpa [World.setCell] using HZ6)
            have HF5 := Lib.hid (Below.setCell ((below_drew HB5W.out).trans ⟨hb.os, hb.tape, hb.output, hb.size, fun j hj => hb.block j (Nat.lt_trans hj HPL.out)⟩) (p := ⟨p, 12, none⟩) (Nat.le_refl _) (.slice A10 ((cnt d s k).length + 1) c10))
            clear ho hb hg HP6 HC6 HY6 HZ6 k12 f12
            go_wp2
            go_roundw
            case rel => exact ⟨k + 1, A10, c10, by go_num, by omega, ⟨by rw [HCN.out, List.length_append]; exact HF1.out⟩, ⟨by rw [HCN.out, List.length_append]; exact HF2.out⟩, ⟨HF3.out, HF4.out⟩, ⟨HF5.out⟩⟩
            case measure => simp [intOf]; omega
          · rw [Bool.true_and, Bool.not_true, if_neg (by decide), List.append_nil] at HCN
            go_wp2
            go_roundw
            case rel => exact ⟨k + 1, A9, c9, by go_num, by omega, ⟨by rw [HCN.out]; exact HR5.out⟩, ⟨by rw [HCN.out]; exact HP5.out⟩, ⟨HC5.out, Nat.le_trans HCR.out.2 HB5.out.size⟩, ⟨HB5W.out⟩⟩
            case measure => simp [intOf]; omega
      · have hb5 : (y.f5 == 1) = false := by simp [h51]
        rw [decide_eq_false h51, Bool.false_and, Bool.false_and, if_neg (by decide), List.append_nil] at HCN
        clear h51
        go_wp2
        rw [HW3.out]
        go_roundw
        case rel => exact ⟨k + 1, A9, c9, by go_num, by omega, ⟨by rw [HCN.out]; exact HR3.out⟩, ⟨by rw [HCN.out]; exact HP3.out⟩, ⟨HC3.out, Nat.le_trans HCR.out.2 HB3.out.size⟩, ⟨HB3W.out⟩⟩
        case measure => simp [intOf]; omega
    · have hk2 : k = s.f5.length := by omega
      subst hk2
      have q5 : wr.cell? ⟨p, 5, none⟩ = some (.slice A5 s.f5.length c5) := (blk_cell HPR.out 5).trans rfl
      have hq : ¬ (s.f5.length : Int) < (s.f5.length : Int) := by omega
      generalize hzs : cnt d s s.f5.length = zs at *
      have HF := Kd.R_reads' HR.out
      go_wp2
      go_ret
      unfold RCn
      rw [hzs]
      exact ⟨rfl, A9, c9, HF.2.1, Kd.F_mono (Kd.R_F HR.out) (fun j hj => Nat.lt_of_lt_of_le HPL.out hj), HPR.out, HBR.out⟩
end Go.Proofs.YtafigkikblpbnaaGreat.PG
namespace Go.Proofs.YtafigkikblpbnaaGreat.PG
open Go.RowKit Go.Proofs.YtafigkikblpbnaaGreatW.PrintWords Go.Proofs.YtafigkikblpbnaaGreatW.PrintLast Go.Proofs.YtafigkikblpbnaaGreatW.PrintMore
set_option linter.unusedVariables false
set_option linter.unusedSimpArgs false
set_option maxRecDepth 100000

set_option maxHeartbeats 2000000 in
theorem run_any (d : Nat) (s : S31) (A2 A3 A4 A5 A6 A7 A8 : Option Addr) (c2 c3 c4 c5 c6 c7 c8 : Nat) (p : Nat) (e0 e1 e3 e4 e5 e6 e7 : Value) (wB W : World) (hs : Rs wB s A2 A3 A4 A5 A6 A7 A8 c2 c3 c4 c5 c6 c7 c8) (ha : Ask d s) (hn : s.f5.length ≤ 1000) (hpp : p = wB.heap.size) (hb : Below p wB W) (hp : W.heap[p]? = some (.cells #[.int .i64 s.f0, .int .u64 s.f1, .slice A2 s.f2.length c2, .slice A3 s.f3.length c3, .slice A4 s.f4.length c4, .slice A5 s.f5.length c5, .slice A6 s.f6.length c6, .slice A7 s.f7.length c7, .slice A8 s.f8.length c8, .int .i64 s.f9, e0, e1, .slice none 0 0, e3, e4, e5, e6, e7] 87 (0, 0))) :
    Calls Tryz.prog 29 #[.pointer (some ⟨p, 0, none⟩), .agg #[.int .i64 13, .string ⟨#[]⟩, .string ⟨#[]⟩, .string ⟨#[]⟩, .string ⟨#[]⟩, .int .i64 0, .slice none 0 0, .int .u64 0, .int .u64 0, .int .i64 0, .string ⟨#[]⟩, .int .i64 0, .int .i64 0, .slice none 0 0]] W (RCn d s A2 A3 A4 A5 A6 A7 A8 c2 c3 c4 c5 c6 c7 c8 p e0 e1 e3 e4 e5 e6 e7 wB) := by
  have hb1 := below_alloc (Below.refl W.heap.size W) (.cells #[.int .i64 13, .string ⟨#[]⟩, .string ⟨#[]⟩, .string ⟨#[]⟩, .string ⟨#[]⟩, .int .i64 0, .slice none 0 0, .int .u64 0, .int .u64 0, .int .i64 0, .string ⟨#[]⟩, .int .i64 0, .int .i64 0, .slice none 0 0] 54 (0, 0))
  have HC := new_blk W (.cells #[.int .i64 13, .string ⟨#[]⟩, .string ⟨#[]⟩, .string ⟨#[]⟩, .string ⟨#[]⟩, .int .i64 0, .slice none 0 0, .int .u64 0, .int .u64 0, .int .i64 0, .string ⟨#[]⟩, .int .i64 0, .int .i64 0, .slice none 0 0] 54 (0, 0))
  have HCALL := Lib.hid (count_any d s A2 A3 A4 A5 A6 A7 A8 c2 c3 c4 c5 c6 c7 c8 p e0 e1 e3 e4 e5 e6 e7 wB (W.alloc (.cells #[.int .i64 13, .string ⟨#[]⟩, .string ⟨#[]⟩, .string ⟨#[]⟩, .string ⟨#[]⟩, .int .i64 0, .slice none 0 0, .int .u64 0, .int .u64 0, .int .i64 0, .string ⟨#[]⟩, .int .i64 0, .int .i64 0, .slice none 0 0] 54 (0, 0))) hs ha hn hpp (hb.trans ⟨hb1.os, hb1.tape, hb1.output, hb1.size, fun k hk => hb1.block k (Nat.lt_trans hk (blk_lt hp))⟩) ((hb1.block p (blk_lt hp)).trans hp))
  have x0 : (W.alloc (.cells #[.int .i64 13, .string ⟨#[]⟩, .string ⟨#[]⟩, .string ⟨#[]⟩, .string ⟨#[]⟩, .int .i64 0, .slice none 0 0, .int .u64 0, .int .u64 0, .int .i64 0, .string ⟨#[]⟩, .int .i64 0, .int .i64 0, .slice none 0 0] 54 (0, 0))).cell? ⟨W.heap.size, 0, none⟩ = some (.int .i64 13) := (blk_cell HC 0).trans rfl
  have x1 : (W.alloc (.cells #[.int .i64 13, .string ⟨#[]⟩, .string ⟨#[]⟩, .string ⟨#[]⟩, .string ⟨#[]⟩, .int .i64 0, .slice none 0 0, .int .u64 0, .int .u64 0, .int .i64 0, .string ⟨#[]⟩, .int .i64 0, .int .i64 0, .slice none 0 0] 54 (0, 0))).cell? ⟨W.heap.size, 1, none⟩ = some (.string ⟨#[]⟩) := (blk_cell HC 1).trans rfl
  have x2 : (W.alloc (.cells #[.int .i64 13, .string ⟨#[]⟩, .string ⟨#[]⟩, .string ⟨#[]⟩, .string ⟨#[]⟩, .int .i64 0, .slice none 0 0, .int .u64 0, .int .u64 0, .int .i64 0, .string ⟨#[]⟩, .int .i64 0, .int .i64 0, .slice none 0 0] 54 (0, 0))).cell? ⟨W.heap.size, 2, none⟩ = some (.string ⟨#[]⟩) := (blk_cell HC 2).trans rfl
  have x3 : (W.alloc (.cells #[.int .i64 13, .string ⟨#[]⟩, .string ⟨#[]⟩, .string ⟨#[]⟩, .string ⟨#[]⟩, .int .i64 0, .slice none 0 0, .int .u64 0, .int .u64 0, .int .i64 0, .string ⟨#[]⟩, .int .i64 0, .int .i64 0, .slice none 0 0] 54 (0, 0))).cell? ⟨W.heap.size, 3, none⟩ = some (.string ⟨#[]⟩) := (blk_cell HC 3).trans rfl
  have x4 : (W.alloc (.cells #[.int .i64 13, .string ⟨#[]⟩, .string ⟨#[]⟩, .string ⟨#[]⟩, .string ⟨#[]⟩, .int .i64 0, .slice none 0 0, .int .u64 0, .int .u64 0, .int .i64 0, .string ⟨#[]⟩, .int .i64 0, .int .i64 0, .slice none 0 0] 54 (0, 0))).cell? ⟨W.heap.size, 4, none⟩ = some (.string ⟨#[]⟩) := (blk_cell HC 4).trans rfl
  have x5 : (W.alloc (.cells #[.int .i64 13, .string ⟨#[]⟩, .string ⟨#[]⟩, .string ⟨#[]⟩, .string ⟨#[]⟩, .int .i64 0, .slice none 0 0, .int .u64 0, .int .u64 0, .int .i64 0, .string ⟨#[]⟩, .int .i64 0, .int .i64 0, .slice none 0 0] 54 (0, 0))).cell? ⟨W.heap.size, 5, none⟩ = some (.int .i64 0) := (blk_cell HC 5).trans rfl
  have x6 : (W.alloc (.cells #[.int .i64 13, .string ⟨#[]⟩, .string ⟨#[]⟩, .string ⟨#[]⟩, .string ⟨#[]⟩, .int .i64 0, .slice none 0 0, .int .u64 0, .int .u64 0, .int .i64 0, .string ⟨#[]⟩, .int .i64 0, .int .i64 0, .slice none 0 0] 54 (0, 0))).cell? ⟨W.heap.size, 6, none⟩ = some (.slice none 0 0) := (blk_cell HC 6).trans rfl
  have x7 : (W.alloc (.cells #[.int .i64 13, .string ⟨#[]⟩, .string ⟨#[]⟩, .string ⟨#[]⟩, .string ⟨#[]⟩, .int .i64 0, .slice none 0 0, .int .u64 0, .int .u64 0, .int .i64 0, .string ⟨#[]⟩, .int .i64 0, .int .i64 0, .slice none 0 0] 54 (0, 0))).cell? ⟨W.heap.size, 7, none⟩ = some (.int .u64 0) := (blk_cell HC 7).trans rfl
  have x8 : (W.alloc (.cells #[.int .i64 13, .string ⟨#[]⟩, .string ⟨#[]⟩, .string ⟨#[]⟩, .string ⟨#[]⟩, .int .i64 0, .slice none 0 0, .int .u64 0, .int .u64 0, .int .i64 0, .string ⟨#[]⟩, .int .i64 0, .int .i64 0, .slice none 0 0] 54 (0, 0))).cell? ⟨W.heap.size, 8, none⟩ = some (.int .u64 0) := (blk_cell HC 8).trans rfl
  have x9 : (W.alloc (.cells #[.int .i64 13, .string ⟨#[]⟩, .string ⟨#[]⟩, .string ⟨#[]⟩, .string ⟨#[]⟩, .int .i64 0, .slice none 0 0, .int .u64 0, .int .u64 0, .int .i64 0, .string ⟨#[]⟩, .int .i64 0, .int .i64 0, .slice none 0 0] 54 (0, 0))).cell? ⟨W.heap.size, 9, none⟩ = some (.int .i64 0) := (blk_cell HC 9).trans rfl
  have x10 : (W.alloc (.cells #[.int .i64 13, .string ⟨#[]⟩, .string ⟨#[]⟩, .string ⟨#[]⟩, .string ⟨#[]⟩, .int .i64 0, .slice none 0 0, .int .u64 0, .int .u64 0, .int .i64 0, .string ⟨#[]⟩, .int .i64 0, .int .i64 0, .slice none 0 0] 54 (0, 0))).cell? ⟨W.heap.size, 10, none⟩ = some (.string ⟨#[]⟩) := (blk_cell HC 10).trans rfl
  have x11 : (W.alloc (.cells #[.int .i64 13, .string ⟨#[]⟩, .string ⟨#[]⟩, .string ⟨#[]⟩, .string ⟨#[]⟩, .int .i64 0, .slice none 0 0, .int .u64 0, .int .u64 0, .int .i64 0, .string ⟨#[]⟩, .int .i64 0, .int .i64 0, .slice none 0 0] 54 (0, 0))).cell? ⟨W.heap.size, 11, none⟩ = some (.int .i64 0) := (blk_cell HC 11).trans rfl
  have x12 : (W.alloc (.cells #[.int .i64 13, .string ⟨#[]⟩, .string ⟨#[]⟩, .string ⟨#[]⟩, .string ⟨#[]⟩, .int .i64 0, .slice none 0 0, .int .u64 0, .int .u64 0, .int .i64 0, .string ⟨#[]⟩, .int .i64 0, .int .i64 0, .slice none 0 0] 54 (0, 0))).cell? ⟨W.heap.size, 12, none⟩ = some (.int .i64 0) := (blk_cell HC 12).trans rfl
  have x13 : (W.alloc (.cells #[.int .i64 13, .string ⟨#[]⟩, .string ⟨#[]⟩, .string ⟨#[]⟩, .string ⟨#[]⟩, .int .i64 0, .slice none 0 0, .int .u64 0, .int .u64 0, .int .i64 0, .string ⟨#[]⟩, .int .i64 0, .int .i64 0, .slice none 0 0] 54 (0, 0))).cell? ⟨W.heap.size, 13, none⟩ = some (.slice none 0 0) := (blk_cell HC 13).trans rfl
  clear hs ha hp hb hpp hb1 HC
  go_enter Tryz.func29, Tryz.ntmps29
  go_wp2_with fail
  refine HCALL.out.mono ?_
  rintro e w2 ⟨rfl, hR⟩
  have HR := Lib.hid hR
  clear hR x0 x1 x2 x3 x4 x5 x6 x7 x8 x9 x10 x11 x12 x13
  go_wp2
  go_ret
  exact ⟨rfl, HR.out⟩
end Go.Proofs.YtafigkikblpbnaaGreat.PG
