/- The program's words on the holds. A record is counted in a tally. A map of names to blocks; no condition beyond each theorem its own. -/
import Derived.Test.YtafigkikblpbnaaGreatDoorZL10
import Derived.Test.YtafigkikblpbnaaGreatDoorZL15
import Derived.Test.YtafigkikblpbnaaGreatDoorZL12
import Derived.Maps.OwnSet
import Derived.WalkKit
import Derived.KernelRfl
import Derived.Lib.Hide
import Derived.Test.YtafigkikblpbnaaGreatDoorZL04
namespace Go.Proofs.YtafigkikblpbnaaGreatDoor.PG
open Go.RowKit Go.Proofs.YtafigkikblpbnaaGreatDoorW.PrintWords Go.Proofs.YtafigkikblpbnaaGreatDoorW.PrintLast Go.Proofs.YtafigkikblpbnaaGreatDoorW.PrintMore
set_option linter.unusedVariables false
set_option linter.unusedSimpArgs false
set_option maxRecDepth 100000
theorem tab16_15 : rtab .any (opsOf Tryz.f16 15) = (true, [([], []), ([], []), ([1], [1]), ([2], [2]), ([], []), ([4], [4]), ([3, 5], [3, 5]), ([6], [6]), ([], []), ([8, 5], [8]), ([7, 9], [7, 9]), ([10], [10]), ([0, 11, 9], [0, 11]), ([12, 12, 0, 1, 2, 3, 4, 5, 6, 7, 8, 9, 10, 11, 12], [0, 12])]) := by kernel_rfl

/-- How many of a list. -/
def cnP (P : S48 → Bool) (l : List S48) : Nat := (l.filter P).length
theorem cnP_le (P : S48 → Bool) (l : List S48) : cnP P l ≤ l.length := List.length_filter_le _ _
theorem cnP_snoc (P : S48 → Bool) (l : List S48) (y : S48) : cnP P (l ++ [y]) = cnP P l + (if P y = true then 1 else 0) := by
  unfold cnP
  rw [List.filter_append, List.length_append, List.filter_cons]
  split <;> simp [*]
/-- A record that a hold is good for; one that no other hold is good for. -/
def gd (d : Nat) (x : S78) (r : S48) : Bool := decide (r.f5 ≤ 2) && mt d x.f1 r
def gd1 (d : Nat) (s : S31) (x : S78) (r : S48) : Bool := gd d x r && decide ((onL d s.f6 r).length = 1)
/-- What is told of a hold. -/
def hlL (d : Nat) (s : S31) (x : S78) : ByteArray := x.f0 ++ ⟨#[32]⟩ ++ tellS (cnP (gd d x) s.f5) ++ ⟨#[32]⟩ ++ tellS (cnP (gd1 d s x) s.f5)
/-- What is told of the holds. -/
def hls (d : Nat) (s : S31) : Nat → List ByteArray
  | 0 => []
  | n + 1 => hls d s n ++ (if (rd_T78 s.f6 (n : Int)).f2 = true then [hlL d s (rd_T78 s.f6 (n : Int))] else [])
theorem hls_len (d : Nat) (s : S31) : ∀ n, (hls d s n).length ≤ n
  | 0 => Nat.le_refl _
  | n + 1 => by
    have := hls_len d s n
    unfold hls
    rw [List.length_append]
    split <;> simp <;> omega
/-- It answers a list of names. -/
def RNm (l : List ByteArray) (W : World) (e : Ending) (w' : World) : Prop := ∃ (A : Option Addr) (c : Nat), e = .returned (.slice A l.length c) ∧ l.length ≤ c ∧ Kd.C Kd.string w' A l.length l ∧ Below W.heap.size W w'

set_option maxHeartbeats 8000000 in
theorem HoldsP_any (d : Nat) (s : S31) (A2 A3 A4 A5 A6 A7 A8 : Option Addr) (c2 c3 c4 c5 c6 c7 c8 : Nat) (W : World) (hs : Rs W s A2 A3 A4 A5 A6 A7 A8 c2 c3 c4 c5 c6 c7 c8) (hd : ∀ x ∈ s.f6, dp d x.f1) (hz : ∀ x ∈ s.f6, x.f0.size ≤ 140737488351232) (h6 : s.f6.length ≤ 30) (h5 : s.f5.length ≤ 24) :
    Calls Tryz.prog 16 #[.agg #[.int .i64 s.f0, .int .u64 s.f1, .slice A2 s.f2.length c2, .slice A3 s.f3.length c3, .slice A4 s.f4.length c4, .slice A5 s.f5.length c5, .slice A6 s.f6.length c6, .slice A7 s.f7.length c7, .slice A8 s.f8.length c8, .int .i64 s.f9]] W (RNm (hls d s s.f6.length) W) := by
  have HB := Lib.hid (show Below W.heap.size W (W.alloc (.cells #[.int .i64 s.f0, .int .u64 s.f1, .slice A2 s.f2.length c2, .slice A3 s.f3.length c3, .slice A4 s.f4.length c4, .slice A5 s.f5.length c5, .slice A6 s.f6.length c6, .slice A7 s.f7.length c7, .slice A8 s.f8.length c8, .int .i64 s.f9] 31 (0, 0))) from below_alloc (Below.refl _ _) _)
  have HY := Lib.hid (new_blk W (.cells #[.int .i64 s.f0, .int .u64 s.f1, .slice A2 s.f2.length c2, .slice A3 s.f3.length c3, .slice A4 s.f4.length c4, .slice A5 s.f5.length c5, .slice A6 s.f6.length c6, .slice A7 s.f7.length c7, .slice A8 s.f8.length c8, .int .i64 s.f9] 31 (0, 0)))
  have HS := Lib.hid (hs.below HB.out)
  have HD := Lib.hid hd
  have HZ := Lib.hid hz
  have h62 : (s.f6.length : Int) ≤ 30 := by omega
  have h52 : (s.f5.length : Int) ≤ 24 := by omega
  clear hs hd hz
  have q6 : (W.alloc (.cells #[.int .i64 s.f0, .int .u64 s.f1, .slice A2 s.f2.length c2, .slice A3 s.f3.length c3, .slice A4 s.f4.length c4, .slice A5 s.f5.length c5, .slice A6 s.f6.length c6, .slice A7 s.f7.length c7, .slice A8 s.f8.length c8, .int .i64 s.f9] 31 (0, 0))).cell? ⟨W.heap.size, 6, none⟩ = some (.slice A6 s.f6.length c6) := (blk_cell HY.out 6).trans rfl
  go_enter Tryz.func16, Tryz.ntmps16
  go_wp2
  clear q6
  generalize W.alloc (.cells #[.int .i64 s.f0, .int .u64 s.f1, .slice A2 s.f2.length c2, .slice A3 s.f3.length c3, .slice A4 s.f4.length c4, .slice A5 s.f5.length c5, .slice A6 s.f6.length c6, .slice A7 s.f7.length c7, .slice A8 s.f8.length c8, .int .i64 s.f9] 31 (0, 0)) = W1 at *
  go_loopw [3, 13] (fun v3 v13 wr => ∃ (k : Nat), v13 = .int .i64 k ∧ k ≤ s.f6.length ∧ Aside0 (Kd.R Kd.string 9 wr W1.heap.size (fun _ => True) v3 (hls d s k)) ∧ Aside0 (Below W1.heap.size W1 wr)) (fun _ v13 _ => s.f6.length - (intOf v13).toNat)
  case atStart => exact ⟨0, rfl, Nat.zero_le _, ⟨Kd.R_nil _ _ _ _ _⟩, ⟨Below.refl _ _⟩⟩
  case round =>
    obtain ⟨k, rfl, hk, HO, HBW⟩ := hrel
    have HY2 := Lib.hid ((HBW.out.block W.heap.size (blk_lt HY.out)).trans HY.out)
    by_cases hlt : k < s.f6.length
    · have hlt2 : (k : Int) < (s.f6.length : Int) := by omega
      obtain ⟨ad, A9, c9, e, h0, h1, h2, h3, h4, h5_, h6_, hl4, hC4⟩ := at_T78 (HS.out.below HBW.out).g6 (k : Int) (by omega) (by omega)
      simp only [Int.toNat_natCast] at h0 h1 h2 h3 h4 h5_ h6_
      have hdd := HD.out _ (rd_mem100 hlt)
      have hzz := HZ.out _ (rd_mem100 hlt)
      have HN := Lib.hid (show hls d s (k + 1) = hls d s k ++ (if (rd_T78 s.f6 (k : Int)).f2 = true then [hlL d s (rd_T78 s.f6 (k : Int))] else []) from rfl)
      have HLN := Lib.hid (Nat.le_trans (hls_len d s k) hk)
      generalize rd_T78 s.f6 (k : Int) = y at *
      subst e
      cases hf : y.f2
      · rw [hf] at h6_ HN
        have HR3 := Lib.hid (fun o => Kd.R_alloc HO.out o)
        have HB3 := Lib.hid (fun o => below_alloc HBW.out o)
        go_wp2
        go_roundw
        case rel => exact ⟨k + 1, by go_num, by omega, ⟨by rw [HN.out]; simpa using HR3.out _⟩, ⟨HB3.out _⟩⟩
        case measure => simp [intOf]; omega
      · rw [hf] at h6_
        have HN2 := Lib.hid (show hls d s (k + 1) = hls d s k ++ [hlL d s y] by rw [HN.out, hf]; rfl)
        clear HN
        obtain ⟨w3, hw3⟩ : ∃ w3, wr.alloc (.cells #[.string y.f0, .int .i64 y.f1.f0, .string y.f1.f1, .int .i64 y.f1.f2, .int .i64 y.f1.f3, .slice A9 y.f1.f4.length c9, .bool true] 78 (0, 0)) = w3 := ⟨_, rfl⟩
        have HB3 := Lib.hid (show Below wr.heap.size wr w3 by rw [← hw3]; exact below_alloc (Below.refl _ _) _)
        have HY3 := Lib.hid (show w3.heap[wr.heap.size]? = some (.cells #[.string y.f0, .int .i64 y.f1.f0, .string y.f1.f1, .int .i64 y.f1.f2, .int .i64 y.f1.f3, .slice A9 y.f1.f4.length c9, .bool true] 78 (0, 0)) by rw [← hw3]; exact new_blk wr _)
        have HYB := Lib.hid ((HB3.out.block W.heap.size (blk_lt HY2.out)).trans HY2.out)
        have HO3 := Lib.hid (Kd.R_below HO.out HB3.out)
        have HBW3 := Lib.hid (below_tr HBW.out HB3.out)
        have HC3 := Lib.hid (Kd.C_below hC4 HB3.out)
        have HDD := Lib.hid hdd
        have HZZ := Lib.hid hzz
        have HL4 := Lib.hid hl4
        have HW3 := Lib.hid hw3
        clear hw3 hC4 hdd hzz hl4
        have p5 : (wr.alloc (.cells #[.string y.f0, .int .i64 y.f1.f0, .string y.f1.f1, .int .i64 y.f1.f2, .int .i64 y.f1.f3, .slice A9 y.f1.f4.length c9, .bool true] 78 (0, 0))).cell? ⟨W.heap.size, 5, none⟩ = some (.slice A5 s.f5.length c5) := by rw [HW3.out]; exact (blk_cell HYB.out 5).trans rfl
        go_wp2
        rw [HW3.out]
        clear p5 HW3 h0 h1 h2 h3 h4 h5_ h6_
        have HSB := Lib.hid (HS.out.below HBW3.out)
        have HOL := Lib.hid (Kd.R_lt HO.out)
        generalize hbh : wr.heap.size = bh at *
        clear hbh
        go_loopw [6, 7, 23] (fun v6 v7 v23 wr => ∃ m : Nat, v23 = .int .i64 m ∧ v6 = .int .i64 (cnP (gd d y) (s.f5.take m) : Nat) ∧ v7 = .int .i64 (cnP (gd1 d s y) (s.f5.take m) : Nat) ∧ m ≤ s.f5.length ∧ Aside0 (Below w3.heap.size w3 wr)) (fun _ _ v23 _ => s.f5.length - (intOf v23).toNat)
        case atStart => exact ⟨0, rfl, rfl, rfl, Nat.zero_le _, ⟨Below.refl _ _⟩⟩
        case round =>
          obtain ⟨m, rfl, rfl, rfl, hm, HBR⟩ := hrel
          have HYH := Lib.hid ((HBR.out.block bh (blk_lt HY3.out)).trans HY3.out)
          have HYS := Lib.hid ((HBR.out.block W.heap.size (blk_lt HYB.out)).trans HYB.out)
          by_cases hlm : m < s.f5.length
          · have hlm2 : (m : Int) < (s.f5.length : Int) := by omega
            obtain ⟨adr, er, g0, g1, g2, g3, g4, g5⟩ := at_T48 (HSB.out.below HBR.out).g5 (m : Int) (by omega) (by omega)
            simp only [Int.toNat_natCast] at g0 g1 g2 g3 g4 g5
            subst er
            have HT := Lib.hid (take_rd48 hlm)
            have b1 := Lib.hid (Nat.le_trans (cnP_le (gd d y) (s.f5.take m)) (by rw [List.length_take]; omega : (s.f5.take m).length ≤ 24))
            have b2 := Lib.hid (Nat.le_trans (cnP_le (gd1 d s y) (s.f5.take m)) (by rw [List.length_take]; omega : (s.f5.take m).length ≤ 24))
            generalize rd_T48 s.f5 (m : Int) = r at *
            have HE1 := Lib.hid (show cnP (gd d y) (s.f5.take (m + 1)) = cnP (gd d y) (s.f5.take m) + (if gd d y r = true then 1 else 0) by rw [HT.out, cnP_snoc])
            have HE2 := Lib.hid (show cnP (gd1 d s y) (s.f5.take (m + 1)) = cnP (gd1 d s y) (s.f5.take m) + (if gd1 d s y r = true then 1 else 0) by rw [HT.out, cnP_snoc])
            have HG1 := Lib.hid (show gd d y r = (decide (r.f5 ≤ 2) && mt d y.f1 r) from rfl)
            have HG2 := Lib.hid (show gd1 d s y r = (gd d y r && decide ((onL d s.f6 r).length = 1)) from rfl)
            obtain ⟨w5, hw5⟩ : ∃ w5, wr.alloc (.cells #[.string r.f0, .string r.f1, .string r.f2, .string r.f3, .int .i64 r.f4, .int .i64 r.f5] 48 (0, 0)) = w5 := ⟨_, rfl⟩
            have HB5 := Lib.hid (show Below wr.heap.size wr w5 by rw [← hw5]; exact below_alloc (Below.refl _ _) _)
            have HY5 := Lib.hid (show w5.heap[wr.heap.size]? = some (.cells #[.string r.f0, .string r.f1, .string r.f2, .string r.f3, .int .i64 r.f4, .int .i64 r.f5] 48 (0, 0)) by rw [← hw5]; exact new_blk wr _)
            have HYH5 := Lib.hid ((HB5.out.block bh (blk_lt HYH.out)).trans HYH.out)
            have HYS5 := Lib.hid ((HB5.out.block W.heap.size (blk_lt HYS.out)).trans HYS.out)
            have HBR5 := Lib.hid (below_tr HBR.out HB5.out)
            have HM := Lib.hid (match_any d y.f1 r A9 c9 w5 HDD.out (Kd.C_below HC3.out HBR5.out) HL4.out)
            have HON := Lib.hid (fun w' (h : Below w5.heap.size w5 w') => OnP_any d s.f6 r (some ad) c6 w' HD.out (HSB.out.below (below_tr HBR5.out h)).g6 (by omega))
            have HW5 := Lib.hid hw5
            clear hw5
            generalize cnP (gd d y) (s.f5.take m) = n1 at *
            generalize cnP (gd1 d s y) (s.f5.take m) = n2 at *
            generalize (onL d s.f6 r).length = no at *
            generalize mt d y.f1 r = mm at *
            have hb1 := b1.out
            have hb2 := b2.out
            have hc1 : (n1 : Int) ≤ 24 := by omega
            have hc2 : (n2 : Int) ≤ 24 := by omega
            have p1 : (wr.alloc (.cells #[.string r.f0, .string r.f1, .string r.f2, .string r.f3, .int .i64 r.f4, .int .i64 r.f5] 48 (0, 0))).cell? ⟨bh, 1, none⟩ = some (.int .i64 y.f1.f0) := by rw [HW5.out]; exact (blk_cell HYH5.out 1).trans rfl
            have p2 : (wr.alloc (.cells #[.string r.f0, .string r.f1, .string r.f2, .string r.f3, .int .i64 r.f4, .int .i64 r.f5] 48 (0, 0))).cell? ⟨bh, 2, none⟩ = some (.string y.f1.f1) := by rw [HW5.out]; exact (blk_cell HYH5.out 2).trans rfl
            have p3 : (wr.alloc (.cells #[.string r.f0, .string r.f1, .string r.f2, .string r.f3, .int .i64 r.f4, .int .i64 r.f5] 48 (0, 0))).cell? ⟨bh, 3, none⟩ = some (.int .i64 y.f1.f2) := by rw [HW5.out]; exact (blk_cell HYH5.out 3).trans rfl
            have p4 : (wr.alloc (.cells #[.string r.f0, .string r.f1, .string r.f2, .string r.f3, .int .i64 r.f4, .int .i64 r.f5] 48 (0, 0))).cell? ⟨bh, 4, none⟩ = some (.int .i64 y.f1.f3) := by rw [HW5.out]; exact (blk_cell HYH5.out 4).trans rfl
            have p5 : (wr.alloc (.cells #[.string r.f0, .string r.f1, .string r.f2, .string r.f3, .int .i64 r.f4, .int .i64 r.f5] 48 (0, 0))).cell? ⟨bh, 5, none⟩ = some (.slice A9 y.f1.f4.length c9) := by rw [HW5.out]; exact (blk_cell HYH5.out 5).trans rfl
            by_cases h25 : r.f5 ≤ 2
            · have hg : decide (2 < r.f5) = false := decide_eq_false (by omega)
              rw [decide_eq_true h25, Bool.true_and] at HG1
              clear h25
              go_wp2_with fail
              rw [HW5.out]
              refine HM.out.mono ?_
              rintro e w6 ⟨rfl, hb⟩
              have HB6 := Lib.hid hb
              have HBR6 := Lib.hid (below_tr HBR5.out hb)
              clear p1 p2 p3 p4 p5 g0 g1 g2 g3 g4 g5 hb
              cases mm
              · rw [HG1.out] at HE1 HG2
                rw [HG2.out] at HE2
                go_wp2
                go_roundw
                case rel => exact ⟨m + 1, by go_num, by rw [HE1.out]; rfl, by rw [HE2.out]; rfl, by omega, ⟨HBR6.out⟩⟩
                case measure => simp [intOf]; omega
              · rw [HG1.out] at HE1 HG2
                have z6 : w6.cell? ⟨W.heap.size, 6, none⟩ = some (.slice (some ad) s.f6.length c6) := (blk_cell ((HB6.out.block _ (blk_lt HYS5.out)).trans HYS5.out) 6).trans rfl
                have x0 : w6.cell? ⟨wr.heap.size, 0, none⟩ = some (.string r.f0) := (blk_cell ((HB6.out.block _ (blk_lt HY5.out)).trans HY5.out) 0).trans rfl
                have x1 : w6.cell? ⟨wr.heap.size, 1, none⟩ = some (.string r.f1) := (blk_cell ((HB6.out.block _ (blk_lt HY5.out)).trans HY5.out) 1).trans rfl
                have x2 : w6.cell? ⟨wr.heap.size, 2, none⟩ = some (.string r.f2) := (blk_cell ((HB6.out.block _ (blk_lt HY5.out)).trans HY5.out) 2).trans rfl
                have x3 : w6.cell? ⟨wr.heap.size, 3, none⟩ = some (.string r.f3) := (blk_cell ((HB6.out.block _ (blk_lt HY5.out)).trans HY5.out) 3).trans rfl
                have x4 : w6.cell? ⟨wr.heap.size, 4, none⟩ = some (.int .i64 r.f4) := (blk_cell ((HB6.out.block _ (blk_lt HY5.out)).trans HY5.out) 4).trans rfl
                have x5 : w6.cell? ⟨wr.heap.size, 5, none⟩ = some (.int .i64 r.f5) := (blk_cell ((HB6.out.block _ (blk_lt HY5.out)).trans HY5.out) 5).trans rfl
                go_wp2_with fail
                refine (HON.out w6 HB6.out).mono ?_
                rintro e w7 ⟨A', c', rfl, hb⟩
                have HBR7 := Lib.hid (below_tr HBR6.out hb)
                clear hb z6 x0 x1 x2 x3 x4 x5
                by_cases hno : no = 1
                · have hq : ((no : Int) == 1) = true := by rw [hno]; rfl
                  rw [decide_eq_true hno, Bool.true_and] at HG2
                  rw [HG2.out] at HE2
                  clear hno
                  go_wp2
                  go_roundw
                  case rel => exact ⟨m + 1, by go_num, by rw [HE1.out]; rfl, by rw [HE2.out]; rfl, by omega, ⟨HBR7.out⟩⟩
                  case measure => simp [intOf]; omega
                · have hq : ((no : Int) == 1) = false := by simp; omega
                  rw [decide_eq_false hno, Bool.true_and] at HG2
                  rw [HG2.out] at HE2
                  clear hno
                  go_wp2
                  go_roundw
                  case rel => exact ⟨m + 1, by go_num, by rw [HE1.out]; rfl, by rw [HE2.out]; rfl, by omega, ⟨HBR7.out⟩⟩
                  case measure => simp [intOf]; omega
            · have hg : decide (2 < r.f5) = true := decide_eq_true (by omega)
              rw [decide_eq_false h25, Bool.false_and] at HG1
              rw [HG1.out] at HE1 HG2
              rw [HG2.out] at HE2
              clear h25
              go_wp2
              rw [HW5.out]
              go_roundw
              case rel => exact ⟨m + 1, by go_num, by rw [HE1.out]; rfl, by rw [HE2.out]; rfl, by omega, ⟨HBR5.out⟩⟩
              case measure => simp [intOf]; omega
          · have hm2 : m = s.f5.length := by omega
            subst hm2
            have hlm2 : ¬ (s.f5.length : Int) < (s.f5.length : Int) := by omega
            rw [List.take_length]
            have HO4 := Lib.hid (Kd.R_below HO3.out HBR.out)
            have HB4 := Lib.hid (below_tr HBW3.out HBR.out)
            have HI1 := fun w => Lib.hid (Itoa_eq (cnP (gd d y) s.f5) (by have := cnP_le (gd d y) s.f5; omega) w)
            have HI2 := fun w => Lib.hid (Itoa_eq (cnP (gd1 d s y) s.f5) (by have := cnP_le (gd1 d s y) s.f5; omega) w)
            have HLL := Lib.hid (show hlL d s y = y.f0 ++ ⟨#[32]⟩ ++ tellS (cnP (gd d y) s.f5) ++ ⟨#[32]⟩ ++ tellS (cnP (gd1 d s y) s.f5) from rfl)
            have z1 := tellS_size (cnP (gd d y) s.f5)
            have z2 := tellS_size (cnP (gd1 d s y) s.f5)
            have z0 := HZZ.out
            generalize cnP (gd d y) s.f5 = n1 at *
            generalize cnP (gd1 d s y) s.f5 = n2 at *
            generalize tellS n1 = t1 at *
            generalize tellS n2 = t2 at *
            have d0 : ¬ 9223372036854775807 < y.f0.size + 1 := by omega
            have d1 : ¬ 9223372036854775807 < y.f0.size + 1 + t1.size := by omega
            have d2 : ¬ 9223372036854775807 < y.f0.size + 1 + t1.size + 1 := by omega
            have d3 : ¬ 9223372036854775807 < y.f0.size + 1 + t1.size + 1 + t2.size := by omega
            have c0 : wr.drew.cell? ⟨bh, 0, none⟩ = some (.string y.f0) := (blk_cell HYH.out 0).trans rfl
            go_wp2_with fail
            refine WL.start (n := 14) (S := fun w' => w'.cell? ⟨bh, 0, none⟩ = some (.string y.f0)) (ds := []) [false, false, false, false, false, false, false, false, false, false, false, false, false, false] (by kernel_rfl) rfl rfl (c0) (fun hHeld => ?_)
            refine WL.tab tab16_15 (fun HT_ => ?_)
            refine WL.more [0, 1, 4, 8, 2, 3] ?_
            repeat (first
              | (refine WL.off (lb' := ?_) (ys := ?_) rfl rfl (by rfl) ?_ HT_.out ?_ (fun _ _ _ h => h) ?_ ?_; rotate_left 2; (focus dsimp only [List.set_cons_zero, List.set_cons_succ]; rfl); (focus kernel_rfl); (focus dsimp only [List.set_cons_zero, List.set_cons_succ]; rfl))
              | (refine WL.pure (lb' := ?_) (v := ?_) (ys := ?_) rfl rfl (by rfl) ?_ HT_.out ?_ (fun _ _ _ h => h) ?_ ?_ ?_; rotate_left 3; (focus dsimp only [List.set_cons_zero, List.set_cons_succ]; rfl); (focus kernel_rfl); (focus intro w'; go_simp; with_reducible rfl); (focus dsimp only [List.set_cons_zero, List.set_cons_succ]; rfl))
              | (refine WL.take (lb' := ?_) (v := ?_) (ys := ?_) rfl rfl (by rfl) ?_ HT_.out ?_ (fun _ _ _ h => h) hHeld ?_ ?_ ?_; rotate_left 3; (focus dsimp only [List.set_cons_zero, List.set_cons_succ]; rfl); (focus kernel_rfl); (focus intro w' s0; go_simp; with_reducible rfl); (focus dsimp only [List.set_cons_zero, List.set_cons_succ]; rfl)))
            refine WL.more [5] ?_
            repeat (first
              | (refine WL.off (lb' := ?_) (ys := ?_) rfl rfl (by rfl) ?_ HT_.out ?_ (fun _ _ _ h => h) ?_ ?_; rotate_left 2; (focus dsimp only [List.set_cons_zero, List.set_cons_succ]; rfl); (focus kernel_rfl); (focus dsimp only [List.set_cons_zero, List.set_cons_succ]; rfl))
              | (refine WL.pure (lb' := ?_) (v := ?_) (ys := ?_) rfl rfl (by rfl) ?_ HT_.out ?_ (fun _ _ _ h => h) ?_ ?_ ?_; rotate_left 3; (focus dsimp only [List.set_cons_zero, List.set_cons_succ]; rfl); (focus kernel_rfl); (focus intro w'; go_simp; with_reducible rfl); (focus dsimp only [List.set_cons_zero, List.set_cons_succ]; rfl))
              | (refine WL.take (lb' := ?_) (v := ?_) (ys := ?_) rfl rfl (by rfl) ?_ HT_.out ?_ (fun _ _ _ h => h) hHeld ?_ ?_ ?_; rotate_left 3; (focus dsimp only [List.set_cons_zero, List.set_cons_succ]; rfl); (focus kernel_rfl); (focus intro w' s0; go_simp; with_reducible rfl); (focus dsimp only [List.set_cons_zero, List.set_cons_succ]; rfl))
              | (refine WL.one (lb' := ?_) rfl rfl ?_ HT_.out ?_ (by decide) (fun K hK => ?_); rotate_left; (focus dsimp only [List.set_cons_zero, List.set_cons_succ]; rfl); (focus kernel_rfl); first
                  | (refine goes_ Tryz.func36 (by kernel_rfl) rfl #[.int .i64 (n1 : Nat)] (by rfl) rfl rfl (by simp only [List.map_toArray, List.map_cons, List.map_nil]; rfl) ?_; (with_reducible refine ((HI1 _).out).mono ?_); rintro e w5 ⟨rfl, rfl⟩; refine ⟨_, rfl, ?_⟩; refine hK.out _ _ hHeld (fun hHeld => ?_); clear hK K; refine WL.put (ys := ?_) ?_ ?_; rotate_left; (focus dsimp only [List.set_cons_zero, List.set_cons_succ]; rfl))))
            refine WL.more [6, 7] ?_
            repeat (first
              | (refine WL.off (lb' := ?_) (ys := ?_) rfl rfl (by rfl) ?_ HT_.out ?_ (fun _ _ _ h => h) ?_ ?_; rotate_left 2; (focus dsimp only [List.set_cons_zero, List.set_cons_succ]; rfl); (focus kernel_rfl); (focus dsimp only [List.set_cons_zero, List.set_cons_succ]; rfl))
              | (refine WL.pure (lb' := ?_) (v := ?_) (ys := ?_) rfl rfl (by rfl) ?_ HT_.out ?_ (fun _ _ _ h => h) ?_ ?_ ?_; rotate_left 3; (focus dsimp only [List.set_cons_zero, List.set_cons_succ]; rfl); (focus kernel_rfl); (focus intro w'; go_simp; with_reducible rfl); (focus dsimp only [List.set_cons_zero, List.set_cons_succ]; rfl))
              | (refine WL.take (lb' := ?_) (v := ?_) (ys := ?_) rfl rfl (by rfl) ?_ HT_.out ?_ (fun _ _ _ h => h) hHeld ?_ ?_ ?_; rotate_left 3; (focus dsimp only [List.set_cons_zero, List.set_cons_succ]; rfl); (focus kernel_rfl); (focus intro w' s0; go_simp; with_reducible rfl); (focus dsimp only [List.set_cons_zero, List.set_cons_succ]; rfl)))
            refine WL.more [9] ?_
            repeat (first
              | (refine WL.off (lb' := ?_) (ys := ?_) rfl rfl (by rfl) ?_ HT_.out ?_ (fun _ _ _ h => h) ?_ ?_; rotate_left 2; (focus dsimp only [List.set_cons_zero, List.set_cons_succ]; rfl); (focus kernel_rfl); (focus dsimp only [List.set_cons_zero, List.set_cons_succ]; rfl))
              | (refine WL.pure (lb' := ?_) (v := ?_) (ys := ?_) rfl rfl (by rfl) ?_ HT_.out ?_ (fun _ _ _ h => h) ?_ ?_ ?_; rotate_left 3; (focus dsimp only [List.set_cons_zero, List.set_cons_succ]; rfl); (focus kernel_rfl); (focus intro w'; go_simp; with_reducible rfl); (focus dsimp only [List.set_cons_zero, List.set_cons_succ]; rfl))
              | (refine WL.take (lb' := ?_) (v := ?_) (ys := ?_) rfl rfl (by rfl) ?_ HT_.out ?_ (fun _ _ _ h => h) hHeld ?_ ?_ ?_; rotate_left 3; (focus dsimp only [List.set_cons_zero, List.set_cons_succ]; rfl); (focus kernel_rfl); (focus intro w' s0; go_simp; with_reducible rfl); (focus dsimp only [List.set_cons_zero, List.set_cons_succ]; rfl))
              | (refine WL.one (lb' := ?_) rfl rfl ?_ HT_.out ?_ (by decide) (fun K hK => ?_); rotate_left; (focus dsimp only [List.set_cons_zero, List.set_cons_succ]; rfl); (focus kernel_rfl); first
                  | (refine goes_ Tryz.func36 (by kernel_rfl) rfl #[.int .i64 (n2 : Nat)] (by rfl) rfl rfl (by simp only [List.map_toArray, List.map_cons, List.map_nil]; rfl) ?_; (with_reducible refine ((HI2 _).out).mono ?_); rintro e w5 ⟨rfl, rfl⟩; refine ⟨_, rfl, ?_⟩; refine hK.out _ _ hHeld (fun hHeld => ?_); clear hK K; refine WL.put (ys := ?_) ?_ ?_; rotate_left; (focus dsimp only [List.set_cons_zero, List.set_cons_succ]; rfl))))
            refine WL.more [10] ?_
            repeat (first
              | (refine WL.off (lb' := ?_) (ys := ?_) rfl rfl (by rfl) ?_ HT_.out ?_ (fun _ _ _ h => h) ?_ ?_; rotate_left 2; (focus dsimp only [List.set_cons_zero, List.set_cons_succ]; rfl); (focus kernel_rfl); (focus dsimp only [List.set_cons_zero, List.set_cons_succ]; rfl))
              | (refine WL.pure (lb' := ?_) (v := ?_) (ys := ?_) rfl rfl (by rfl) ?_ HT_.out ?_ (fun _ _ _ h => h) ?_ ?_ ?_; rotate_left 3; (focus dsimp only [List.set_cons_zero, List.set_cons_succ]; rfl); (focus kernel_rfl); (focus intro w'; go_simp; with_reducible rfl); (focus dsimp only [List.set_cons_zero, List.set_cons_succ]; rfl))
              | (refine WL.take (lb' := ?_) (v := ?_) (ys := ?_) rfl rfl (by rfl) ?_ HT_.out ?_ (fun _ _ _ h => h) hHeld ?_ ?_ ?_; rotate_left 3; (focus dsimp only [List.set_cons_zero, List.set_cons_succ]; rfl); (focus kernel_rfl); (focus intro w' s0; go_simp; with_reducible rfl); (focus dsimp only [List.set_cons_zero, List.set_cons_succ]; rfl)))
            refine WL.more [11] ?_
            repeat (first
              | (refine WL.off (lb' := ?_) (ys := ?_) rfl rfl (by rfl) ?_ HT_.out ?_ (fun _ _ _ h => h) ?_ ?_; rotate_left 2; (focus dsimp only [List.set_cons_zero, List.set_cons_succ]; rfl); (focus kernel_rfl); (focus dsimp only [List.set_cons_zero, List.set_cons_succ]; rfl))
              | (refine WL.pure (lb' := ?_) (v := ?_) (ys := ?_) rfl rfl (by rfl) ?_ HT_.out ?_ (fun _ _ _ h => h) ?_ ?_ ?_; rotate_left 3; (focus dsimp only [List.set_cons_zero, List.set_cons_succ]; rfl); (focus kernel_rfl); (focus intro w'; go_simp; with_reducible rfl); (focus dsimp only [List.set_cons_zero, List.set_cons_succ]; rfl))
              | (refine WL.take (lb' := ?_) (v := ?_) (ys := ?_) rfl rfl (by rfl) ?_ HT_.out ?_ (fun _ _ _ h => h) hHeld ?_ ?_ ?_; rotate_left 3; (focus dsimp only [List.set_cons_zero, List.set_cons_succ]; rfl); (focus kernel_rfl); (focus intro w' s0; go_simp; with_reducible rfl); (focus dsimp only [List.set_cons_zero, List.set_cons_succ]; rfl))
              | (refine WL.one (lb' := ?_) rfl rfl ?_ HT_.out ?_ (by decide) (fun K hK => ?_); rotate_left; (focus dsimp only [List.set_cons_zero, List.set_cons_succ]; rfl); (focus kernel_rfl); first
                  | (refine value_ (w1 := ?_) (v := ?_) (by rfl) rfl ?_ ?_; rotate_left 2; (focus go_simp; constructor; rfl; rfl); refine hK.out _ _ (below_cell (below_alloc (Below.refl _ _) _) hHeld) (fun hHeld => ?_); clear hK K; refine WL.put (ys := ?_) ?_ ?_; rotate_left; (focus dsimp only [List.set_cons_zero, List.set_cons_succ]; rfl))))
            refine WL.more [12] ?_
            repeat (first
              | (refine WL.off (lb' := ?_) (ys := ?_) rfl rfl (by rfl) ?_ HT_.out ?_ (fun _ _ _ h => h) ?_ ?_; rotate_left 2; (focus dsimp only [List.set_cons_zero, List.set_cons_succ]; rfl); (focus kernel_rfl); (focus dsimp only [List.set_cons_zero, List.set_cons_succ]; rfl))
              | (refine WL.pure (lb' := ?_) (v := ?_) (ys := ?_) rfl rfl (by rfl) ?_ HT_.out ?_ (fun _ _ _ h => h) ?_ ?_ ?_; rotate_left 3; (focus dsimp only [List.set_cons_zero, List.set_cons_succ]; rfl); (focus kernel_rfl); (focus intro w'; go_simp; with_reducible rfl); (focus dsimp only [List.set_cons_zero, List.set_cons_succ]; rfl))
              | (refine WL.take (lb' := ?_) (v := ?_) (ys := ?_) rfl rfl (by rfl) ?_ HT_.out ?_ (fun _ _ _ h => h) hHeld ?_ ?_ ?_; rotate_left 3; (focus dsimp only [List.set_cons_zero, List.set_cons_succ]; rfl); (focus kernel_rfl); (focus intro w' s0; go_simp; with_reducible rfl); (focus dsimp only [List.set_cons_zero, List.set_cons_succ]; rfl))
              | (refine WL.one (lb' := ?_) rfl rfl ?_ HT_.out ?_ (by decide) (fun K hK => ?_); rotate_left; (focus dsimp only [List.set_cons_zero, List.set_cons_succ]; rfl); (focus kernel_rfl); first
                  | (refine Kd.R_append_step Kd.string (w0 := W1) (W := wr.drew) W1.heap.size (by rfl) (.tmp 48) (.tmp 59) 34 9 (.string ⟨#[]⟩) 16 rfl Tryz.underlying34 info9 rfl (by decide) (by omega) u3 (hls d s k) (y.f0 ++ (⟨#[32]⟩ : ByteArray) ++ t1 ++ (⟨#[32]⟩ : ByteArray) ++ t2) [.string (y.f0 ++ (⟨#[32]⟩ : ByteArray) ++ t1 ++ (⟨#[32]⟩ : ByteArray) ++ t2)] (fun _ => True) (fun _ => False) rfl rfl rfl (fun _ hk => hk.elim) (fun _ _ => trivial) (Kd.R_drew HO4.out) (below_drew HB4.out) (below_drew HB4.out).size (by have := HLN.out; omega) ?_; intro v9 w6 ho hb hg hat; clear hat; have HYH6 := (hg.block bh (blk_lt HYH.out) (fun e_ => absurd (HOL.out _ e_.symm) (Nat.lt_irrefl _))).trans HYH.out; refine hK.out _ _ ((blk_cell HYH6 0).trans rfl) (fun hHeld => ?_); clear hK K; refine WL.put (ys := ?_) ?_ ?_; rotate_left; (focus dsimp only [List.set_cons_zero, List.set_cons_succ]; rfl))))
            refine WL.more [13] ?_
            repeat (first
              | (refine WL.off (lb' := ?_) (ys := ?_) rfl rfl (by rfl) ?_ HT_.out ?_ (fun _ _ _ h => h) ?_ ?_; rotate_left 2; (focus dsimp only [List.set_cons_zero, List.set_cons_succ]; rfl); (focus kernel_rfl); (focus dsimp only [List.set_cons_zero, List.set_cons_succ]; rfl))
              | (refine WL.pure (lb' := ?_) (v := ?_) (ys := ?_) rfl rfl (by rfl) ?_ HT_.out ?_ (fun _ _ _ h => h) ?_ ?_ ?_; rotate_left 3; (focus dsimp only [List.set_cons_zero, List.set_cons_succ]; rfl); (focus kernel_rfl); (focus intro w'; go_simp; with_reducible rfl); (focus dsimp only [List.set_cons_zero, List.set_cons_succ]; rfl))
              | (refine WL.take (lb' := ?_) (v := ?_) (ys := ?_) rfl rfl (by rfl) ?_ HT_.out ?_ (fun _ _ _ h => h) hHeld ?_ ?_ ?_; rotate_left 3; (focus dsimp only [List.set_cons_zero, List.set_cons_succ]; rfl); (focus kernel_rfl); (focus intro w' s0; go_simp; with_reducible rfl); (focus dsimp only [List.set_cons_zero, List.set_cons_succ]; rfl)))
            refine WL.done HT_.out (by kernel_rfl) ?_
            clear hHeld c0 HYH6
            have HF := Lib.hid (And.intro ho hb)
            clear ho hb hg
            go_wp2
            go_roundw
            case rel => exact ⟨k + 1, by go_num, by omega, ⟨by rw [HN2.out, HLL.out]; exact HF.out.1⟩, ⟨HF.out.2⟩⟩
            case measure => simp [intOf]; omega
    · have hk2 : k = s.f6.length := by omega
      subst hk2
      generalize hls d s s.f6.length = zs at *
      obtain ⟨A6, c6, hv, hl6, hC6⟩ := Kd.R_reads HO.out
      subst hv
      have HF := Lib.hid (And.intro hl6 (And.intro hC6 (below_tr HB.out HBW.out)))
      clear hl6 hC6
      go_wp2
      go_ret
      exact ⟨A6, c6, rfl, HF.out.1, HF.out.2.1, HF.out.2.2⟩
end Go.Proofs.YtafigkikblpbnaaGreatDoor.PG
namespace Go.Proofs.YtafigkikblpbnaaGreatDoor.PG
open Go.RowKit Go.Proofs.YtafigkikblpbnaaGreatDoorW.PrintWords Go.Proofs.YtafigkikblpbnaaGreatDoorW.PrintLast Go.Proofs.YtafigkikblpbnaaGreatDoorW.PrintMore
set_option linter.unusedVariables false
set_option linter.unusedSimpArgs false
set_option maxRecDepth 100000
theorem tab28_1 : rtab .any (opsOf Tryz.f28 1) = (true, [([], []), ([], []), ([1], [1]), ([2], [2]), ([0], [0]), ([4, 3], [3, 4]), ([5], [5]), ([6], [6]), ([0], [0]), ([8, 3, 0, 1, 2, 3, 4, 5, 6, 7], [3, 8]), ([9, 7, 0, 1, 2, 3, 4, 5, 6, 7], [7, 9])]) := by kernel_rfl

def bump (n : Int → Nat) (j : Int) (i : Int) : Nat := n i + (if i = j then 1 else 0)
set_option maxHeartbeats 1000000 in
theorem add_eq1 (g : Nat) (n : Int → Nat) (hn : n 1 ≤ 1000) (r0 r1 r2 r3 : ByteArray) (r4 : Int) (W : World) (hg : W.heap[g]? = some (.cells #[.int .i64 (n 1 : Nat), .int .i64 (n 2 : Nat), .int .i64 (n 3 : Nat), .int .i64 (n 4 : Nat)] 65 (0, 0))) :
    Calls Tryz.prog 28 #[.pointer (some ⟨g, 0, none⟩), .agg #[.string r0, .string r1, .string r2, .string r3, .int .i64 r4, .int .i64 1]] W fun e w' => e = .returned (.tuple #[]) ∧ w'.heap[g]? = some (.cells #[.int .i64 ((bump n 1) 1 : Nat), .int .i64 ((bump n 1) 2 : Nat), .int .i64 ((bump n 1) 3 : Nat), .int .i64 ((bump n 1) 4 : Nat)] 65 (0, 0)) ∧ W.grownBy w' (some g) := by
  have HB := below_alloc (Below.refl W.heap.size W) (.cells #[.string r0, .string r1, .string r2, .string r3, .int .i64 r4, .int .i64 1] 48 (0, 0))
  have HC := new_blk W (.cells #[.string r0, .string r1, .string r2, .string r3, .int .i64 r4, .int .i64 1] 48 (0, 0))
  have HG := Lib.hid ((HB.block g (blk_lt hg)).trans hg)
  have HL := Lib.hid (blk_lt hg)
  have HBH := Lib.hid HB
  have x5 : ((W.alloc (.cells #[.string r0, .string r1, .string r2, .string r3, .int .i64 r4, .int .i64 1] 48 (0, 0))).drew).cell? ⟨W.heap.size, 5, none⟩ = some (.int .i64 1) := (blk_cell HC 5).trans rfl
  have c0 : ((W.alloc (.cells #[.string r0, .string r1, .string r2, .string r3, .int .i64 r4, .int .i64 1] 48 (0, 0))).drew).cell? ⟨g, 0, none⟩ = some (.int .i64 (n 1 : Nat)) := (blk_cell HG.out 0).trans rfl
  have f0 : ((W.alloc (.cells #[.string r0, .string r1, .string r2, .string r3, .int .i64 r4, .int .i64 1] 48 (0, 0))).drew).frozen? ⟨g, 0, none⟩ = false := blk_frozen HG.out 0
  have hn2 : (n 1 : Int) ≤ 1000 := by omega
  have wq : IntKind.i64.wrap 0 = 0 := by kernel_rfl
  have hw : IntKind.i64.wrap ((n 1 : Int) + 1) = (n 1 : Int) + 1 := by rw [IntKind.wrap_i64]; omega
  clear HB HC hg
  go_enter Tryz.func28, Tryz.ntmps28
  go_wp2_with fail
  refine WL.start (n := 11) (ds := [10]) (S := fun w' => w'.cell? ⟨W.heap.size, 5, none⟩ = some (.int .i64 1) ∧ w'.cell? ⟨g, 0, none⟩ = some (.int .i64 (n 1 : Nat))) [false, false, false, false, false, false, false, false, false, false, false] (by kernel_rfl) rfl rfl ⟨x5, c0⟩ (fun hHeld => ?_)
  refine WL.tab tab28_1 (fun HT_ => ?_)
  refine WL.more [0, 1, 4, 8, 2, 3, 5, 6, 7, 9] ?_
  repeat (first
    | (refine WL.off (lb' := ?_) (ys := ?_) rfl rfl (by rfl) ?_ HT_.out ?_ (fun _ _ _ h => h) ?_ ?_; rotate_left 2; (focus dsimp only [List.set_cons_zero, List.set_cons_succ]; rfl); (focus kernel_rfl); (focus dsimp only [List.set_cons_zero, List.set_cons_succ]; rfl))
    | (refine WL.pure (lb' := ?_) (v := ?_) (ys := ?_) rfl rfl (by rfl) ?_ HT_.out ?_ (fun _ _ _ h => h) ?_ ?_ ?_; rotate_left 3; (focus dsimp only [List.set_cons_zero, List.set_cons_succ]; rfl); (focus kernel_rfl); (focus intro w'; go_simp; with_reducible rfl); (focus dsimp only [List.set_cons_zero, List.set_cons_succ]; rfl))
    | (refine WL.take (lb' := ?_) (v := ?_) (ys := ?_) rfl rfl (by rfl) ?_ HT_.out ?_ (fun _ _ _ h => h) hHeld ?_ ?_ ?_; rotate_left 3; (focus dsimp only [List.set_cons_zero, List.set_cons_succ]; rfl); (focus kernel_rfl); (focus rintro w' ⟨s0, s1⟩; go_simp; with_reducible rfl); (focus dsimp only [List.set_cons_zero, List.set_cons_succ]; rfl)))
  refine WL.more [10] ?_
  refine WL.last (lb' := ?_) rfl rfl ?_ HT_.out ?_ (by decide) (fun K hK => ?_); rotate_left; (focus dsimp only [List.set_cons_zero, List.set_cons_succ]; rfl); (focus kernel_rfl)
  refine skip_ (w1 := ?_) (by rfl) rfl ?_ ?_
  rotate_left
  (focus go_simp; rfl)
  refine hK.out _ _ ?_
  clear hK K
  refine WL.done HT_.out (by kernel_rfl) ?_
  have HF1 := Lib.hid (blk_put HG.out 0 (.int .i64 ((n 1 : Int) + 1)) rfl)
  have HF2 := Lib.hid (show W.grownBy (((W.alloc (.cells #[.string r0, .string r1, .string r2, .string r3, .int .i64 r4, .int .i64 1] 48 (0, 0))).setCell ⟨g, 0, none⟩ (.int .i64 ((n 1 : Int) + 1))).drew) (some g) from ⟨HBH.out.os, HBH.out.tape, HBH.out.output, by simp [World.setCell], fun k hk hne => (Below.heap_setCell _ _ _ _ (fun e => hne (congrArg some e))).trans (HBH.out.block k hk)⟩)
  clear c0 f0 x5
  go_wp2
  exact ⟨rfl, _, results_none (by kernel_rfl) _ _ _, rfl, HF1.out, HF2.out⟩
set_option maxHeartbeats 1000000 in
theorem add_eq2 (g : Nat) (n : Int → Nat) (hn : n 2 ≤ 1000) (r0 r1 r2 r3 : ByteArray) (r4 : Int) (W : World) (hg : W.heap[g]? = some (.cells #[.int .i64 (n 1 : Nat), .int .i64 (n 2 : Nat), .int .i64 (n 3 : Nat), .int .i64 (n 4 : Nat)] 65 (0, 0))) :
    Calls Tryz.prog 28 #[.pointer (some ⟨g, 0, none⟩), .agg #[.string r0, .string r1, .string r2, .string r3, .int .i64 r4, .int .i64 2]] W fun e w' => e = .returned (.tuple #[]) ∧ w'.heap[g]? = some (.cells #[.int .i64 ((bump n 2) 1 : Nat), .int .i64 ((bump n 2) 2 : Nat), .int .i64 ((bump n 2) 3 : Nat), .int .i64 ((bump n 2) 4 : Nat)] 65 (0, 0)) ∧ W.grownBy w' (some g) := by
  have HB := below_alloc (Below.refl W.heap.size W) (.cells #[.string r0, .string r1, .string r2, .string r3, .int .i64 r4, .int .i64 2] 48 (0, 0))
  have HC := new_blk W (.cells #[.string r0, .string r1, .string r2, .string r3, .int .i64 r4, .int .i64 2] 48 (0, 0))
  have HG := Lib.hid ((HB.block g (blk_lt hg)).trans hg)
  have HL := Lib.hid (blk_lt hg)
  have HBH := Lib.hid HB
  have x5 : ((W.alloc (.cells #[.string r0, .string r1, .string r2, .string r3, .int .i64 r4, .int .i64 2] 48 (0, 0))).drew).cell? ⟨W.heap.size, 5, none⟩ = some (.int .i64 2) := (blk_cell HC 5).trans rfl
  have c0 : ((W.alloc (.cells #[.string r0, .string r1, .string r2, .string r3, .int .i64 r4, .int .i64 2] 48 (0, 0))).drew).cell? ⟨g, 1, none⟩ = some (.int .i64 (n 2 : Nat)) := (blk_cell HG.out 1).trans rfl
  have f0 : ((W.alloc (.cells #[.string r0, .string r1, .string r2, .string r3, .int .i64 r4, .int .i64 2] 48 (0, 0))).drew).frozen? ⟨g, 1, none⟩ = false := blk_frozen HG.out 1
  have hn2 : (n 2 : Int) ≤ 1000 := by omega
  have wq : IntKind.i64.wrap 1 = 1 := by kernel_rfl
  have hw : IntKind.i64.wrap ((n 2 : Int) + 1) = (n 2 : Int) + 1 := by rw [IntKind.wrap_i64]; omega
  clear HB HC hg
  go_enter Tryz.func28, Tryz.ntmps28
  go_wp2_with fail
  refine WL.start (n := 11) (ds := [10]) (S := fun w' => w'.cell? ⟨W.heap.size, 5, none⟩ = some (.int .i64 2) ∧ w'.cell? ⟨g, 1, none⟩ = some (.int .i64 (n 2 : Nat))) [false, false, false, false, false, false, false, false, false, false, false] (by kernel_rfl) rfl rfl ⟨x5, c0⟩ (fun hHeld => ?_)
  refine WL.tab tab28_1 (fun HT_ => ?_)
  refine WL.more [0, 1, 4, 8, 2, 3, 5, 6, 7, 9] ?_
  repeat (first
    | (refine WL.off (lb' := ?_) (ys := ?_) rfl rfl (by rfl) ?_ HT_.out ?_ (fun _ _ _ h => h) ?_ ?_; rotate_left 2; (focus dsimp only [List.set_cons_zero, List.set_cons_succ]; rfl); (focus kernel_rfl); (focus dsimp only [List.set_cons_zero, List.set_cons_succ]; rfl))
    | (refine WL.pure (lb' := ?_) (v := ?_) (ys := ?_) rfl rfl (by rfl) ?_ HT_.out ?_ (fun _ _ _ h => h) ?_ ?_ ?_; rotate_left 3; (focus dsimp only [List.set_cons_zero, List.set_cons_succ]; rfl); (focus kernel_rfl); (focus intro w'; go_simp; with_reducible rfl); (focus dsimp only [List.set_cons_zero, List.set_cons_succ]; rfl))
    | (refine WL.take (lb' := ?_) (v := ?_) (ys := ?_) rfl rfl (by rfl) ?_ HT_.out ?_ (fun _ _ _ h => h) hHeld ?_ ?_ ?_; rotate_left 3; (focus dsimp only [List.set_cons_zero, List.set_cons_succ]; rfl); (focus kernel_rfl); (focus rintro w' ⟨s0, s1⟩; go_simp; with_reducible rfl); (focus dsimp only [List.set_cons_zero, List.set_cons_succ]; rfl)))
  refine WL.more [10] ?_
  refine WL.last (lb' := ?_) rfl rfl ?_ HT_.out ?_ (by decide) (fun K hK => ?_); rotate_left; (focus dsimp only [List.set_cons_zero, List.set_cons_succ]; rfl); (focus kernel_rfl)
  refine skip_ (w1 := ?_) (by rfl) rfl ?_ ?_
  rotate_left
  (focus go_simp; rfl)
  refine hK.out _ _ ?_
  clear hK K
  refine WL.done HT_.out (by kernel_rfl) ?_
  have HF1 := Lib.hid (blk_put HG.out 1 (.int .i64 ((n 2 : Int) + 1)) rfl)
  have HF2 := Lib.hid (show W.grownBy (((W.alloc (.cells #[.string r0, .string r1, .string r2, .string r3, .int .i64 r4, .int .i64 2] 48 (0, 0))).setCell ⟨g, 1, none⟩ (.int .i64 ((n 2 : Int) + 1))).drew) (some g) from ⟨HBH.out.os, HBH.out.tape, HBH.out.output, by simp [World.setCell], fun k hk hne => (Below.heap_setCell _ _ _ _ (fun e => hne (congrArg some e))).trans (HBH.out.block k hk)⟩)
  clear c0 f0 x5
  go_wp2
  exact ⟨rfl, _, results_none (by kernel_rfl) _ _ _, rfl, HF1.out, HF2.out⟩
set_option maxHeartbeats 1000000 in
theorem add_eq3 (g : Nat) (n : Int → Nat) (hn : n 3 ≤ 1000) (r0 r1 r2 r3 : ByteArray) (r4 : Int) (W : World) (hg : W.heap[g]? = some (.cells #[.int .i64 (n 1 : Nat), .int .i64 (n 2 : Nat), .int .i64 (n 3 : Nat), .int .i64 (n 4 : Nat)] 65 (0, 0))) :
    Calls Tryz.prog 28 #[.pointer (some ⟨g, 0, none⟩), .agg #[.string r0, .string r1, .string r2, .string r3, .int .i64 r4, .int .i64 3]] W fun e w' => e = .returned (.tuple #[]) ∧ w'.heap[g]? = some (.cells #[.int .i64 ((bump n 3) 1 : Nat), .int .i64 ((bump n 3) 2 : Nat), .int .i64 ((bump n 3) 3 : Nat), .int .i64 ((bump n 3) 4 : Nat)] 65 (0, 0)) ∧ W.grownBy w' (some g) := by
  have HB := below_alloc (Below.refl W.heap.size W) (.cells #[.string r0, .string r1, .string r2, .string r3, .int .i64 r4, .int .i64 3] 48 (0, 0))
  have HC := new_blk W (.cells #[.string r0, .string r1, .string r2, .string r3, .int .i64 r4, .int .i64 3] 48 (0, 0))
  have HG := Lib.hid ((HB.block g (blk_lt hg)).trans hg)
  have HL := Lib.hid (blk_lt hg)
  have HBH := Lib.hid HB
  have x5 : ((W.alloc (.cells #[.string r0, .string r1, .string r2, .string r3, .int .i64 r4, .int .i64 3] 48 (0, 0))).drew).cell? ⟨W.heap.size, 5, none⟩ = some (.int .i64 3) := (blk_cell HC 5).trans rfl
  have c0 : ((W.alloc (.cells #[.string r0, .string r1, .string r2, .string r3, .int .i64 r4, .int .i64 3] 48 (0, 0))).drew).cell? ⟨g, 2, none⟩ = some (.int .i64 (n 3 : Nat)) := (blk_cell HG.out 2).trans rfl
  have f0 : ((W.alloc (.cells #[.string r0, .string r1, .string r2, .string r3, .int .i64 r4, .int .i64 3] 48 (0, 0))).drew).frozen? ⟨g, 2, none⟩ = false := blk_frozen HG.out 2
  have hn2 : (n 3 : Int) ≤ 1000 := by omega
  have wq : IntKind.i64.wrap 2 = 2 := by kernel_rfl
  have hw : IntKind.i64.wrap ((n 3 : Int) + 1) = (n 3 : Int) + 1 := by rw [IntKind.wrap_i64]; omega
  clear HB HC hg
  go_enter Tryz.func28, Tryz.ntmps28
  go_wp2_with fail
  refine WL.start (n := 11) (ds := [10]) (S := fun w' => w'.cell? ⟨W.heap.size, 5, none⟩ = some (.int .i64 3) ∧ w'.cell? ⟨g, 2, none⟩ = some (.int .i64 (n 3 : Nat))) [false, false, false, false, false, false, false, false, false, false, false] (by kernel_rfl) rfl rfl ⟨x5, c0⟩ (fun hHeld => ?_)
  refine WL.tab tab28_1 (fun HT_ => ?_)
  refine WL.more [0, 1, 4, 8, 2, 3, 5, 6, 7, 9] ?_
  repeat (first
    | (refine WL.off (lb' := ?_) (ys := ?_) rfl rfl (by rfl) ?_ HT_.out ?_ (fun _ _ _ h => h) ?_ ?_; rotate_left 2; (focus dsimp only [List.set_cons_zero, List.set_cons_succ]; rfl); (focus kernel_rfl); (focus dsimp only [List.set_cons_zero, List.set_cons_succ]; rfl))
    | (refine WL.pure (lb' := ?_) (v := ?_) (ys := ?_) rfl rfl (by rfl) ?_ HT_.out ?_ (fun _ _ _ h => h) ?_ ?_ ?_; rotate_left 3; (focus dsimp only [List.set_cons_zero, List.set_cons_succ]; rfl); (focus kernel_rfl); (focus intro w'; go_simp; with_reducible rfl); (focus dsimp only [List.set_cons_zero, List.set_cons_succ]; rfl))
    | (refine WL.take (lb' := ?_) (v := ?_) (ys := ?_) rfl rfl (by rfl) ?_ HT_.out ?_ (fun _ _ _ h => h) hHeld ?_ ?_ ?_; rotate_left 3; (focus dsimp only [List.set_cons_zero, List.set_cons_succ]; rfl); (focus kernel_rfl); (focus rintro w' ⟨s0, s1⟩; go_simp; with_reducible rfl); (focus dsimp only [List.set_cons_zero, List.set_cons_succ]; rfl)))
  refine WL.more [10] ?_
  refine WL.last (lb' := ?_) rfl rfl ?_ HT_.out ?_ (by decide) (fun K hK => ?_); rotate_left; (focus dsimp only [List.set_cons_zero, List.set_cons_succ]; rfl); (focus kernel_rfl)
  refine skip_ (w1 := ?_) (by rfl) rfl ?_ ?_
  rotate_left
  (focus go_simp; rfl)
  refine hK.out _ _ ?_
  clear hK K
  refine WL.done HT_.out (by kernel_rfl) ?_
  have HF1 := Lib.hid (blk_put HG.out 2 (.int .i64 ((n 3 : Int) + 1)) rfl)
  have HF2 := Lib.hid (show W.grownBy (((W.alloc (.cells #[.string r0, .string r1, .string r2, .string r3, .int .i64 r4, .int .i64 3] 48 (0, 0))).setCell ⟨g, 2, none⟩ (.int .i64 ((n 3 : Int) + 1))).drew) (some g) from ⟨HBH.out.os, HBH.out.tape, HBH.out.output, by simp [World.setCell], fun k hk hne => (Below.heap_setCell _ _ _ _ (fun e => hne (congrArg some e))).trans (HBH.out.block k hk)⟩)
  clear c0 f0 x5
  go_wp2
  exact ⟨rfl, _, results_none (by kernel_rfl) _ _ _, rfl, HF1.out, HF2.out⟩
set_option maxHeartbeats 1000000 in
theorem add_eq4 (g : Nat) (n : Int → Nat) (hn : n 4 ≤ 1000) (r0 r1 r2 r3 : ByteArray) (r4 : Int) (W : World) (hg : W.heap[g]? = some (.cells #[.int .i64 (n 1 : Nat), .int .i64 (n 2 : Nat), .int .i64 (n 3 : Nat), .int .i64 (n 4 : Nat)] 65 (0, 0))) :
    Calls Tryz.prog 28 #[.pointer (some ⟨g, 0, none⟩), .agg #[.string r0, .string r1, .string r2, .string r3, .int .i64 r4, .int .i64 4]] W fun e w' => e = .returned (.tuple #[]) ∧ w'.heap[g]? = some (.cells #[.int .i64 ((bump n 4) 1 : Nat), .int .i64 ((bump n 4) 2 : Nat), .int .i64 ((bump n 4) 3 : Nat), .int .i64 ((bump n 4) 4 : Nat)] 65 (0, 0)) ∧ W.grownBy w' (some g) := by
  have HB := below_alloc (Below.refl W.heap.size W) (.cells #[.string r0, .string r1, .string r2, .string r3, .int .i64 r4, .int .i64 4] 48 (0, 0))
  have HC := new_blk W (.cells #[.string r0, .string r1, .string r2, .string r3, .int .i64 r4, .int .i64 4] 48 (0, 0))
  have HG := Lib.hid ((HB.block g (blk_lt hg)).trans hg)
  have HL := Lib.hid (blk_lt hg)
  have HBH := Lib.hid HB
  have x5 : ((W.alloc (.cells #[.string r0, .string r1, .string r2, .string r3, .int .i64 r4, .int .i64 4] 48 (0, 0))).drew).cell? ⟨W.heap.size, 5, none⟩ = some (.int .i64 4) := (blk_cell HC 5).trans rfl
  have c0 : ((W.alloc (.cells #[.string r0, .string r1, .string r2, .string r3, .int .i64 r4, .int .i64 4] 48 (0, 0))).drew).cell? ⟨g, 3, none⟩ = some (.int .i64 (n 4 : Nat)) := (blk_cell HG.out 3).trans rfl
  have f0 : ((W.alloc (.cells #[.string r0, .string r1, .string r2, .string r3, .int .i64 r4, .int .i64 4] 48 (0, 0))).drew).frozen? ⟨g, 3, none⟩ = false := blk_frozen HG.out 3
  have hn2 : (n 4 : Int) ≤ 1000 := by omega
  have wq : IntKind.i64.wrap 3 = 3 := by kernel_rfl
  have hw : IntKind.i64.wrap ((n 4 : Int) + 1) = (n 4 : Int) + 1 := by rw [IntKind.wrap_i64]; omega
  clear HB HC hg
  go_enter Tryz.func28, Tryz.ntmps28
  go_wp2_with fail
  refine WL.start (n := 11) (ds := [10]) (S := fun w' => w'.cell? ⟨W.heap.size, 5, none⟩ = some (.int .i64 4) ∧ w'.cell? ⟨g, 3, none⟩ = some (.int .i64 (n 4 : Nat))) [false, false, false, false, false, false, false, false, false, false, false] (by kernel_rfl) rfl rfl ⟨x5, c0⟩ (fun hHeld => ?_)
  refine WL.tab tab28_1 (fun HT_ => ?_)
  refine WL.more [0, 1, 4, 8, 2, 3, 5, 6, 7, 9] ?_
  repeat (first
    | (refine WL.off (lb' := ?_) (ys := ?_) rfl rfl (by rfl) ?_ HT_.out ?_ (fun _ _ _ h => h) ?_ ?_; rotate_left 2; (focus dsimp only [List.set_cons_zero, List.set_cons_succ]; rfl); (focus kernel_rfl); (focus dsimp only [List.set_cons_zero, List.set_cons_succ]; rfl))
    | (refine WL.pure (lb' := ?_) (v := ?_) (ys := ?_) rfl rfl (by rfl) ?_ HT_.out ?_ (fun _ _ _ h => h) ?_ ?_ ?_; rotate_left 3; (focus dsimp only [List.set_cons_zero, List.set_cons_succ]; rfl); (focus kernel_rfl); (focus intro w'; go_simp; with_reducible rfl); (focus dsimp only [List.set_cons_zero, List.set_cons_succ]; rfl))
    | (refine WL.take (lb' := ?_) (v := ?_) (ys := ?_) rfl rfl (by rfl) ?_ HT_.out ?_ (fun _ _ _ h => h) hHeld ?_ ?_ ?_; rotate_left 3; (focus dsimp only [List.set_cons_zero, List.set_cons_succ]; rfl); (focus kernel_rfl); (focus rintro w' ⟨s0, s1⟩; go_simp; with_reducible rfl); (focus dsimp only [List.set_cons_zero, List.set_cons_succ]; rfl)))
  refine WL.more [10] ?_
  refine WL.last (lb' := ?_) rfl rfl ?_ HT_.out ?_ (by decide) (fun K hK => ?_); rotate_left; (focus dsimp only [List.set_cons_zero, List.set_cons_succ]; rfl); (focus kernel_rfl)
  refine skip_ (w1 := ?_) (by rfl) rfl ?_ ?_
  rotate_left
  (focus go_simp; rfl)
  refine hK.out _ _ ?_
  clear hK K
  refine WL.done HT_.out (by kernel_rfl) ?_
  have HF1 := Lib.hid (blk_put HG.out 3 (.int .i64 ((n 4 : Int) + 1)) rfl)
  have HF2 := Lib.hid (show W.grownBy (((W.alloc (.cells #[.string r0, .string r1, .string r2, .string r3, .int .i64 r4, .int .i64 4] 48 (0, 0))).setCell ⟨g, 3, none⟩ (.int .i64 ((n 4 : Int) + 1))).drew) (some g) from ⟨HBH.out.os, HBH.out.tape, HBH.out.output, by simp [World.setCell], fun k hk hne => (Below.heap_setCell _ _ _ _ (fun e => hne (congrArg some e))).trans (HBH.out.block k hk)⟩)
  clear c0 f0 x5
  go_wp2
  exact ⟨rfl, _, results_none (by kernel_rfl) _ _ _, rfl, HF1.out, HF2.out⟩
/-- A record is counted. -/
theorem add_eq (g : Nat) (n : Int → Nat) (hn : ∀ j, n j ≤ 1000) (r : S48) (hr : 1 ≤ r.f5 ∧ r.f5 ≤ 4) (W : World) (hg : W.heap[g]? = some (.cells #[.int .i64 (n 1 : Nat), .int .i64 (n 2 : Nat), .int .i64 (n 3 : Nat), .int .i64 (n 4 : Nat)] 65 (0, 0))) :
    Calls Tryz.prog 28 #[.pointer (some ⟨g, 0, none⟩), .agg #[.string r.f0, .string r.f1, .string r.f2, .string r.f3, .int .i64 r.f4, .int .i64 r.f5]] W fun e w' => e = .returned (.tuple #[]) ∧ w'.heap[g]? = some (.cells #[.int .i64 ((bump n r.f5) 1 : Nat), .int .i64 ((bump n r.f5) 2 : Nat), .int .i64 ((bump n r.f5) 3 : Nat), .int .i64 ((bump n r.f5) 4 : Nat)] 65 (0, 0)) ∧ W.grownBy w' (some g) := by
  obtain ⟨r0, r1, r2, r3, r4, r5⟩ := r
  obtain h | h | h | h : r5 = 1 ∨ r5 = 2 ∨ r5 = 3 ∨ r5 = 4 := by dsimp only at hr; omega
  all_goals subst h
  · exact add_eq1 g n (hn 1) r0 r1 r2 r3 r4 W hg
  · exact add_eq2 g n (hn 2) r0 r1 r2 r3 r4 W hg
  · exact add_eq3 g n (hn 3) r0 r1 r2 r3 r4 W hg
  · exact add_eq4 g n (hn 4) r0 r1 r2 r3 r4 W hg
end Go.Proofs.YtafigkikblpbnaaGreatDoor.PG
namespace Go.Proofs.YtafigkikblpbnaaGreatDoor.PG
open Go.RowKit Go.Proofs.YtafigkikblpbnaaGreatDoorW.PrintWords Go.Proofs.YtafigkikblpbnaaGreatDoorW.PrintLast Go.Proofs.YtafigkikblpbnaaGreatDoorW.PrintMore
set_option linter.unusedVariables false
set_option linter.unusedSimpArgs false
set_option maxRecDepth 100000
open Go.RowKit Go.Maps Go.WideMaps
theorem lawS : Keyed Tryz.prog 9 := string_keyed Tryz.underlying9
theorem zeroP (w : World) : (zeroValue 67).run Tryz.prog w = .ok (.pointer none) w := by kernel_rfl
/-- How a place of a block is told. -/
def ptrR : Value → Option (DataW Unit × List MemPlace)
  | .pointer none => some (.lit (.int .i64 (-1)), [])
  | .pointer (some ⟨g, 0, none⟩) => some (.lit (.int .i64 g), [])
  | _ => none
def ptrN : Option Nat → Int
  | none => -1
  | some g => g
def ptrV : Option Nat → Value
  | none => .pointer none
  | some g => .pointer (some ⟨g, 0, none⟩)
theorem ptrR_mk (o : Option Nat) : ptrR (ptrV o) = some (.lit (.int .i64 (ptrN o)), []) := by cases o <;> rfl
theorem ptrR_inv {v : Value} {o : Option Nat} {ps : List MemPlace} (h : ptrR v = some (.lit (.int .i64 (ptrN o)), ps)) : v = ptrV o := by
  unfold ptrR at h
  split at h
  · injection h with h
    injection h with h _
    injection h with h
    injection h with _ h
    cases o
    · rfl
    · exact absurd h (by simp only [ptrN]; omega)
  · injection h with h
    injection h with h _
    injection h with h
    injection h with _ h
    cases o
    · exact absurd h (by simp only [ptrN]; omega)
    · simp only [ptrN] at h
      rw [show _ = _ from Int.ofNat.inj h]
      rfl
  · cases h
/-- Block b is a map of at most so many names to blocks: as T says. -/
def HasP (w : World) (b cnt : Nat) (T : ByteArray → Option Nat) : Prop :=
  ∃ D : DataW Unit, w.ownsMap Tryz.prog 9 ptrR b cnt D ∧ ∀ s : ByteArray, s.size ≤ maxLen → D.atKey (.string s.data.toList) (.lit (.int .i64 (-1))) = .lit (.int .i64 (ptrN (T s)))
theorem lit_ne {s t : ByteArray} (h : t ≠ s) : (Lit.string t.data.toList) ≠ Lit.string s.data.toList := by
  intro e
  injection e with e
  apply h
  obtain ⟨a⟩ := s
  obtain ⟨b⟩ := t
  have : b = a := Array.toList_inj.1 e
  rw [this]
theorem HasP.made (w : World) : HasP (w.alloc (.map #[] 0)) w.heap.size 0 (fun _ => none) :=
  ⟨_, World.ownsMap_made _ _ _ _, fun _ _ => rfl⟩
theorem HasP.lookup {w : World} {b cnt : Nat} {T : ByteArray → Option Nat} (h : HasP w b cnt T) (s : ByteArray) (hs : s.size ≤ maxLen) : (Instr.lookup 66 (.map (some b)) (.string s) false).run Tryz.prog w = .ok (ptrV (T s)) w := by
  obtain ⟨D, hD, hS⟩ := h
  obtain ⟨v, ps, hrun, hv⟩ := hD.lookup lawS Tryz.underlying66 (zeroP w) (ptrR_mk none) (keyOf_string_mk Tryz.underlying9 hs)
  rw [show ptrN none = -1 from rfl, hS s hs] at hv
  rw [hrun, ptrR_inv hv]
theorem HasP.put {w : World} {b cnt : Nat} {T : ByteArray → Option Nat} (h : HasP w b cnt T) (hn : cnt < maxLen) (s : ByteArray) (hs : s.size ≤ maxLen) (g : Nat) :
    ∃ w', (Instr.mapUpdate 66 (.map (some b)) (.string s) (.pointer (some ⟨g, 0, none⟩))).run Tryz.prog w = .ok () w' ∧ HasP w' b (cnt + 1) (fun t => if t = s then some g else T t) ∧ w.grownBy w' (some b) := by
  obtain ⟨D, hD, hS⟩ := h
  obtain ⟨w', hrun, h1, h2⟩ := hD.update lawS Tryz.underlying66 hn (keyOf_string_mk Tryz.underlying9 hs) (ptrR_mk (some g))
  refine ⟨w', hrun, ⟨_, h1, fun t ht => ?_⟩, h2⟩
  by_cases e : t = s
  · subst e
    rw [atKey_put_same hD.isMap (show WideAt.IsKeyLit (.string _) from trivial)]
    show _ = DataW.lit (.int .i64 (ptrN (if t = t then some g else T t)))
    rw [if_pos rfl]
  · rw [atKey_put_other (lit_ne e), hS t ht]
    show _ = DataW.lit (.int .i64 (ptrN (if t = s then some g else T t)))
    rw [if_neg e]
theorem HasP.kept {w w' : World} {b cnt : Nat} {T : ByteArray → Option Nat} {row : Option Nat} (h : HasP w b cnt T) (hg : w.grownBy w' row) (hne : some b ≠ row) : HasP w' b cnt T := by
  obtain ⟨D, hD, hS⟩ := h
  exact ⟨D, hD.kept hg hne, hS⟩
end Go.Proofs.YtafigkikblpbnaaGreatDoor.PG
