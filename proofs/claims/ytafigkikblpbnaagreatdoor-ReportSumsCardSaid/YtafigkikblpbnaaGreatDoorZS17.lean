/- The law ReportLines answers true. A line's words, and the numbers at its end. Two lists of numbers. The law ReportSums answers true; no condition beyond each theorem its own. -/
import Derived.Test.YtafigkikblpbnaaGreatDoorZS07
import Derived.Test.YtafigkikblpbnaaGreatDoorZS09
import Derived.Test.YtafigkikblpbnaaGreatDoorZS04
import Derived.Test.YtafigkikblpbnaaGreatDoorZS16
import Derived.Test.YtafigkikblpbnaaGreatDoorZS05
import Derived.Test.YtafigkikblpbnaaGreatDoorZS14
import Derived.Test.YtafigkikblpbnaaGreatDoorZS15
import Derived.Test.YtafigkikblpbnaaGreatDoorZS13
namespace Go.Proofs.YtafigkikblpbnaaGreatDoor.PG
open Go.RowKit Go.Proofs.YtafigkikblpbnaaGreatDoorW.PrintWords Go.Proofs.YtafigkikblpbnaaGreatDoorW.PrintLast Go.Proofs.YtafigkikblpbnaaGreatDoorW.PrintMore
set_option linter.unusedVariables false
set_option linter.unusedSimpArgs false
set_option maxRecDepth 100000
set_option maxHeartbeats 2000000 in
/-- What is asked of a state ahead. -/
theorem small_any (s : S31) (A2 A3 A4 A5 A6 A7 A8 : Option Addr) (c2 c3 c4 c5 c6 c7 c8 : Nat) (W : World) (hs : Rs W s A2 A3 A4 A5 A6 A7 A8 c2 c3 c4 c5 c6 c7 c8) (hz : Zs s) : Calls Tryz.prog 6 #[.agg #[.int .i64 s.f0, .int .u64 s.f1, .slice A2 s.f2.length c2, .slice A3 s.f3.length c3, .slice A4 s.f4.length c4, .slice A5 s.f5.length c5, .slice A6 s.f6.length c6, .slice A7 s.f7.length c7, .slice A8 s.f8.length c8, .int .i64 s.f9]] W (RBq (Few s ∧ May5 s) W) := by
  have HB1 := Lib.hid (show Below W.heap.size W (W.alloc (.cells #[.int .i64 s.f0, .int .u64 s.f1, .slice A2 s.f2.length c2, .slice A3 s.f3.length c3, .slice A4 s.f4.length c4, .slice A5 s.f5.length c5, .slice A6 s.f6.length c6, .slice A7 s.f7.length c7, .slice A8 s.f8.length c8, .int .i64 s.f9] 31 (0, 0))) from below_alloc (Below.refl _ _) _)
  have HY1 := Lib.hid (new_blk W (.cells #[.int .i64 s.f0, .int .u64 s.f1, .slice A2 s.f2.length c2, .slice A3 s.f3.length c3, .slice A4 s.f4.length c4, .slice A5 s.f5.length c5, .slice A6 s.f6.length c6, .slice A7 s.f7.length c7, .slice A8 s.f8.length c8, .int .i64 s.f9] 31 (0, 0)))
  have HS1 := Lib.hid (hs.below HB1.out)
  have HSM := Lib.hid (Small28 s A2 A3 A4 A5 A6 A7 A8 c2 c3 c4 c5 c6 c7 c8 _ HS1.out)
  have HMA := Lib.hid (fun w' (h : Rs w' s A2 A3 A4 A5 A6 A7 A8 c2 c3 c4 c5 c6 c7 c8) => May_any s A2 A3 A4 A5 A6 A7 A8 c2 c3 c4 c5 c6 c7 c8 w' h hz)
  clear hs hz
  generalize hw1 : W.alloc (.cells #[.int .i64 s.f0, .int .u64 s.f1, .slice A2 s.f2.length c2, .slice A3 s.f3.length c3, .slice A4 s.f4.length c4, .slice A5 s.f5.length c5, .slice A6 s.f6.length c6, .slice A7 s.f7.length c7, .slice A8 s.f8.length c8, .int .i64 s.f9] 31 (0, 0)) = w1 at *
  have HW := Lib.hid hw1
  clear hw1
  have q0 : (W.alloc (.cells #[.int .i64 s.f0, .int .u64 s.f1, .slice A2 s.f2.length c2, .slice A3 s.f3.length c3, .slice A4 s.f4.length c4, .slice A5 s.f5.length c5, .slice A6 s.f6.length c6, .slice A7 s.f7.length c7, .slice A8 s.f8.length c8, .int .i64 s.f9] 31 (0, 0))).cell? ⟨W.heap.size, 0, none⟩ = some (.int .i64 s.f0) := by rw [HW.out]; exact (blk_cell HY1.out 0).trans rfl
  have q1 : (W.alloc (.cells #[.int .i64 s.f0, .int .u64 s.f1, .slice A2 s.f2.length c2, .slice A3 s.f3.length c3, .slice A4 s.f4.length c4, .slice A5 s.f5.length c5, .slice A6 s.f6.length c6, .slice A7 s.f7.length c7, .slice A8 s.f8.length c8, .int .i64 s.f9] 31 (0, 0))).cell? ⟨W.heap.size, 1, none⟩ = some (.int .u64 s.f1) := by rw [HW.out]; exact (blk_cell HY1.out 1).trans rfl
  have q2 : (W.alloc (.cells #[.int .i64 s.f0, .int .u64 s.f1, .slice A2 s.f2.length c2, .slice A3 s.f3.length c3, .slice A4 s.f4.length c4, .slice A5 s.f5.length c5, .slice A6 s.f6.length c6, .slice A7 s.f7.length c7, .slice A8 s.f8.length c8, .int .i64 s.f9] 31 (0, 0))).cell? ⟨W.heap.size, 2, none⟩ = some (.slice A2 s.f2.length c2) := by rw [HW.out]; exact (blk_cell HY1.out 2).trans rfl
  have q3 : (W.alloc (.cells #[.int .i64 s.f0, .int .u64 s.f1, .slice A2 s.f2.length c2, .slice A3 s.f3.length c3, .slice A4 s.f4.length c4, .slice A5 s.f5.length c5, .slice A6 s.f6.length c6, .slice A7 s.f7.length c7, .slice A8 s.f8.length c8, .int .i64 s.f9] 31 (0, 0))).cell? ⟨W.heap.size, 3, none⟩ = some (.slice A3 s.f3.length c3) := by rw [HW.out]; exact (blk_cell HY1.out 3).trans rfl
  have q4 : (W.alloc (.cells #[.int .i64 s.f0, .int .u64 s.f1, .slice A2 s.f2.length c2, .slice A3 s.f3.length c3, .slice A4 s.f4.length c4, .slice A5 s.f5.length c5, .slice A6 s.f6.length c6, .slice A7 s.f7.length c7, .slice A8 s.f8.length c8, .int .i64 s.f9] 31 (0, 0))).cell? ⟨W.heap.size, 4, none⟩ = some (.slice A4 s.f4.length c4) := by rw [HW.out]; exact (blk_cell HY1.out 4).trans rfl
  have q5 : (W.alloc (.cells #[.int .i64 s.f0, .int .u64 s.f1, .slice A2 s.f2.length c2, .slice A3 s.f3.length c3, .slice A4 s.f4.length c4, .slice A5 s.f5.length c5, .slice A6 s.f6.length c6, .slice A7 s.f7.length c7, .slice A8 s.f8.length c8, .int .i64 s.f9] 31 (0, 0))).cell? ⟨W.heap.size, 5, none⟩ = some (.slice A5 s.f5.length c5) := by rw [HW.out]; exact (blk_cell HY1.out 5).trans rfl
  have q6 : (W.alloc (.cells #[.int .i64 s.f0, .int .u64 s.f1, .slice A2 s.f2.length c2, .slice A3 s.f3.length c3, .slice A4 s.f4.length c4, .slice A5 s.f5.length c5, .slice A6 s.f6.length c6, .slice A7 s.f7.length c7, .slice A8 s.f8.length c8, .int .i64 s.f9] 31 (0, 0))).cell? ⟨W.heap.size, 6, none⟩ = some (.slice A6 s.f6.length c6) := by rw [HW.out]; exact (blk_cell HY1.out 6).trans rfl
  have q7 : (W.alloc (.cells #[.int .i64 s.f0, .int .u64 s.f1, .slice A2 s.f2.length c2, .slice A3 s.f3.length c3, .slice A4 s.f4.length c4, .slice A5 s.f5.length c5, .slice A6 s.f6.length c6, .slice A7 s.f7.length c7, .slice A8 s.f8.length c8, .int .i64 s.f9] 31 (0, 0))).cell? ⟨W.heap.size, 7, none⟩ = some (.slice A7 s.f7.length c7) := by rw [HW.out]; exact (blk_cell HY1.out 7).trans rfl
  have q8 : (W.alloc (.cells #[.int .i64 s.f0, .int .u64 s.f1, .slice A2 s.f2.length c2, .slice A3 s.f3.length c3, .slice A4 s.f4.length c4, .slice A5 s.f5.length c5, .slice A6 s.f6.length c6, .slice A7 s.f7.length c7, .slice A8 s.f8.length c8, .int .i64 s.f9] 31 (0, 0))).cell? ⟨W.heap.size, 8, none⟩ = some (.slice A8 s.f8.length c8) := by rw [HW.out]; exact (blk_cell HY1.out 8).trans rfl
  have q9 : (W.alloc (.cells #[.int .i64 s.f0, .int .u64 s.f1, .slice A2 s.f2.length c2, .slice A3 s.f3.length c3, .slice A4 s.f4.length c4, .slice A5 s.f5.length c5, .slice A6 s.f6.length c6, .slice A7 s.f7.length c7, .slice A8 s.f8.length c8, .int .i64 s.f9] 31 (0, 0))).cell? ⟨W.heap.size, 9, none⟩ = some (.int .i64 s.f9) := by rw [HW.out]; exact (blk_cell HY1.out 9).trans rfl
  go_enter Tryz.func6, Tryz.ntmps6
  go_wp2_with fail
  rw [HW.out]
  clear HW q0 q1 q2 q3 q4 q5 q6 q7 q8 q9
  refine HSM.out.mono ?_
  rintro e w2 ⟨b, rfl, hf, hb⟩
  have HB2 := Lib.hid (below_tr HB1.out hb)
  have HY2 := Lib.hid ((hb.block W.heap.size (blk_lt HY1.out)).trans HY1.out)
  have HS2 := Lib.hid (HS1.out.below hb)
  have q0 : (w2).cell? ⟨W.heap.size, 0, none⟩ = some (.int .i64 s.f0) := (blk_cell HY2.out 0).trans rfl
  have q1 : (w2).cell? ⟨W.heap.size, 1, none⟩ = some (.int .u64 s.f1) := (blk_cell HY2.out 1).trans rfl
  have q2 : (w2).cell? ⟨W.heap.size, 2, none⟩ = some (.slice A2 s.f2.length c2) := (blk_cell HY2.out 2).trans rfl
  have q3 : (w2).cell? ⟨W.heap.size, 3, none⟩ = some (.slice A3 s.f3.length c3) := (blk_cell HY2.out 3).trans rfl
  have q4 : (w2).cell? ⟨W.heap.size, 4, none⟩ = some (.slice A4 s.f4.length c4) := (blk_cell HY2.out 4).trans rfl
  have q5 : (w2).cell? ⟨W.heap.size, 5, none⟩ = some (.slice A5 s.f5.length c5) := (blk_cell HY2.out 5).trans rfl
  have q6 : (w2).cell? ⟨W.heap.size, 6, none⟩ = some (.slice A6 s.f6.length c6) := (blk_cell HY2.out 6).trans rfl
  have q7 : (w2).cell? ⟨W.heap.size, 7, none⟩ = some (.slice A7 s.f7.length c7) := (blk_cell HY2.out 7).trans rfl
  have q8 : (w2).cell? ⟨W.heap.size, 8, none⟩ = some (.slice A8 s.f8.length c8) := (blk_cell HY2.out 8).trans rfl
  have q9 : (w2).cell? ⟨W.heap.size, 9, none⟩ = some (.int .i64 s.f9) := (blk_cell HY2.out 9).trans rfl
  clear hb
  cases b
  · go_wp2_with fail
    go_ret
    exact RBq.no HB2.out
  · have HF := Lib.hid (hf rfl)
    clear hf
    go_wp2_with fail
    refine (HMA.out w2 HS2.out).mono ?_
    rintro e w3 ⟨b, rfl, hm, hb⟩
    have HB3 := Lib.hid (below_tr HB2.out hb)
    have HM := Lib.hid hm
    clear q0 q1 q2 q3 q4 q5 q6 q7 q8 q9 hb hm
    go_wp2_with fail
    go_ret
    exact RBq.mk (fun h => ⟨HF.out, HM.out h⟩) HB3.out

end Go.Proofs.YtafigkikblpbnaaGreatDoor.PG
namespace Go.Proofs.YtafigkikblpbnaaGreatDoor.PG
open Go.RowKit Go.Proofs.YtafigkikblpbnaaGreatDoorW.PrintWords Go.Proofs.YtafigkikblpbnaaGreatDoorW.PrintLast Go.Proofs.YtafigkikblpbnaaGreatDoorW.PrintMore
set_option linter.unusedVariables false
set_option linter.unusedSimpArgs false
set_option maxRecDepth 100000

/-- A text's words, parted by single blanks. -/
def wds : List UInt8 → List UInt8 → List (List UInt8)
  | cur, [] => [cur]
  | cur, b :: r => if b = 32 then cur :: wds [] r else wds (cur ++ [b]) r
theorem wds_app : ∀ (a cur r : List UInt8), (∀ b ∈ a, b ≠ 32) → wds cur (a ++ r) = wds (cur ++ a) r
  | [], cur, r, _ => by rw [List.append_nil]; rfl
  | b :: a, cur, r, h => by
    show (if b = 32 then _ else wds (cur ++ [b]) (a ++ r)) = _
    rw [if_neg (h b (List.mem_cons.2 (.inl rfl))), wds_app a (cur ++ [b]) r (fun c hc => h c (List.mem_cons.2 (.inr hc))), List.append_assoc]
    rfl
theorem wds_cut (a r : List UInt8) (h : ∀ b ∈ a, b ≠ 32) : wds [] (a ++ 32 :: r) = a :: wds [] r := by
  rw [wds_app a [] _ h, List.nil_append]
  rfl
theorem wds_end (a : List UInt8) (h : ∀ b ∈ a, b ≠ 32) : wds [] a = [a] := by
  have := wds_app a [] [] h
  rw [List.append_nil] at this
  rw [this, List.nil_append]
  rfl
theorem ext_list (s : ByteArray) (b e : Nat) : (s.extract b e).toList = (s.toList.drop b).take (e - b) := by
  rw [ByteArray.toList_eq, ByteArray.toList_eq, ByteArray.data_extract]
  simp [List.extract_eq_drop_take']
theorem drop_byte (s : ByteArray) (i : Nat) (h : i < s.size) : s.toList.drop i = s[i] :: s.toList.drop (i + 1) := by
  rw [ByteArray.toList_eq]
  have h2 : i < s.data.toList.length := h
  rw [List.drop_eq_getElem_cons h2]
  rfl
theorem ext_snoc (s : ByteArray) (b i : Nat) (hb : b ≤ i) (h : i < s.size) : (s.extract b (i + 1)).toList = (s.extract b i).toList ++ [s[i]] := by
  rw [ext_list, ext_list, show i + 1 - b = (i - b) + 1 by omega, List.take_succ_eq_append_getElem (by rw [List.length_drop, ByteArray.toList_eq]; show i - b < s.size - b; omega)]
  congr 2
  rw [List.getElem_drop]
  have : b + (i - b) = i := by omega
  simp only [this, ByteArray.toList_eq]
  rfl
theorem ext_nil (s : ByteArray) (b : Nat) : (s.extract b b).toList = [] := by
  rw [ext_list, Nat.sub_self, List.take_zero]
theorem map_inj : ∀ {l L : List ByteArray}, l.map (·.toList) = L.map (·.toList) → l = L
  | [], [], _ => rfl
  | [], _ :: _, h => by simp at h
  | _ :: _, [], h => by simp at h
  | a :: l, b :: L, h => by
    simp only [List.map_cons, List.cons.injEq] at h
    rw [toList_inj h.1, map_inj h.2]
set_option maxHeartbeats 2000000 in
/-- The document's words of a text. -/
theorem Words_eq (s : ByteArray) (l : List ByteArray) (hl : wds [] s.toList = l.map (·.toList)) (hn : l.length ≤ 1000) (hz : s.size ≤ 1000000) (W : World) : Calls Tryz.prog 31 #[.string s] W (RNm l W) := by
  have HL := Lib.hid hl
  have hz2 : (s.size : Int) ≤ 1000000 := by omega
  clear hl
  go_enter Tryz.func31, Tryz.ntmps31
  go_wp2
  go_loopw [3, 4, 5] (fun v3 v4 v5 wr => ∃ (i b : Nat) (L : List ByteArray), v5 = .int .i64 i ∧ v4 = .int .i64 b ∧ Aside0 (Kd.R Kd.string 9 wr W.heap.size (fun _ => True) v3 L) ∧ Aside0 (Below W.heap.size W wr) ∧ Aside0 (L.length ≤ l.length) ∧ ((i ≤ s.size ∧ b ≤ i ∧ Aside0 (l.map (·.toList) = L.map (·.toList) ++ wds (s.extract b i).toList (s.toList.drop i))) ∨ (i = s.size + 1 ∧ b = s.size + 1 ∧ Aside0 (l.map (·.toList) = L.map (·.toList))))) (fun _ _ v5 _ => s.size + 1 - (intOf v5).toNat)
  case atStart => exact ⟨0, 0, [], rfl, rfl, ⟨Kd.R_nil _ _ _ _ _⟩, ⟨Below.refl _ _⟩, ⟨Nat.zero_le _⟩, .inl ⟨Nat.zero_le _, Nat.le_refl _, ⟨by rw [ext_nil, List.drop_zero, ← HL.out]; rfl⟩⟩⟩
  case round =>
    obtain ⟨i, b, L, rfl, rfl, HO, HBW, HLL, hor⟩ := hrel
    rcases hor with ⟨hi, hb, HI⟩ | ⟨rfl, rfl, HI⟩
    · by_cases hlt : i < s.size
      · have hlt2 : (i : Int) < (s.size : Int) := by omega
        have hbi : (b : Int) ≤ (i : Int) := by omega
        have hne : ((i : Int) == (s.size : Int)) = false := by rw [beq_eq_false_iff_ne]; omega
        by_cases h32 : s[i] = 32
        · have h32n : (s[i]).toNat = 32 := by rw [h32]; rfl
          have HI2 := Lib.hid (show l.map (·.toList) = (L ++ [s.extract b i]).map (·.toList) ++ wds (s.extract (i + 1) (i + 1)).toList (s.toList.drop (i + 1)) by
            rw [HI.out, drop_byte s i hlt, h32, ext_nil, List.map_append, List.append_assoc]
            rfl)
          have HLL2 := Lib.hid (show (L ++ [s.extract b i]).length ≤ l.length by
            have h_ := congrArg List.length HI2.out
            rw [List.length_append, List.length_map, List.length_map] at h_
            omega)
          clear h32
          go_wp2_with ((with_reducible refine gate_builtin (b := .append) (xs := #[.tmp 22, .tmp 27]) rfl ?_); at_builtin; refine Kd.R_append Kd.string (w0 := W) W.heap.size rfl (.tmp 22) (.tmp 27) 34 9 (.string ⟨#[]⟩) 16 rfl Tryz.underlying34 info9 rfl (by decide) (by omega) u3 L (s.extract b i) [.string (s.extract b i)] (fun _ => True) (fun _ => False) rfl rfl rfl (fun _ hk => hk.elim) (fun _ _ => trivial) HO.out HBW.out HBW.out.size (by have := HLL2.out; rw [List.length_append] at this; simp at this; omega) ?_; intro v9 w5 ho hb2 hg hat; clear hg hat)
          go_roundw
          case rel => exact ⟨i + 1, i + 1, L ++ [s.extract b i], by go_num, by go_num, ⟨ho⟩, ⟨hb2⟩, ⟨HLL2.out⟩, .inl ⟨by omega, Nat.le_refl _, ⟨HI2.out⟩⟩⟩
          case measure => simp [intOf]; omega
        · have h32n : (s[i]).toNat ≠ 32 := fun e => h32 (UInt8.toNat_inj.1 e)
          have h32b : (((s[i]).toNat : Int) == 32) = false := by rw [beq_eq_false_iff_ne]; omega
          have HI2 := Lib.hid (show l.map (·.toList) = L.map (·.toList) ++ wds (s.extract b (i + 1)).toList (s.toList.drop (i + 1)) by
            rw [HI.out, drop_byte s i hlt, ext_snoc s b i hb hlt]
            congr 1
            exact if_neg h32)
          clear h32
          go_wp2
          go_roundw
          case rel => exact ⟨i + 1, b, L, by go_num, rfl, ⟨HO.out⟩, ⟨HBW.out⟩, ⟨HLL.out⟩, .inl ⟨by omega, by omega, ⟨HI2.out⟩⟩⟩
          case measure => simp [intOf]; omega
      · have hi2 : i = s.size := by omega
        subst hi2
        have hbi : (b : Int) ≤ (s.size : Int) := by omega
        have hne : ((s.size : Int) == (s.size : Int)) = true := by simp
        have HI2 := Lib.hid (show l.map (·.toList) = (L ++ [s.extract b s.size]).map (·.toList) by
          rw [HI.out, List.drop_of_length_le (by rw [ByteArray.toList_eq]; exact Nat.le_refl _), List.map_append]
          rfl)
        have HLL2 := Lib.hid (show (L ++ [s.extract b s.size]).length ≤ l.length by
          have h_ := congrArg List.length HI2.out
          rw [List.length_map, List.length_map] at h_
          omega)
        go_wp2_with ((with_reducible refine gate_builtin (b := .append) (xs := #[.tmp 22, .tmp 27]) rfl ?_); at_builtin; refine Kd.R_append Kd.string (w0 := W) W.heap.size rfl (.tmp 22) (.tmp 27) 34 9 (.string ⟨#[]⟩) 16 rfl Tryz.underlying34 info9 rfl (by decide) (by omega) u3 L (s.extract b s.size) [.string (s.extract b s.size)] (fun _ => True) (fun _ => False) rfl rfl rfl (fun _ hk => hk.elim) (fun _ _ => trivial) HO.out HBW.out HBW.out.size (by have := HLL2.out; rw [List.length_append] at this; simp at this; omega) ?_; intro v9 w5 ho hb2 hg hat; clear hg hat)
        go_roundw
        case rel => exact ⟨s.size + 1, s.size + 1, L ++ [s.extract b s.size], by go_num, by go_num, ⟨ho⟩, ⟨hb2⟩, ⟨HLL2.out⟩, .inr ⟨rfl, rfl, ⟨HI2.out⟩⟩⟩
        case measure => simp [intOf]
    · have hgt : ¬ ((s.size : Int) + 1 ≤ (s.size : Int)) := by omega
      have HE := Lib.hid (show L = l from (map_inj HI.out).symm)
      obtain ⟨A, c, hv, hlr, hcr⟩ := Kd.R_reads HO.out
      subst hv
      have HF := Lib.hid (And.intro hlr (And.intro hcr HBW.out))
      clear hlr hcr
      rw [HE.out] at HF ⊢
      go_wp2
      go_ret
      exact ⟨A, c, rfl, HF.out.1, HF.out.2.1, HF.out.2.2⟩

/-- What digits tell. -/
def digV (s : ByteArray) : Nat → Nat
  | 0 => 0
  | k + 1 => 10 * digV s k + ((s.data.toList.getD k 0).toNat - 48)
def numOk (s : ByteArray) (n : Nat) : Bool := decide (1 ≤ s.size) && decide (s.size ≤ 2) && (s.data.toList.all fun b => decide (48 ≤ b.toNat) && decide (b.toNat ≤ 57)) && (decide (s.size ≤ 1) || !decide ((s.data.toList.getD 0 0).toNat = 48)) && decide (digV s s.size = n) && decide (s.toList = s.data.toList) && (s.data.toList.all fun b => decide (b ≠ 32))
theorem num_tell : (List.range 100).all (fun n => numOk (tellS n) n) = true := by decide +kernel
theorem digV_le (s : ByteArray) : ∀ k, digV s k + 23 ≤ 23 * 10 ^ k
  | 0 => Nat.le_refl _
  | k + 1 => by
    have h1 := digV_le s k
    have h2 := (s.data.toList.getD k 0).toNat_lt
    unfold digV
    rw [Nat.pow_succ]
    omega
theorem get_getD (s : ByteArray) (k : Nat) (h : k < s.size) : s[k] = s.data.toList.getD k 0 := by
  have h2 : k < s.data.toList.length := h
  rw [List.getD_eq_getElem?_getD, List.getElem?_eq_getElem h2]
  rfl
set_option maxHeartbeats 2000000 in
/-- A small number that was told, read again. -/
theorem Number_eq (n : Nat) (hn : n < 100) (w : World) : Calls Tryz.prog 32 #[.string (tellS n), .int .i64 9] w fun e w' => e = .returned (.int .i64 n) ∧ w' = w := by
  have hok := List.all_eq_true.1 num_tell n (List.mem_range.2 hn)
  unfold numOk at hok
  generalize tellS n = s at *
  simp only [Bool.and_eq_true, decide_eq_true_eq, Bool.or_eq_true, Bool.not_eq_true', decide_eq_false_iff_not] at hok
  obtain ⟨⟨⟨⟨⟨⟨h1, h2⟩, hd⟩, h0⟩, hv⟩, _⟩, _⟩ := hok
  have HD := Lib.hid (show ∀ k (h : k < s.size), 48 ≤ (s[k]).toNat ∧ (s[k]).toNat ≤ 57 from fun k h => by
    have := List.all_eq_true.1 hd (s.data.toList[k]'h) (List.getElem_mem _)
    exact (by simpa using this : 48 ≤ (s.data[k]'h).toNat ∧ (s.data[k]'h).toNat ≤ 57))
  have HV := Lib.hid hv
  have HG := Lib.hid (get_getD s)
  clear hd hv
  have a1 : ¬ (s.size : Int) < 1 := by omega
  have a2 : ¬ (9 : Int) < (s.size : Int) := by omega
  have h00 : (0 : Nat) < s.size := by omega
  have hz1 : (s.size : Int) ≤ 2 := by omega
  by_cases hs : 1 < s.size
  · have a3 : (1 : Int) < (s.size : Int) := by omega
    have a4 : (((s[0]).toNat : Int) == 48) = false := by
      rw [HG.out 0 h00, beq_eq_false_iff_ne]
      rcases h0 with h | h
      · omega
      · omega
    clear h0
    go_enter Tryz.func32, Tryz.ntmps32
    go_wp2
    go_loopw [5, 6] (fun v5 v6 wr => ∃ k : Nat, v6 = .int .i64 k ∧ v5 = .int .i64 (digV s k : Nat) ∧ k ≤ s.size ∧ Aside0 (wr = w)) (fun _ v6 _ => s.size - (intOf v6).toNat)
    case atStart => exact ⟨0, rfl, rfl, Nat.zero_le _, ⟨rfl⟩⟩
    case round =>
      obtain ⟨k, rfl, rfl, hk, HW⟩ := hrel
      obtain rfl := HW.out
      by_cases hlt : k < s.size
      · have hlt2 : (k : Int) < (s.size : Int) := by omega
        have hdd := HD.out k hlt
        have hdl := digV_le s k
        have hk2 : 23 * 10 ^ k ≤ 230 := by
          obtain rfl | rfl : k = 0 ∨ k = 1 := by omega
          · decide
          · decide
        have HS := Lib.hid (show (digV s (k + 1) : Int) = 10 * (digV s k : Int) + ((s[k]).toNat - 48 : Int) by
          rw [HG.out k hlt] at hdd ⊢
          show ((10 * digV s k + ((s.data.toList.getD k 0).toNat - 48) : Nat) : Int) = _
          omega)
        have b1 : ¬ ((s[k]).toNat : Int) < 48 := by omega
        have b2 : ¬ (57 : Int) < ((s[k]).toNat : Int) := by omega
        have b3 : ((s[k]).toNat : Int) - 48 ≤ 9 := by omega
        have b4 : 0 ≤ ((s[k]).toNat : Int) - 48 := by omega
        have hdm : (digV s k : Int) ≤ 230 := by omega
        have w1 : IntKind.u8.wrap (((s[k]).toNat : Int) - 48) = ((s[k]).toNat : Int) - 48 := by simp only [IntKind.wrap, IntKind.bits, IntKind.signed]; first | omega | (simp; omega)
        have w2 : IntKind.i64.wrap (10 * (digV s k : Int)) = 10 * (digV s k : Int) := by rw [IntKind.wrap_i64]; omega
        have w3 : IntKind.i64.wrap (10 * (digV s k : Int) + (((s[k]).toNat : Int) - 48)) = 10 * (digV s k : Int) + (((s[k]).toNat : Int) - 48) := by rw [IntKind.wrap_i64]; omega
        have w4 : IntKind.i64.wrap (((s[k]).toNat : Int) - 48) = ((s[k]).toNat : Int) - 48 := by rw [IntKind.wrap_i64]; omega
        clear hdd hdl hk2
        go_wp2
        go_roundw
        case rel => first | exact ⟨k + 1, by go_num, by rw [HS.out], by omega, ⟨by first | rfl | trivial⟩⟩ | exact ⟨k + 1, by go_num, by rw [HS.out], by omega⟩
        case measure => simp [intOf]; omega
      · have hk2 : k = s.size := by omega
        subst hk2
        rw [HV.out]
        go_wp2
        go_ret
        exact ⟨rfl, rfl⟩
  · have a3 : ¬ (1 : Int) < (s.size : Int) := by omega
    clear h0
    go_enter Tryz.func32, Tryz.ntmps32
    go_wp2
    go_loopw [5, 6] (fun v5 v6 wr => ∃ k : Nat, v6 = .int .i64 k ∧ v5 = .int .i64 (digV s k : Nat) ∧ k ≤ s.size ∧ Aside0 (wr = w)) (fun _ v6 _ => s.size - (intOf v6).toNat)
    case atStart => exact ⟨0, rfl, rfl, Nat.zero_le _, ⟨rfl⟩⟩
    case round =>
      obtain ⟨k, rfl, rfl, hk, HW⟩ := hrel
      obtain rfl := HW.out
      by_cases hlt : k < s.size
      · have hlt2 : (k : Int) < (s.size : Int) := by omega
        have hdd := HD.out k hlt
        have hdl := digV_le s k
        have hk2 : 23 * 10 ^ k ≤ 230 := by
          obtain rfl | rfl : k = 0 ∨ k = 1 := by omega
          · decide
          · decide
        have HS := Lib.hid (show (digV s (k + 1) : Int) = 10 * (digV s k : Int) + ((s[k]).toNat - 48 : Int) by
          rw [HG.out k hlt] at hdd ⊢
          show ((10 * digV s k + ((s.data.toList.getD k 0).toNat - 48) : Nat) : Int) = _
          omega)
        have b1 : ¬ ((s[k]).toNat : Int) < 48 := by omega
        have b2 : ¬ (57 : Int) < ((s[k]).toNat : Int) := by omega
        have b3 : ((s[k]).toNat : Int) - 48 ≤ 9 := by omega
        have b4 : 0 ≤ ((s[k]).toNat : Int) - 48 := by omega
        have hdm : (digV s k : Int) ≤ 230 := by omega
        have w1 : IntKind.u8.wrap (((s[k]).toNat : Int) - 48) = ((s[k]).toNat : Int) - 48 := by simp only [IntKind.wrap, IntKind.bits, IntKind.signed]; first | omega | (simp; omega)
        have w2 : IntKind.i64.wrap (10 * (digV s k : Int)) = 10 * (digV s k : Int) := by rw [IntKind.wrap_i64]; omega
        have w3 : IntKind.i64.wrap (10 * (digV s k : Int) + (((s[k]).toNat : Int) - 48)) = 10 * (digV s k : Int) + (((s[k]).toNat : Int) - 48) := by rw [IntKind.wrap_i64]; omega
        have w4 : IntKind.i64.wrap (((s[k]).toNat : Int) - 48) = ((s[k]).toNat : Int) - 48 := by rw [IntKind.wrap_i64]; omega
        clear hdd hdl hk2
        go_wp2
        go_roundw
        case rel => first | exact ⟨k + 1, by go_num, by rw [HS.out], by omega, ⟨by first | rfl | trivial⟩⟩ | exact ⟨k + 1, by go_num, by rw [HS.out], by omega⟩
        case measure => simp [intOf]; omega
      · have hk2 : k = s.size := by omega
        subst hk2
        rw [HV.out]
        go_wp2
        go_ret
        exact ⟨rfl, rfl⟩

/-- It answers a list of numbers. -/
def RIn (l : List Int) (W : World) (e : Ending) (w' : World) : Prop := ∃ (A : Option Addr) (c : Nat), e = .returned (.slice A l.length c) ∧ l.length ≤ c ∧ Kd.C (Kd.int .i64) w' A l.length l ∧ Below W.heap.size W w' ∧ ∀ ad, A = some ad → W.heap.size ≤ ad.block
set_option maxHeartbeats 2000000 in
/-- The last four numbers of a line. -/
theorem Sums_eq (s : ByteArray) (pre : List ByteArray) (ns : List Nat) (h4 : ns.length = 4) (h9 : ∀ n ∈ ns, n < 100) (hw : wds [] s.toList = (pre ++ ns.map tellS).map (·.toList)) (hp : 1 ≤ pre.length) (hp2 : pre.length ≤ 100) (hz : s.size ≤ 1000000) (W : World) :
    Calls Tryz.prog 13 #[.string s] W (RIn (ns.map (fun n : Nat => (n : Int))) W) := by
  have HLE := Lib.hid (show (pre ++ ns.map tellS).length = pre.length + 4 by rw [List.length_append, List.length_map, h4])
  have HC := Lib.hid (Words_eq s (pre ++ ns.map tellS) hw (by rw [HLE.out]; omega) hz W)
  have HAT := Lib.hid (show ∀ i (h : i < 4), rdOf ByteArray.empty (pre ++ ns.map tellS) ((pre.length + i : Nat) : Int) = tellS (ns[i]'(by omega)) from fun i h => by
    unfold rdOf
    rw [Int.toNat_natCast, List.getD_eq_getElem?_getD, List.getElem?_append_right (by omega), Nat.add_sub_cancel_left, List.getElem?_map, List.getElem?_eq_getElem (by omega)]
    rfl)
  have H9 := Lib.hid h9
  clear hw h9
  go_enter Tryz.func13, Tryz.ntmps13
  go_wp2_with fail
  refine HC.out.mono ?_
  rintro e w2 ⟨A, c, rfl, hlc, hCw, hb⟩
  rw [HLE.out]
  generalize pre ++ ns.map tellS = ws at *
  have HCW := Lib.hid hCw
  have HB2 := Lib.hid hb
  clear hlc hCw hb
  go_wp2
  go_loopw [4, 5] (fun v4 v5 wr => ∃ i : Nat, v5 = .int .i64 i ∧ i ≤ 4 ∧ Aside0 (Kd.R (Kd.int .i64) 3 wr w2.heap.size (fun _ => True) v4 ((ns.take i).map (fun n : Nat => (n : Int)))) ∧ Aside0 (Below w2.heap.size w2 wr)) (fun _ v5 _ => 4 - (intOf v5).toNat)
  case atStart => exact ⟨0, rfl, Nat.zero_le _, ⟨Kd.R_nil _ _ _ _ _⟩, ⟨Below.refl _ _⟩⟩
  case round =>
    obtain ⟨i, rfl, hi, HO, HBW⟩ := hrel
    have hwl : (5 : Int) ≤ (pre.length : Int) + 4 := by omega
    have hwn : IntKind.i64.wrap ((pre.length : Int) + 4 - 4) = (pre.length : Int) := by rw [IntKind.wrap_i64]; omega
    by_cases hlt : i < 4
    · have hlt2 : (i : Int) < 4 := by omega
      obtain ⟨adw, e, hc0⟩ := Kd.at_string (Kd.C_below HCW.out HBW.out) ((pre.length + i : Nat) : Int) (by omega) (by have := HLE.out; omega)
      subst e
      rw [HAT.out i hlt, Int.toNat_natCast] at hc0
      have HTK := Lib.hid (show (ns.take (i + 1)).map (fun n : Nat => (n : Int)) = (ns.take i).map (fun n : Nat => (n : Int)) ++ [((ns[i]'(by omega) : Nat) : Int)] by rw [List.take_succ_eq_append_getElem (by omega), List.map_append]; rfl)
      have hy := H9.out (ns[i]'(by omega)) (List.getElem_mem _)
      generalize ns[i]'(by omega) = y at *
      have HNU := fun w => Lib.hid (Number_eq y hy w)
      generalize tellS y = t at *
      have kw1 : IntKind.i64.wrap ((pre.length : Int) + (i : Int)) = (pre.length : Int) + (i : Int) := by rw [IntKind.wrap_i64]; omega
      have kw2 : ((pre.length : Int) + (i : Int)).toNat = pre.length + i := by omega
      have kw3 : (0 : Int) ≤ (pre.length : Int) + (i : Int) := by omega
      have kw4 : (pre.length : Int) + (i : Int) < (pre.length : Int) + 4 := by omega
      go_wp2_with (first | (go_at_call 32; refine (HNU _).out.mono ?_; rintro e w4 ⟨rfl, rfl⟩) | ((with_reducible refine gate_builtin (b := .append) (xs := #[.tmp 17, .tmp 27]) rfl ?_); at_builtin; refine Kd.R_append (Kd.int .i64) (w0 := w2) w2.heap.size rfl (.tmp 17) (.tmp 27) 29 3 (.int .i64 0) 8 rfl Tryz.underlying29 info3 rfl (by decide) (by omega) u4 ((ns.take i).map (fun n : Nat => (n : Int))) (y : Int) [.int .i64 (y : Int)] (fun _ => True) (fun _ => False) rfl rfl rfl (fun _ hk => hk.elim) (fun _ _ => trivial) HO.out HBW.out HBW.out.size (by rw [List.length_map, List.length_take]; omega) ?_; intro v9 w5 ho hb2 hg hat; clear hg hat))
      go_roundw
      case rel => exact ⟨i + 1, by go_num, by omega, ⟨by rw [HTK.out]; exact ho⟩, ⟨hb2⟩⟩
      case measure => simp [intOf]; omega
    · have hi2 : i = 4 := by omega
      subst hi2
      rw [List.take_of_length_le (by omega)] at HO
      obtain ⟨A6, c6, hv, hlr, hcr⟩ := Kd.R_reads HO.out
      have hbs := Kd.R_base HO.out
      subst hv
      have HF := Lib.hid (And.intro hlr (And.intro hcr (And.intro (below_tr HB2.out HBW.out) (show ∀ ad, A6 = some ad → W.heap.size ≤ ad.block from fun ad e_ => Nat.le_trans HB2.out.size (hbs ad.block (by rw [e_]; rfl))))))
      clear hbs
      clear hlr hcr
      go_wp2
      go_ret
      exact ⟨A6, c6, rfl, HF.out.1, HF.out.2.1, HF.out.2.2⟩
end Go.Proofs.YtafigkikblpbnaaGreatDoor.PG
namespace Go.Proofs.YtafigkikblpbnaaGreatDoor.PG
open Go.RowKit Go.Proofs.YtafigkikblpbnaaGreatDoorW.PrintWords Go.Proofs.YtafigkikblpbnaaGreatDoorW.PrintLast Go.Proofs.YtafigkikblpbnaaGreatDoorW.PrintMore
set_option linter.unusedVariables false
set_option linter.unusedSimpArgs false
set_option maxRecDepth 100000
theorem tab14_6 : rtab .any (opsOf Tryz.f14 6) = (true, [([], []), ([], []), ([0, 1], [0, 1]), ([2], [2]), ([], []), ([], []), ([4, 5], [4, 5]), ([6], [6]), ([3, 7], [3, 7])]) := by kernel_rfl

/-- Two lists of numbers that are the same: it answers true. -/
theorem SameInts_eq (xs : List Int) (A B : Option Addr) (ca cb : Nat) (W : World) (hA : Kd.C (Kd.int .i64) W A xs.length xs) (hB : Kd.C (Kd.int .i64) W B xs.length xs) :
    Calls Tryz.prog 14 #[.slice A xs.length ca, .slice B xs.length cb] W fun e w' => e = .returned (.bool true) ∧ Below W.heap.size W w' := by
  have HA := Lib.hid hA
  have HB := Lib.hid hB
  have hm : xs.length ≤ 9223372036854775807 := hA.2.1
  clear hA hB
  go_enter Tryz.func14, Tryz.ntmps14
  go_wp2
  go_loopw [5] (fun v5 wr => ∃ k : Nat, v5 = .int .i64 k ∧ k ≤ xs.length ∧ Aside0 (Below W.heap.size W wr)) (fun v5 _ => xs.length - (intOf v5).toNat)
  case atStart => exact ⟨0, rfl, Nat.zero_le _, ⟨Below.refl _ _⟩⟩
  case round =>
    obtain ⟨k, rfl, hk, HW⟩ := hrel
    by_cases hlt : k < xs.length
    · have hlt2 : (k : Int) < (xs.length : Int) := by omega
      obtain ⟨ada, e, g0⟩ := Kd.at_int (Kd.C_below HA.out HW.out) (k : Int) (by omega) (by omega)
      obtain ⟨adb, e2, h0⟩ := Kd.at_int (Kd.C_below HB.out HW.out) (k : Int) (by omega) (by omega)
      subst e
      subst e2
      simp only [Int.toNat_natCast] at g0 h0
      generalize rd xs (k : Int) = y at *
      go_wp2_with fail
      refine WL.start (n := 9) (S := fun w' => w'.cell? (ada.add k) = some (.int .i64 y) ∧ w'.cell? (adb.add k) = some (.int .i64 y)) (ds := []) [false, false, false, false, false, false, false, false, false] (by kernel_rfl) rfl rfl ⟨g0, h0⟩ (fun hHeld => ?_)
      refine WL.tab tab14_6 (fun HT_ => ?_)
      refine WL.more [0, 1, 2, 4, 5, 6, 3, 7, 8] ?_
      repeat (first
        | (refine WL.off (lb' := ?_) (ys := ?_) rfl rfl (by rfl) ?_ HT_.out ?_ (fun _ _ _ h => h) ?_ ?_; rotate_left 2; (focus dsimp only [List.set_cons_zero, List.set_cons_succ]; rfl); (focus kernel_rfl); (focus dsimp only [List.set_cons_zero, List.set_cons_succ]; rfl))
        | (refine WL.pure (lb' := ?_) (v := ?_) (ys := ?_) rfl rfl (by rfl) ?_ HT_.out ?_ (fun _ _ _ h => h) ?_ ?_ ?_; rotate_left 3; (focus dsimp only [List.set_cons_zero, List.set_cons_succ]; rfl); (focus kernel_rfl); (focus intro w'; go_simp; with_reducible rfl); (focus dsimp only [List.set_cons_zero, List.set_cons_succ]; rfl))
        | (refine WL.take (lb' := ?_) (v := ?_) (ys := ?_) rfl rfl (by rfl) ?_ HT_.out ?_ (fun _ _ _ h => h) hHeld ?_ ?_ ?_; rotate_left 3; (focus dsimp only [List.set_cons_zero, List.set_cons_succ]; rfl); (focus kernel_rfl); (focus rintro w' ⟨s0, s1⟩; go_simp; with_reducible rfl); (focus dsimp only [List.set_cons_zero, List.set_cons_succ]; rfl)))
      refine WL.done HT_.out (by kernel_rfl) ?_
      clear hHeld g0 h0
      go_wp2
      go_roundw
      case rel => exact ⟨k + 1, by go_num, by omega, ⟨below_drew HW.out⟩⟩
      case measure => simp [intOf]; omega
    · have hk2 : k = xs.length := by omega
      subst hk2
      have hq : ¬ (xs.length : Int) < (xs.length : Int) := by omega
      go_wp2
      go_ret
      exact ⟨rfl, HW.out⟩
theorem toL_app (a b : ByteArray) : (a ++ b).toList = a.toList ++ b.toList := by
  rw [ByteArray.toList_eq, ByteArray.toList_eq, ByteArray.toList_eq, ByteArray.data_append, Array.toList_append]
theorem tellS_free {n : Nat} (hn : n < 100) : ∀ b ∈ (tellS n).toList, b ≠ 32 := by
  have hok := List.all_eq_true.1 num_tell n (List.mem_range.2 hn)
  unfold numOk at hok
  simp only [Bool.and_eq_true, decide_eq_true_eq] at hok
  intro b hb
  rw [hok.1.2] at hb
  simpa using List.all_eq_true.1 hok.2 b hb
theorem name_free {s : ByteArray} (h : nmOk s = true) : ∀ b ∈ s.toList, b ≠ 32 := by
  have hp := @of_decide_eq_true _ (Classical.propDecidable _) h
  intro b hb e
  rw [ByteArray.toList_eq] at hb
  obtain ⟨i, hi, rfl⟩ := List.mem_iff_getElem.1 hb
  have hk := hp.2.2 i hi
  have : (s[i]'hi).toNat = 32 := by
    show ((s.data.toList[i]'hi)).toNat = 32
    rw [e]; rfl
  rw [this] at hk
  unfold okC at hk
  omega
/-- The four numbers. -/
def stv (f : Int → Nat) : List Nat := [f 1, f 2, f 3, f 4]
theorem sp_list : (⟨#[32]⟩ : ByteArray).toList = [32] := by rw [ByteArray.toList_eq]
theorem tx4_wds {f : Int → Nat} (h : ∀ j, f j < 100) : wds [] (tx4 f).toList = ((stv f).map tellS).map (·.toList) := by
  unfold tx4
  simp only [toL_app, sp_list, List.append_assoc, List.singleton_append, List.cons_append, List.nil_append]
  rw [wds_cut _ _ (tellS_free (h 1)), wds_cut _ _ (tellS_free (h 2)), wds_cut _ _ (tellS_free (h 3)), wds_end _ (tellS_free (h 4))]
  rfl
theorem lnC_wds (s : S31) {c : ByteArray} (hc : nmOk c = true) (h : ∀ j, stN (cls false c) s.f5 j < 100) : wds [] (lnC s c).toList = ([(⟨#[99, 108, 97, 115, 115]⟩ : ByteArray), c] ++ (stv (stN (cls false c) s.f5)).map tellS).map (·.toList) := by
  unfold lnC
  rw [show (⟨#[99, 108, 97, 115, 115, 32]⟩ : ByteArray) = (⟨#[99, 108, 97, 115, 115]⟩ : ByteArray) ++ ⟨#[32]⟩ from rfl]
  simp only [toL_app, sp_list, List.append_assoc, List.singleton_append, List.cons_append, List.nil_append]
  rw [wds_cut _ _ (by rw [ByteArray.toList_eq]; decide), wds_cut _ _ (name_free hc), tx4_wds h]
  rfl
theorem all_wds {f : Int → Nat} (h : ∀ j, f j < 100) : wds [] ((⟨#[97, 108, 108, 32]⟩ : ByteArray) ++ tx4 f).toList = ([(⟨#[97, 108, 108]⟩ : ByteArray)] ++ (stv f).map tellS).map (·.toList) := by
  rw [show (⟨#[97, 108, 108, 32]⟩ : ByteArray) = (⟨#[97, 108, 108]⟩ : ByteArray) ++ ⟨#[32]⟩ from rfl]
  simp only [toL_app, sp_list, List.append_assoc, List.singleton_append, List.cons_append, List.nil_append]
  rw [wds_cut _ _ (by rw [ByteArray.toList_eq]; decide), tx4_wds h]
  rfl
theorem nms_nodup (s : S31) : ∀ n, (nms s n).Nodup
  | 0 => List.nodup_nil
  | n + 1 => by
    by_cases h : (rd_T48 s.f5 (n : Int)).f3 ∈ nms s n
    · rw [nms_old h]; exact nms_nodup s n
    · rw [nms_new h]
      exact List.nodup_append.2 ⟨nms_nodup s n, by simp, fun a ha b hb e => h (by rw [List.mem_singleton] at hb; rw [← hb, ← e]; exact ha)⟩
theorem sum_bump {l : List ByteArray} (hn : l.Nodup) (f g : ByteArray → Nat) (c : ByteArray) (d : Nat) (hc : c ∈ l) (h1 : g c = f c + d) (h2 : ∀ x ∈ l, x ≠ c → g x = f x) : (l.map g).sum = (l.map f).sum + d := by
  induction l with
  | nil => exact absurd hc List.not_mem_nil
  | cons a l ih =>
    rw [List.nodup_cons] at hn
    rw [List.map_cons, List.map_cons, List.sum_cons, List.sum_cons]
    rcases List.mem_cons.1 hc with rfl | hc'
    · rw [h1, show l.map g = l.map f from List.map_congr_left (fun x hx => h2 x (List.mem_cons.2 (.inr hx)) (fun e => hn.1 (e ▸ hx)))]
      omega
    · rw [h2 a (List.mem_cons.2 (.inl rfl)) (fun e => hn.1 (e ▸ hc')), ih hn.2 hc' (fun x hx hne => h2 x (List.mem_cons.2 (.inr hx)) hne)]
      omega
/-- The classes' numbers together are those of all. -/
theorem sum_nms (s : S31) (j : Int) : ∀ k, k ≤ s.f5.length → ((nms s k).map fun c => stN (cls false c) (s.f5.take k) j).sum = stN (cls true ⟨#[]⟩) (s.f5.take k) j
  | 0, _ => by simp [stN, nms]
  | k + 1, hk => by
    have ih := sum_nms s j k (by omega)
    have hb : stN (cls true ⟨#[]⟩) (s.f5.take (k + 1)) j = stN (cls true ⟨#[]⟩) (s.f5.take k) j + (if j = (rd_T48 s.f5 (k : Int)).f5 then 1 else 0) := by rw [stN_all s k hk]; rfl
    have ho : stN (cls false (rd_T48 s.f5 (k : Int)).f3) (s.f5.take (k + 1)) j = stN (cls false (rd_T48 s.f5 (k : Int)).f3) (s.f5.take k) j + (if j = (rd_T48 s.f5 (k : Int)).f5 then 1 else 0) := by rw [stN_own s k hk]; rfl
    rw [hb, ← ih]
    by_cases h : (rd_T48 s.f5 (k : Int)).f3 ∈ nms s k
    · rw [nms_old h]
      exact sum_bump (nms_nodup s k) _ _ _ _ h ho (fun x _ hne => by rw [stN_other s k hk x (Ne.symm hne)])
    · rw [nms_new h, List.map_append, List.sum_append]
      have h1 : (nms s k).map (fun c => stN (cls false c) (s.f5.take (k + 1)) j) = (nms s k).map (fun c => stN (cls false c) (s.f5.take k) j) := List.map_congr_left (fun x hx => by rw [stN_other s k hk x (fun e => h (e ▸ hx))])
      rw [h1]
      have h2 : stN (cls false (rd_T48 s.f5 (k : Int)).f3) (s.f5.take k) j = 0 := by rw [stN_fresh s k (by omega) _ h]
      simp only [List.map_cons, List.map_nil, List.sum_cons, List.sum_nil]
      rw [ho, h2]
      omega
theorem sum_ord (s : S31) (j : Int) : ((ordN (nms s s.f5.length)).map fun c => stN (cls false c) s.f5 j).sum = stN (cls true ⟨#[]⟩) s.f5 j := by
  have h := sum_nms s j s.f5.length (Nat.le_refl _)
  rw [List.take_length] at h
  rw [← h]
  exact List.Perm.sum_nat ((ordN_perm _).map _)
theorem sum_all (s : S31) (hst : ∀ k : Nat, k < s.f5.length → 1 ≤ (rd_T48 s.f5 (k : Int)).f5 ∧ (rd_T48 s.f5 (k : Int)).f5 ≤ 4) : ∀ k, k ≤ s.f5.length → stN (cls true ⟨#[]⟩) (s.f5.take k) 1 + stN (cls true ⟨#[]⟩) (s.f5.take k) 2 + stN (cls true ⟨#[]⟩) (s.f5.take k) 3 + stN (cls true ⟨#[]⟩) (s.f5.take k) 4 = k
  | 0, _ => by simp [stN]
  | k + 1, hk => by
    have ih := sum_all s hst k (by omega)
    have h := hst k hk
    rw [stN_all s k hk]
    unfold bump
    obtain e | e | e | e : (rd_T48 s.f5 (k : Int)).f5 = 1 ∨ (rd_T48 s.f5 (k : Int)).f5 = 2 ∨ (rd_T48 s.f5 (k : Int)).f5 = 3 ∨ (rd_T48 s.f5 (k : Int)).f5 = 4 := by omega
    all_goals
      rw [e]
      simp
      omega
/-- Four numbers, of which so many have been added to. -/
def mixL (a b : Nat → Nat) (k : Nat) : List Int := (List.range 4).map fun j => ((if j < k then a j + b j else a j : Nat) : Int)
theorem mixL_len (a b : Nat → Nat) (k : Nat) : (mixL a b k).length = 4 := by simp [mixL]
theorem mixL_at (a b : Nat → Nat) (k : Nat) (hk : k < 4) : rdOf 0 (mixL a b k) (k : Int) = (a k : Int) := by
  unfold rdOf mixL
  rw [Int.toNat_natCast, List.getD_eq_getElem?_getD, List.getElem?_map, List.getElem?_range hk]
  simp
theorem mixL_set (a b : Nat → Nat) (k : Nat) (hk : k < 4) : (mixL a b k).set k ((a k : Int) + (b k : Int)) = mixL a b (k + 1) := by
  apply List.ext_getElem (by simp [mixL])
  intro i h1 h2
  rw [List.getElem_set]
  simp only [mixL, List.getElem_map, List.getElem_range]
  by_cases e : k = i
  · subst e
    rw [if_pos rfl, if_pos (by omega)]
    omega
  · rw [if_neg e]
    by_cases c : i < k
    · rw [if_pos c, if_pos (by omega)]
    · rw [if_neg c, if_neg (by omega)]
theorem mixL_next (a b : Nat → Nat) (a' : Nat → Nat) (h : ∀ j, j < 4 → a' j = a j + b j) (b' : Nat → Nat) : mixL a b 4 = mixL a' b' 0 := by
  unfold mixL
  refine List.map_congr_left (fun j hj => ?_)
  rw [List.mem_range] at hj
  rw [if_pos hj, if_neg (Nat.not_lt_zero _), h j hj]
end Go.Proofs.YtafigkikblpbnaaGreatDoor.PG
namespace Go.Proofs.YtafigkikblpbnaaGreatDoor.PG
open Go.RowKit Go.Proofs.YtafigkikblpbnaaGreatDoorW.PrintWords Go.Proofs.YtafigkikblpbnaaGreatDoorW.PrintLast Go.Proofs.YtafigkikblpbnaaGreatDoorW.PrintMore
set_option linter.unusedVariables false
set_option linter.unusedSimpArgs false
set_option maxRecDepth 100000
theorem tab4_16 : rtab .any (opsOf Tryz.f4 16) = (true, [([], []), ([], []), ([], []), ([], []), ([2, 3], [2, 3]), ([4], [4]), ([], []), ([], []), ([6, 7], [6, 7]), ([8], [8]), ([5, 9], [5, 9]), ([0, 1, 0, 1, 2, 3, 4, 5, 6, 7, 8, 9, 10], [0, 1]), ([11, 10, 0, 1, 2, 3, 4, 5, 6, 7, 8, 9, 10], [10, 11])]) := by kernel_rfl
theorem tab4_17 : rtab .any (opsOf Tryz.f4 17) = (true, [([], []), ([], []), ([1], [1]), ([2], [2]), ([0, 3], [0, 3]), ([4], [4]), ([5], [5]), ([], []), ([6, 7, 6], [6, 7]), ([8, 8], [8]), ([9], [9]), ([10, 9], [9, 10]), ([11, 9], [9, 11]), ([9], [9]), ([13, 9], [9, 13]), ([14, 9], [9, 14]), ([12, 15, 9], [9, 12, 15]), ([9], [9]), ([17, 9], [9, 17]), ([18, 9], [9, 18]), ([16, 19, 9], [9, 16, 19]), ([9], [9]), ([21, 9], [9, 21]), ([22, 9], [9, 22]), ([20, 23, 9], [9, 20, 23]), ([9], [9]), ([25, 9], [9, 25]), ([26, 9], [9, 26]), ([24, 27, 9], [9, 24, 27]), ([9, 28], [9, 28]), ([29, 9], [29]), ([30, 30], [30]), ([30, 31], [30, 31]), ([32, 31, 0, 1, 2, 3, 4, 5, 6, 7, 8, 9, 10, 11, 12, 13, 14, 15, 16, 17, 18, 19, 20, 21, 22, 23, 24, 25, 26, 27, 28, 29, 30, 31, 32], [32])]) := by kernel_rfl

theorem cellsM (a b : Nat → Nat) : mixL a b 0 = [(a 0 : Int), (a 1 : Int), (a 2 : Int), (a 3 : Int)] := by simp [mixL, List.range_succ_eq_map]
/-- Some classes' numbers. -/
def ac (s : S31) (L : List ByteArray) (j : Nat) : Nat := (L.map fun c => stN (cls false c) s.f5 ((j : Int) + 1)).sum
theorem ac_le (s : S31) (h : ∀ c j, stN (cls false c) s.f5 j ≤ 99) (j : Nat) : ∀ L : List ByteArray, ac s L j ≤ L.length * 99
  | [] => Nat.le_refl _
  | c :: L => by
    have h1 := ac_le s h j L
    have h2 := h c ((j : Int) + 1)
    unfold ac at *
    rw [List.map_cons, List.sum_cons, List.length_cons]
    omega
set_option maxHeartbeats 8000000 in
/-- The law ReportSums answers true. -/
theorem sums_any (s : S31) (A2 A3 A4 A5 A6 A7 A8 : Option Addr) (c2 c3 c4 c5 c6 c7 c8 : Nat) (W : World) (hs : Rs W s A2 A3 A4 A5 A6 A7 A8 c2 c3 c4 c5 c6 c7 c8) (hz : Zs s) : Calls Tryz.prog 4 #[.agg #[.int .i64 s.f0, .int .u64 s.f1, .slice A2 s.f2.length c2, .slice A3 s.f3.length c3, .slice A4 s.f4.length c4, .slice A5 s.f5.length c5, .slice A6 s.f6.length c6, .slice A7 s.f7.length c7, .slice A8 s.f8.length c8, .int .i64 s.f9]] W fun e w' => e = .returned (.bool true) ∧ Below W.heap.size W w' := by
  have HB1 := Lib.hid (show Below W.heap.size W (W.alloc (.cells #[.int .i64 s.f0, .int .u64 s.f1, .slice A2 s.f2.length c2, .slice A3 s.f3.length c3, .slice A4 s.f4.length c4, .slice A5 s.f5.length c5, .slice A6 s.f6.length c6, .slice A7 s.f7.length c7, .slice A8 s.f8.length c8, .int .i64 s.f9] 31 (0, 0))) from below_alloc (Below.refl _ _) _)
  have HY1 := Lib.hid (new_blk W (.cells #[.int .i64 s.f0, .int .u64 s.f1, .slice A2 s.f2.length c2, .slice A3 s.f3.length c3, .slice A4 s.f4.length c4, .slice A5 s.f5.length c5, .slice A6 s.f6.length c6, .slice A7 s.f7.length c7, .slice A8 s.f8.length c8, .int .i64 s.f9] 31 (0, 0)))
  have HS1 := Lib.hid (hs.below HB1.out)
  have HSM := Lib.hid (small_any s A2 A3 A4 A5 A6 A7 A8 c2 c3 c4 c5 c6 c7 c8 _ HS1.out hz)
  have HZ := Lib.hid hz
  clear hs hz
  generalize hw1 : W.alloc (.cells #[.int .i64 s.f0, .int .u64 s.f1, .slice A2 s.f2.length c2, .slice A3 s.f3.length c3, .slice A4 s.f4.length c4, .slice A5 s.f5.length c5, .slice A6 s.f6.length c6, .slice A7 s.f7.length c7, .slice A8 s.f8.length c8, .int .i64 s.f9] 31 (0, 0)) = w1 at *
  have HW := Lib.hid hw1
  clear hw1
  have q0 : (W.alloc (.cells #[.int .i64 s.f0, .int .u64 s.f1, .slice A2 s.f2.length c2, .slice A3 s.f3.length c3, .slice A4 s.f4.length c4, .slice A5 s.f5.length c5, .slice A6 s.f6.length c6, .slice A7 s.f7.length c7, .slice A8 s.f8.length c8, .int .i64 s.f9] 31 (0, 0))).cell? ⟨W.heap.size, 0, none⟩ = some (.int .i64 s.f0) := by rw [HW.out]; exact (blk_cell HY1.out 0).trans rfl
  have q1 : (W.alloc (.cells #[.int .i64 s.f0, .int .u64 s.f1, .slice A2 s.f2.length c2, .slice A3 s.f3.length c3, .slice A4 s.f4.length c4, .slice A5 s.f5.length c5, .slice A6 s.f6.length c6, .slice A7 s.f7.length c7, .slice A8 s.f8.length c8, .int .i64 s.f9] 31 (0, 0))).cell? ⟨W.heap.size, 1, none⟩ = some (.int .u64 s.f1) := by rw [HW.out]; exact (blk_cell HY1.out 1).trans rfl
  have q2 : (W.alloc (.cells #[.int .i64 s.f0, .int .u64 s.f1, .slice A2 s.f2.length c2, .slice A3 s.f3.length c3, .slice A4 s.f4.length c4, .slice A5 s.f5.length c5, .slice A6 s.f6.length c6, .slice A7 s.f7.length c7, .slice A8 s.f8.length c8, .int .i64 s.f9] 31 (0, 0))).cell? ⟨W.heap.size, 2, none⟩ = some (.slice A2 s.f2.length c2) := by rw [HW.out]; exact (blk_cell HY1.out 2).trans rfl
  have q3 : (W.alloc (.cells #[.int .i64 s.f0, .int .u64 s.f1, .slice A2 s.f2.length c2, .slice A3 s.f3.length c3, .slice A4 s.f4.length c4, .slice A5 s.f5.length c5, .slice A6 s.f6.length c6, .slice A7 s.f7.length c7, .slice A8 s.f8.length c8, .int .i64 s.f9] 31 (0, 0))).cell? ⟨W.heap.size, 3, none⟩ = some (.slice A3 s.f3.length c3) := by rw [HW.out]; exact (blk_cell HY1.out 3).trans rfl
  have q4 : (W.alloc (.cells #[.int .i64 s.f0, .int .u64 s.f1, .slice A2 s.f2.length c2, .slice A3 s.f3.length c3, .slice A4 s.f4.length c4, .slice A5 s.f5.length c5, .slice A6 s.f6.length c6, .slice A7 s.f7.length c7, .slice A8 s.f8.length c8, .int .i64 s.f9] 31 (0, 0))).cell? ⟨W.heap.size, 4, none⟩ = some (.slice A4 s.f4.length c4) := by rw [HW.out]; exact (blk_cell HY1.out 4).trans rfl
  have q5 : (W.alloc (.cells #[.int .i64 s.f0, .int .u64 s.f1, .slice A2 s.f2.length c2, .slice A3 s.f3.length c3, .slice A4 s.f4.length c4, .slice A5 s.f5.length c5, .slice A6 s.f6.length c6, .slice A7 s.f7.length c7, .slice A8 s.f8.length c8, .int .i64 s.f9] 31 (0, 0))).cell? ⟨W.heap.size, 5, none⟩ = some (.slice A5 s.f5.length c5) := by rw [HW.out]; exact (blk_cell HY1.out 5).trans rfl
  have q6 : (W.alloc (.cells #[.int .i64 s.f0, .int .u64 s.f1, .slice A2 s.f2.length c2, .slice A3 s.f3.length c3, .slice A4 s.f4.length c4, .slice A5 s.f5.length c5, .slice A6 s.f6.length c6, .slice A7 s.f7.length c7, .slice A8 s.f8.length c8, .int .i64 s.f9] 31 (0, 0))).cell? ⟨W.heap.size, 6, none⟩ = some (.slice A6 s.f6.length c6) := by rw [HW.out]; exact (blk_cell HY1.out 6).trans rfl
  have q7 : (W.alloc (.cells #[.int .i64 s.f0, .int .u64 s.f1, .slice A2 s.f2.length c2, .slice A3 s.f3.length c3, .slice A4 s.f4.length c4, .slice A5 s.f5.length c5, .slice A6 s.f6.length c6, .slice A7 s.f7.length c7, .slice A8 s.f8.length c8, .int .i64 s.f9] 31 (0, 0))).cell? ⟨W.heap.size, 7, none⟩ = some (.slice A7 s.f7.length c7) := by rw [HW.out]; exact (blk_cell HY1.out 7).trans rfl
  have q8 : (W.alloc (.cells #[.int .i64 s.f0, .int .u64 s.f1, .slice A2 s.f2.length c2, .slice A3 s.f3.length c3, .slice A4 s.f4.length c4, .slice A5 s.f5.length c5, .slice A6 s.f6.length c6, .slice A7 s.f7.length c7, .slice A8 s.f8.length c8, .int .i64 s.f9] 31 (0, 0))).cell? ⟨W.heap.size, 8, none⟩ = some (.slice A8 s.f8.length c8) := by rw [HW.out]; exact (blk_cell HY1.out 8).trans rfl
  have q9 : (W.alloc (.cells #[.int .i64 s.f0, .int .u64 s.f1, .slice A2 s.f2.length c2, .slice A3 s.f3.length c3, .slice A4 s.f4.length c4, .slice A5 s.f5.length c5, .slice A6 s.f6.length c6, .slice A7 s.f7.length c7, .slice A8 s.f8.length c8, .int .i64 s.f9] 31 (0, 0))).cell? ⟨W.heap.size, 9, none⟩ = some (.int .i64 s.f9) := by rw [HW.out]; exact (blk_cell HY1.out 9).trans rfl
  go_enter Tryz.func4, Tryz.ntmps4
  go_wp2_with fail
  rw [HW.out]
  clear HW q0 q1 q2 q3 q4 q5 q6 q7 q8 q9
  refine HSM.out.mono ?_
  rintro e w2 ⟨b, rfl, hf, hb⟩
  have HB2 := Lib.hid (below_tr HB1.out hb)
  have HY2 := Lib.hid ((hb.block W.heap.size (blk_lt HY1.out)).trans HY1.out)
  have HS2 := Lib.hid (HS1.out.below hb)
  have q0 : (w2).cell? ⟨W.heap.size, 0, none⟩ = some (.int .i64 s.f0) := (blk_cell HY2.out 0).trans rfl
  have q1 : (w2).cell? ⟨W.heap.size, 1, none⟩ = some (.int .u64 s.f1) := (blk_cell HY2.out 1).trans rfl
  have q2 : (w2).cell? ⟨W.heap.size, 2, none⟩ = some (.slice A2 s.f2.length c2) := (blk_cell HY2.out 2).trans rfl
  have q3 : (w2).cell? ⟨W.heap.size, 3, none⟩ = some (.slice A3 s.f3.length c3) := (blk_cell HY2.out 3).trans rfl
  have q4 : (w2).cell? ⟨W.heap.size, 4, none⟩ = some (.slice A4 s.f4.length c4) := (blk_cell HY2.out 4).trans rfl
  have q5 : (w2).cell? ⟨W.heap.size, 5, none⟩ = some (.slice A5 s.f5.length c5) := (blk_cell HY2.out 5).trans rfl
  have q6 : (w2).cell? ⟨W.heap.size, 6, none⟩ = some (.slice A6 s.f6.length c6) := (blk_cell HY2.out 6).trans rfl
  have q7 : (w2).cell? ⟨W.heap.size, 7, none⟩ = some (.slice A7 s.f7.length c7) := (blk_cell HY2.out 7).trans rfl
  have q8 : (w2).cell? ⟨W.heap.size, 8, none⟩ = some (.slice A8 s.f8.length c8) := (blk_cell HY2.out 8).trans rfl
  have q9 : (w2).cell? ⟨W.heap.size, 9, none⟩ = some (.int .i64 s.f9) := (blk_cell HY2.out 9).trans rfl
  clear hb
  cases b
  · have HXX := HB2
    go_wp2_with fail
    refine (live_eq w2).mono ?_
    rintro e wl ⟨rfl, hbl⟩
    have HF := Lib.hid (below_tr HB2.out hbl)
    clear hbl q0 q1 q2 q3 q4 q5 q6 q7 q8 q9
    go_wp2
    go_ret
    exact ⟨rfl, HF.out⟩
  · have HF := Lib.hid (hf rfl)
    clear hf
    have h5 : s.f5.length ≤ 24 := HF.out.2.recs.1
    have hst : ∀ k : Nat, k < s.f5.length → 1 ≤ (rd_T48 s.f5 (k : Int)).f5 ∧ (rd_T48 s.f5 (k : Int)).f5 ≤ 4 := fun k hk => (HF.out.2.recs.2 k hk).2.1
    have hz3 : ∀ r ∈ s.f5, r.f3.size ≤ 140737488351232 := fun r hr => (HZ.out.z5 r hr).2.2.2
    have HL := Lib.hid (LinesP_any s A2 A3 A4 A5 A6 A7 A8 c2 c3 c4 c5 c6 c7 c8 w2 HS2.out hst hz3 h5)
    have HOK := Lib.hid (show ∀ c ∈ ordN (nms s s.f5.length), nmOk c = true from fun c hc => by
      obtain ⟨r, hr, e_⟩ := nms_mem s _ (Nat.le_refl _) c ((ordN_perm _).mem_iff.1 hc)
      obtain ⟨i, hi, rfl⟩ := List.mem_iff_getElem.1 hr
      have h_ := (HF.out.2.recs.2 i hi).2.2
      have e2 : rd_T48 s.f5 (i : Int) = s.f5[i] := by unfold rd_T48; rw [Int.toNat_natCast, List.getD_eq_getElem?_getD, List.getElem?_eq_getElem hi]; rfl
      rw [e2] at h_
      exact e_ ▸ h_)
    have HTL1 := Lib.hid (fun j => stN_le2 (cls true ⟨#[]⟩) s.f5 j 99 (by omega))
    have HTL2 := Lib.hid (fun c j => stN_le2 (cls false c) s.f5 j 99 (by omega))
    have HML := Lib.hid (show (ordN (nms s s.f5.length)).length ≤ 24 by rw [ordN_len]; exact Nat.le_trans (nms_len s _) h5)
    have HSA := Lib.hid (sum_ord s)
    have HTOT := Lib.hid (sum_all s hst s.f5.length (Nat.le_refl _))
    rw [List.take_length] at HTOT
    have HLE := Lib.hid (show (lnL s).length = (ordN (nms s s.f5.length)).length + 1 by unfold lnL; rw [List.length_append, List.length_map]; rfl)
    have HAT := Lib.hid (show ∀ i (h : i < (ordN (nms s s.f5.length)).length), rdOf ByteArray.empty (lnL s) (i : Int) = lnC s ((ordN (nms s s.f5.length))[i]) from fun i h => by
      unfold rdOf lnL
      rw [Int.toNat_natCast, List.getD_eq_getElem?_getD, List.getElem?_append_left (by rw [List.length_map]; exact h), List.getElem?_map, List.getElem?_eq_getElem h]
      rfl)
    have HAA := Lib.hid (show rdOf ByteArray.empty (lnL s) ((ordN (nms s s.f5.length)).length : Int) = (⟨#[97, 108, 108, 32]⟩ : ByteArray) ++ tx4 (stN (cls true ⟨#[]⟩) s.f5) by
      unfold rdOf lnL
      rw [Int.toNat_natCast, List.getD_eq_getElem?_getD, List.getElem?_append_right (by rw [List.length_map]; exact Nat.le_refl _), List.length_map, Nat.sub_self]
      rfl)
    clear h5 hst hz3
    generalize ordN (nms s s.f5.length) = M at *
    generalize lnL s = L at *
    go_wp2_with fail
    refine HL.out.mono ?_
    rintro e w3 ⟨A, c, rfl, hl, hC, hb⟩
    rw [HLE.out]
    have HC3 := Lib.hid hC
    rw [HLE.out] at HC3
    have HB3 := Lib.hid (below_tr HB2.out hb)
    have HY3 := Lib.hid ((hb.block W.heap.size (blk_lt HY2.out)).trans HY2.out)
    clear hl hC hb q0 q1 q2 q3 q4 q5 q6 q7 q8 q9
    have hml : (M.length : Int) ≤ 24 := by have := HML.out; omega
    have f1 : ¬ ((M.length : Int) + 1 < 1) := by omega
    have f2 : ¬ ((30 : Int) < (M.length : Int) + 1) := by omega
    have hk1 : IntKind.i64.wrap ((M.length : Int) + 1) = (M.length : Int) + 1 := by rw [IntKind.wrap_i64]; omega
    obtain ⟨w4, hw4⟩ : ∃ w4, w3.alloc (.cells #[.int .i64 0, .int .i64 0, .int .i64 0, .int .i64 0] 3 (0, 0)) = w4 := ⟨_, rfl⟩
    have HB4 := Lib.hid (show Below w3.heap.size w3 w4 by rw [← hw4]; exact below_alloc (Below.refl _ _) _)
    have HN4 := Lib.hid (show Kd.R (Kd.int .i64) 3 w4 w3.heap.size (fun _ => True) (.slice (some ⟨w3.heap.size, 0, none⟩) 4 4) (mixL (ac s (M.take 0)) (fun _ => 0) 0) by
      rw [← hw4, cellsM]
      exact Kd.R_of_own (h1 := fun _ => rfl) (xs := [(ac s (M.take 0) 0 : Int), (ac s (M.take 0) 1 : Int), (ac s (M.take 0) 2 : Int), (ac s (M.take 0) 3 : Int)]) (World.ownsRow_lit (size := 1) w3 #[.int .i64 0, .int .i64 0, .int .i64 0, .int .i64 0] 4 (Nat.le_refl _) (by decide) rfl) (fun _ _ => trivial))
    have HW4 := Lib.hid hw4
    clear hw4
    go_wp2
    rw [HW4.out]
    clear HW4
    have HB24 := Lib.hid (below_tr HB3.out HB4.out)
    have HY4 := Lib.hid ((HB4.out.block W.heap.size (blk_lt HY3.out)).trans HY3.out)
    have HC4 := Lib.hid (Kd.C_below HC3.out HB4.out)
    have HBN0 := Lib.hid HB3.out.size
    obtain ⟨bn, hbn⟩ : ∃ bn, w3.heap.size = bn := ⟨_, rfl⟩
    rw [hbn] at HN4 HBN0 HB4 ⊢
    have HBN := Lib.hid hbn
    clear hbn
    go_loopw [5] (fun v5 wr => ∃ i : Nat, v5 = .int .i64 i ∧ i ≤ M.length ∧ Aside0 (Kd.R (Kd.int .i64) 3 wr bn (fun _ => True) (.slice (some ⟨bn, 0, none⟩) 4 4) (mixL (ac s (M.take i)) (fun _ => 0) 0)) ∧ Aside0 (Below bn w3 wr)) (fun v5 _ => M.length - (intOf v5).toNat)
    case atStart => exact ⟨0, rfl, Nat.zero_le _, ⟨HN4.out⟩, ⟨HB4.out⟩⟩
    case round =>
      obtain ⟨i, rfl, hi, HN, HBR⟩ := hrel
      have HCR := Lib.hid (Kd.C_below HC3.out (show Below w3.heap.size w3 wr by rw [HBN.out]; exact HBR.out))
      have kwi : IntKind.i64.wrap ((i : Int) + 1) = (i : Int) + 1 := by rw [IntKind.wrap_i64]; omega
      by_cases hlt : i < M.length
      · have hlt2 : (i : Int) + 1 < (M.length : Int) + 1 := by omega
        obtain ⟨adl, e, hc0⟩ := Kd.at_string HCR.out (i : Int) (by omega) (by omega)
        subst e
        rw [HAT.out i hlt, Int.toNat_natCast] at hc0
        have HTK := Lib.hid (show ∀ j : Nat, j < 4 → ac s (M.take (i + 1)) j = ac s (M.take i) j + stN (cls false M[i]) s.f5 ((j : Int) + 1) from fun j _ => by
          unfold ac
          rw [List.take_succ_eq_append_getElem hlt, List.map_append, List.sum_append]
          simp)
        have HSU := Lib.hid (fun w => Sums_eq (lnC s M[i]) [(⟨#[99, 108, 97, 115, 115]⟩ : ByteArray), M[i]] (stv (stN (cls false M[i]) s.f5)) rfl (fun n hn => by
          have h_ := HTL2.out M[i]
          simp only [stv, List.mem_cons, List.not_mem_nil, or_false] at hn
          rcases hn with rfl | rfl | rfl | rfl
          · have := h_ 1; omega
          · have := h_ 2; omega
          · have := h_ 3; omega
          · have := h_ 4; omega) (lnC_wds s (HOK.out _ (List.getElem_mem _)) (fun j => by have := HTL2.out M[i] j; omega)) (by simp) (by simp) (by
          have hx := (@of_decide_eq_true _ (Classical.propDecidable _) (HOK.out M[i] (List.getElem_mem _))).2.1
          have hy := tx4_size (stN (cls false M[i]) s.f5)
          unfold lnC
          have z1 : (⟨#[99, 108, 97, 115, 115, 32]⟩ : ByteArray).size = 6 := rfl
          have z2 : (⟨#[32]⟩ : ByteArray).size = 1 := rfl
          simp only [ByteArray.size_append, z1, z2]
          omega) w)
        have hbl := fun j => HTL2.out M[i] j
        have HBV := Lib.hid (show (stv (stN (cls false M[i]) s.f5)).map (fun n : Nat => (n : Int)) = [(stN (cls false M[i]) s.f5 1 : Int), (stN (cls false M[i]) s.f5 2 : Int), (stN (cls false M[i]) s.f5 3 : Int), (stN (cls false M[i]) s.f5 4 : Int)] from rfl)
        generalize lnC s M[i] = ln at *
        generalize stN (cls false M[i]) s.f5 = fv at *
        go_wp2_with fail
        refine (HSU.out wr).mono ?_
        rintro e w5 ⟨Ax, cx, rfl, hlx, hCx, hb, hfr⟩
        rw [show ((stv fv).map (fun n : Nat => (n : Int))).length = 4 from rfl]
        have HCX := Lib.hid (show Kd.C (Kd.int .i64) w5 Ax 4 ((stv fv).map (fun n : Nat => (n : Int))) from hCx)
        have HFR := Lib.hid (show ∀ ad, Ax = some ad → 0 < 4 → ad.block ≠ bn from fun ad e_ _ => by
          have h1_ := hfr ad e_
          have h2_ := Kd.R_lt HN.out bn rfl
          omega)
        have HNX := Lib.hid (Kd.R_below HN.out hb)
        have HBX := Lib.hid (show Below bn w3 w5 from ⟨hb.os.trans HBR.out.os, hb.tape.trans HBR.out.tape, hb.output.trans HBR.out.output, Nat.le_trans HBR.out.size hb.size, fun k_ hk_ => (hb.block k_ (by have := HBR.out.size; have := HBN.out; omega)).trans (HBR.out.block k_ hk_)⟩)
        have HAL := Lib.hid (fun j => ac_le s (fun c j => HTL2.out c j) j (M.take i))
        obtain ⟨a, ha⟩ : ∃ a, ac s (M.take i) = a := ⟨_, rfl⟩
        rw [ha] at HNX HTK HAL
        have HTL := Lib.hid (show (M.take i).length ≤ 24 by rw [List.length_take]; omega)
        clear hlx hCx hb hfr hc0 ha
        obtain ⟨b, hb⟩ : ∃ b : Nat → Nat, (fun j : Nat => fv ((j : Int) + 1)) = b := ⟨_, rfl⟩
        have HVB := Lib.hid (show ∀ k : Nat, k < 4 → rd ((stv fv).map (fun n : Nat => (n : Int))) (k : Int) = (b k : Int) from fun k hk => by
          subst hb
          unfold rd
          rw [Int.toNat_natCast]
          obtain rfl | rfl | rfl | rfl : k = 0 ∨ k = 1 ∨ k = 2 ∨ k = 3 := by omega
          all_goals rfl)
        have HBL := Lib.hid (show ∀ k : Nat, b k ≤ 99 from fun k => by subst hb; exact hbl _)
        have HTB := Lib.hid (show ∀ j : Nat, j < 4 → ac s (M.take (i + 1)) j = a j + b j from fun j hj => by subst hb; exact HTK.out j hj)
        have HN0 := Lib.hid (show mixL a (fun _ => 0) 0 = mixL a b 0 from rfl)
        rw [HN0.out] at HNX
        clear hb hbl HN0
        go_wp2
        go_loopw [7] (fun v7 wr => ∃ k : Nat, v7 = .int .i64 k ∧ k ≤ 4 ∧ Aside0 (Kd.R (Kd.int .i64) 3 wr bn (fun _ => True) (.slice (some ⟨bn, 0, none⟩) 4 4) (mixL a b k)) ∧ Aside0 (Below bn w3 wr) ∧ Aside0 (Kd.C (Kd.int .i64) wr Ax 4 ((stv fv).map (fun n : Nat => (n : Int))))) (fun v7 _ => 4 - (intOf v7).toNat)
        case atStart => exact ⟨0, rfl, Nat.zero_le _, ⟨HNX.out⟩, ⟨HBX.out⟩, ⟨HCX.out⟩⟩
        case round =>
          obtain ⟨k, rfl, hk, HNK, HBK, HCK⟩ := hrel
          by_cases hkt : k < 4
          · have hkt2 : (k : Int) < 4 := by omega
            obtain ⟨adx, e, x1⟩ := Kd.at_int HCK.out (k : Int) (by omega) (by omega)
            rw [HVB.out k hkt, Int.toNat_natCast] at x1
            subst e
            have HOK4 := Lib.hid (show Kd.R (Kd.int .i64) 3 wr.drew bn (fun _ => True) (.slice (some ⟨bn, 0, none⟩) (mixL a b k).length 4) (mixL a b k) by rw [mixL_len]; exact Kd.R_drew HNK.out)
            have kc := Kd.R_cell 0 HOK4.out (k : Int) (by omega) (by rw [mixL_len]; omega)
            rw [mixL_at a b k hkt, Int.toNat_natCast] at kc
            obtain ⟨m1, p1⟩ := kc
            have m2 : wr.cell? ⟨bn, k, none⟩ = some (.int .i64 (a k : Nat)) := m1
            have p2 : wr.frozen? ⟨bn, k, none⟩ = false := p1
            have HPT := Lib.hid (Kd.R_put HOK4.out (k : Int) ((a k : Int) + (b k : Int)))
            rw [Int.toNat_natCast, mixL_set a b k hkt, mixL_len] at HPT
            have HKE := Lib.hid (show Kd.C (Kd.int .i64) (wr.drew.setCell ⟨bn, k, none⟩ (.int .i64 ((a k : Int) + (b k : Int)))) (some adx) 4 ((stv fv).map (fun n : Nat => (n : Int))) from Kd.C_keep 0 (Kd.C_drew HCK.out) ((KeepBut.refl _ bn none).set_ _ _) HFR.out)
            have kwa : IntKind.i64.wrap ((a k : Int) + (b k : Int)) = (a k : Int) + (b k : Int) := by
              have h1_ := HAL.out k
              have h2_ := HBL.out k
              have h3_ := HTL.out
              have h4_ : (M.take i).length * 99 ≤ 24 * 99 := Nat.mul_le_mul_right _ h3_
              rw [IntKind.wrap_i64]
              omega
            go_wp2_with fail
            refine WL.start (n := 13) (S := fun w' => w'.cell? ⟨bn, k, none⟩ = some (.int .i64 (a k : Nat)) ∧ w'.cell? (adx.add k) = some (.int .i64 (b k : Nat))) (ds := [12]) [false, false, false, false, false, false, false, false, false, false, false, false, false] (by kernel_rfl) rfl rfl ⟨m1, x1⟩ (fun hHeld => ?_)
            refine WL.tab tab4_16 (fun HT_ => ?_)
            refine WL.more [0, 1, 2, 3, 4, 6, 7, 8, 5, 9, 10, 11] ?_
            repeat (first
              | (refine WL.off (lb' := ?_) (ys := ?_) rfl rfl (by rfl) ?_ HT_.out ?_ (fun _ _ _ h => h) ?_ ?_; rotate_left 2; (focus dsimp only [List.set_cons_zero, List.set_cons_succ]; rfl); (focus kernel_rfl); (focus dsimp only [List.set_cons_zero, List.set_cons_succ]; rfl))
              | (refine WL.pure (lb' := ?_) (v := ?_) (ys := ?_) rfl rfl (by rfl) ?_ HT_.out ?_ (fun _ _ _ h => h) ?_ ?_ ?_; rotate_left 3; (focus dsimp only [List.set_cons_zero, List.set_cons_succ]; rfl); (focus kernel_rfl); (focus intro w'; go_simp; with_reducible rfl); (focus dsimp only [List.set_cons_zero, List.set_cons_succ]; rfl))
              | (refine WL.take (lb' := ?_) (v := ?_) (ys := ?_) rfl rfl (by rfl) ?_ HT_.out ?_ (fun _ _ _ h => h) hHeld ?_ ?_ ?_; rotate_left 3; (focus dsimp only [List.set_cons_zero, List.set_cons_succ]; rfl); (focus kernel_rfl); (focus rintro w' ⟨s0, s1⟩; go_simp; with_reducible rfl); (focus dsimp only [List.set_cons_zero, List.set_cons_succ]; rfl)))
            refine WL.more [12] ?_
            refine WL.last (lb' := ?_) rfl rfl ?_ HT_.out ?_ (by decide) (fun K hK => ?_); rotate_left; (focus dsimp only [List.set_cons_zero, List.set_cons_succ]; rfl); (focus kernel_rfl)
            refine skip_ (w1 := ?_) (by rfl) rfl ?_ ?_
            rotate_left
            (focus go_simp; rfl)
            refine hK.out _ _ ?_
            clear hK K
            refine WL.done HT_.out (by kernel_rfl) ?_
            clear m1 m2 p1 p2 x1
            go_wp2
            go_roundw
            case rel => exact ⟨k + 1, by go_num, by omega, ⟨HPT.out.1⟩, ⟨(below_drew HBK.out).setCell (Nat.le_refl _) _⟩, ⟨HKE.out⟩⟩
            case measure => simp [intOf]; omega
          · have hk4 : k = 4 := by omega
            subst hk4
            have HNE := Lib.hid (mixL_next a b (ac s (M.take (i + 1))) HTB.out (fun _ => 0))
            rw [HNE.out] at HNK
            go_wp2
            go_roundw
            case rel => exact ⟨i + 1, by go_num, by omega, ⟨HNK.out⟩, ⟨HBK.out⟩⟩
            case measure => simp [intOf]; omega
      · have hi2 : i = M.length := by omega
        subst hi2
        rw [List.take_length] at HN
        have hnl : ¬ (M.length : Int) + 1 < (M.length : Int) + 1 := by omega
        obtain ⟨adl, e, hc0⟩ := Kd.at_string HCR.out (M.length : Int) (by omega) (by omega)
        subst e
        rw [HAA.out, Int.toNat_natCast] at hc0
        have HSU := Lib.hid (fun w => Sums_eq ((⟨#[97, 108, 108, 32]⟩ : ByteArray) ++ tx4 (stN (cls true ⟨#[]⟩) s.f5)) [(⟨#[97, 108, 108]⟩ : ByteArray)] (stv (stN (cls true ⟨#[]⟩) s.f5)) rfl (fun n hn => by
          have h_ := HTL1.out
          simp only [stv, List.mem_cons, List.not_mem_nil, or_false] at hn
          rcases hn with rfl | rfl | rfl | rfl
          · have := h_ 1; omega
          · have := h_ 2; omega
          · have := h_ 3; omega
          · have := h_ 4; omega) (all_wds (fun j => by have := HTL1.out j; omega)) (by simp) (by simp) (by
          have hy := tx4_size (stN (cls true ⟨#[]⟩) s.f5)
          have z1 : (⟨#[97, 108, 108, 32]⟩ : ByteArray).size = 4 := rfl
          simp only [ByteArray.size_append, z1]
          omega) w)
        have HNV := Lib.hid (show mixL (ac s M) (fun _ => 0) 0 = [(stN (cls true ⟨#[]⟩) s.f5 1 : Int), (stN (cls true ⟨#[]⟩) s.f5 2 : Int), (stN (cls true ⟨#[]⟩) s.f5 3 : Int), (stN (cls true ⟨#[]⟩) s.f5 4 : Int)] by
          rw [cellsM]
          have h_ : ∀ j : Nat, ac s M j = stN (cls true ⟨#[]⟩) s.f5 ((j : Int) + 1) := fun j => HSA.out _
          rw [h_ 0, h_ 1, h_ 2, h_ 3]
          rfl)
        rw [HNV.out] at HN
        have HV4 := Lib.hid (show (stv (stN (cls true ⟨#[]⟩) s.f5)).map (fun n : Nat => (n : Int)) = [(stN (cls true ⟨#[]⟩) s.f5 1 : Int), (stN (cls true ⟨#[]⟩) s.f5 2 : Int), (stN (cls true ⟨#[]⟩) s.f5 3 : Int), (stN (cls true ⟨#[]⟩) s.f5 4 : Int)] from rfl)
        rw [HV4.out] at HSU
        have l1 := HTL1.out 1
        have l2 := HTL1.out 2
        have l3 := HTL1.out 3
        have l4 := HTL1.out 4
        have htt := HTOT.out
        have HBY := Lib.hid (show Below W.heap.size W wr from below_tr HB3.out (show Below w3.heap.size w3 wr by rw [HBN.out]; exact HBR.out))
        have HYY := Lib.hid ((HBR.out.block W.heap.size (by rw [← HBN.out]; exact blk_lt HY3.out)).trans HY3.out)
        generalize (⟨#[97, 108, 108, 32]⟩ : ByteArray) ++ tx4 (stN (cls true ⟨#[]⟩) s.f5) = ln at *
        generalize stN (cls true ⟨#[]⟩) s.f5 1 = n1 at *
        generalize stN (cls true ⟨#[]⟩) s.f5 2 = n2 at *
        generalize stN (cls true ⟨#[]⟩) s.f5 3 = n3 at *
        generalize stN (cls true ⟨#[]⟩) s.f5 4 = n4 at *
        have q5 : wr.cell? ⟨W.heap.size, 5, none⟩ = some (.slice A5 s.f5.length c5) := (blk_cell HYY.out 5).trans rfl
        have HN4_ := Lib.hid (show Kd.R (Kd.int .i64) 3 wr bn (fun _ => True) (.slice (some ⟨bn, 0, none⟩) [(n1 : Int), (n2 : Int), (n3 : Int), (n4 : Int)].length 4) [(n1 : Int), (n2 : Int), (n3 : Int), (n4 : Int)] from HN.out)
        have y0 : wr.cell? ⟨bn, 0, none⟩ = some (.int .i64 (n1 : Nat)) := (Kd.R_cell 0 HN4_.out 0 (by decide) (by show (0 : Int) < 4; decide)).1
        have y1 : wr.cell? ⟨bn, 1, none⟩ = some (.int .i64 (n2 : Nat)) := (Kd.R_cell 0 HN4_.out 1 (by decide) (by show (1 : Int) < 4; decide)).1
        have y2 : wr.cell? ⟨bn, 2, none⟩ = some (.int .i64 (n3 : Nat)) := (Kd.R_cell 0 HN4_.out 2 (by decide) (by show (2 : Int) < 4; decide)).1
        have y3 : wr.cell? ⟨bn, 3, none⟩ = some (.int .i64 (n4 : Nat)) := (Kd.R_cell 0 HN4_.out 3 (by decide) (by show (3 : Int) < 4; decide)).1
        have HCN := Lib.hid (fun w' (h : Below wr.heap.size wr w') => (show Kd.C (Kd.int .i64) w' (some ⟨bn, 0, none⟩) 4 [(n1 : Int), (n2 : Int), (n3 : Int), (n4 : Int)] from Kd.C_below (Kd.R_reads' HN.out).2.2 h))
        have HSI := Lib.hid (fun (Ax : Option Addr) (cx : Nat) (w' : World) (h1 : Kd.C (Kd.int .i64) w' Ax 4 [(n1 : Int), (n2 : Int), (n3 : Int), (n4 : Int)]) (h2 : Kd.C (Kd.int .i64) w' (some ⟨bn, 0, none⟩) 4 [(n1 : Int), (n2 : Int), (n3 : Int), (n4 : Int)]) => (show Calls Tryz.prog 14 #[.slice Ax 4 cx, .slice (some ⟨bn, 0, none⟩) 4 4] w' (fun e w'' => e = .returned (.bool true) ∧ Below w'.heap.size w' w'') from SameInts_eq [(n1 : Int), (n2 : Int), (n3 : Int), (n4 : Int)] Ax (some ⟨bn, 0, none⟩) cx 4 w' h1 h2))
        have HSV := Lib.hid (fun w => (show Calls Tryz.prog 13 #[.string ln] w (fun e w' => ∃ (A : Option Addr) (c : Nat), e = .returned (.slice A 4 c) ∧ Kd.C (Kd.int .i64) w' A 4 [(n1 : Int), (n2 : Int), (n3 : Int), (n4 : Int)] ∧ Below w.heap.size w w') from (HSU.out w).mono (by rintro e w' ⟨A_, c_, h1, h2, h3, h4, _⟩; exact ⟨A_, c_, h1, h3, h4⟩)))
        have kw1 : IntKind.i64.wrap ((n1 : Int) + (n2 : Int)) = (n1 : Int) + (n2 : Int) := by rw [IntKind.wrap_i64]; omega
        have kw2 : IntKind.i64.wrap ((n1 : Int) + (n2 : Int) + (n3 : Int)) = (n1 : Int) + (n2 : Int) + (n3 : Int) := by rw [IntKind.wrap_i64]; omega
        have kw3 : IntKind.i64.wrap ((n1 : Int) + (n2 : Int) + (n3 : Int) + (n4 : Int)) = (n1 : Int) + (n2 : Int) + (n3 : Int) + (n4 : Int) := by rw [IntKind.wrap_i64]; omega
        have hml1 : (M.length : Int) < (M.length : Int) + 1 := by omega
        have kwm : IntKind.i64.wrap (M.length : Int) = (M.length : Int) := by rw [IntKind.wrap_i64]; omega
        have hq : ((n1 : Int) + (n2 : Int) + (n3 : Int) + (n4 : Int) == (s.f5.length : Int)) = true := by rw [beq_iff_eq]; omega
        clear HSU HNV HV4 HN HN4_ htt l1 l2 l3 l4
        go_wp2_with fail
        refine WL.start (n := 34) (S := fun w' => Aside0 (Below wr.heap.size wr w') ∧ w'.cell? (adl.add M.length) = some (.string ln) ∧ w'.cell? ⟨bn, 0, none⟩ = some (.int .i64 (n1 : Nat)) ∧ w'.cell? ⟨bn, 1, none⟩ = some (.int .i64 (n2 : Nat)) ∧ w'.cell? ⟨bn, 2, none⟩ = some (.int .i64 (n3 : Nat)) ∧ w'.cell? ⟨bn, 3, none⟩ = some (.int .i64 (n4 : Nat)) ∧ w'.cell? ⟨W.heap.size, 5, none⟩ = some (.slice A5 s.f5.length c5)) (ds := []) [false, false, false, false, false, false, false, false, false, false, false, false, false, false, false, false, false, false, false, false, false, false, false, false, false, false, false, false, false, false, false, false, false, false] (by kernel_rfl) rfl rfl ⟨⟨below_drew (Below.refl _ _)⟩, hc0, y0, y1, y2, y3, q5⟩ (fun hHeld => ?_)
        refine WL.tab tab4_17 (fun HT_ => ?_)
        refine WL.more [0, 1, 2, 3, 4, 7, 5] ?_
        repeat (first
          | (refine WL.off (lb' := ?_) (ys := ?_) rfl rfl (by rfl) ?_ HT_.out ?_ (fun _ _ _ h => h) ?_ ?_; rotate_left 2; (focus dsimp only [List.set_cons_zero, List.set_cons_succ]; rfl); (focus kernel_rfl); (focus dsimp only [List.set_cons_zero, List.set_cons_succ]; rfl))
          | (refine WL.pure (lb' := ?_) (v := ?_) (ys := ?_) rfl rfl (by rfl) ?_ HT_.out ?_ (fun _ _ _ h => h) ?_ ?_ ?_; rotate_left 3; (focus dsimp only [List.set_cons_zero, List.set_cons_succ]; rfl); (focus kernel_rfl); (focus intro w'; go_simp; with_reducible rfl); (focus dsimp only [List.set_cons_zero, List.set_cons_succ]; rfl))
          | (refine WL.take (lb' := ?_) (v := ?_) (ys := ?_) rfl rfl (by rfl) ?_ HT_.out ?_ (fun _ _ _ h => h) hHeld ?_ ?_ ?_; rotate_left 3; (focus dsimp only [List.set_cons_zero, List.set_cons_succ]; rfl); (focus kernel_rfl); (focus rintro w' ⟨s0, s1, s2, s3, s4, s5, s6⟩; go_simp; with_reducible rfl); (focus dsimp only [List.set_cons_zero, List.set_cons_succ]; rfl)))
        refine WL.more [6] ?_
        repeat (first
          | (refine WL.off (lb' := ?_) (ys := ?_) rfl rfl (by rfl) ?_ HT_.out ?_ (fun _ _ _ h => h) ?_ ?_; rotate_left 2; (focus dsimp only [List.set_cons_zero, List.set_cons_succ]; rfl); (focus kernel_rfl); (focus dsimp only [List.set_cons_zero, List.set_cons_succ]; rfl))
          | (refine WL.pure (lb' := ?_) (v := ?_) (ys := ?_) rfl rfl (by rfl) ?_ HT_.out ?_ (fun _ _ _ h => h) ?_ ?_ ?_; rotate_left 3; (focus dsimp only [List.set_cons_zero, List.set_cons_succ]; rfl); (focus kernel_rfl); (focus intro w'; go_simp; with_reducible rfl); (focus dsimp only [List.set_cons_zero, List.set_cons_succ]; rfl))
          | (refine WL.take (lb' := ?_) (v := ?_) (ys := ?_) rfl rfl (by rfl) ?_ HT_.out ?_ (fun _ _ _ h => h) hHeld ?_ ?_ ?_; rotate_left 3; (focus dsimp only [List.set_cons_zero, List.set_cons_succ]; rfl); (focus kernel_rfl); (focus rintro w' ⟨s0, s1, s2, s3, s4, s5, s6⟩; go_simp; with_reducible rfl); (focus dsimp only [List.set_cons_zero, List.set_cons_succ]; rfl))
          | (refine WL.one (lb' := ?_) rfl rfl ?_ HT_.out ?_ (by decide) (fun K hK => ?_); rotate_left; (focus dsimp only [List.set_cons_zero, List.set_cons_succ]; rfl); (focus kernel_rfl); first
              | (refine goes_ Tryz.func13 (by kernel_rfl) rfl #[.string ln] (by rfl) rfl rfl (by simp only [List.map_toArray, List.map_cons, List.map_nil]; rfl) ?_; (with_reducible refine (HSV.out _).mono ?_); rintro e wv ⟨Ax, cx, rfl, hCx, hb⟩; refine ⟨_, rfl, ?_⟩; have hCx := Lib.hid hCx; refine hK.out _ _ (by have h_ := hHeld.2; refine ⟨⟨below_tr hHeld.1.out hb⟩, ?_⟩; repeat (first | exact below_cell hb h_ | (refine ⟨below_cell hb h_.1, ?_⟩; replace h_ := h_.2))) (fun hHeld => ?_); clear hK K; refine WL.put (ys := ?_) ?_ ?_; rotate_left; (focus dsimp only [List.set_cons_zero, List.set_cons_succ]; rfl))))
        refine WL.more [8] ?_
        repeat (first
          | (refine WL.off (lb' := ?_) (ys := ?_) rfl rfl (by rfl) ?_ HT_.out ?_ (fun _ _ _ h => h) ?_ ?_; rotate_left 2; (focus dsimp only [List.set_cons_zero, List.set_cons_succ]; rfl); (focus kernel_rfl); (focus dsimp only [List.set_cons_zero, List.set_cons_succ]; rfl))
          | (refine WL.pure (lb' := ?_) (v := ?_) (ys := ?_) rfl rfl (by rfl) ?_ HT_.out ?_ (fun _ _ _ h => h) ?_ ?_ ?_; rotate_left 3; (focus dsimp only [List.set_cons_zero, List.set_cons_succ]; rfl); (focus kernel_rfl); (focus intro w'; go_simp; with_reducible rfl); (focus dsimp only [List.set_cons_zero, List.set_cons_succ]; rfl))
          | (refine WL.take (lb' := ?_) (v := ?_) (ys := ?_) rfl rfl (by rfl) ?_ HT_.out ?_ (fun _ _ _ h => h) hHeld ?_ ?_ ?_; rotate_left 3; (focus dsimp only [List.set_cons_zero, List.set_cons_succ]; rfl); (focus kernel_rfl); (focus rintro w' ⟨s0, s1, s2, s3, s4, s5, s6⟩; go_simp; with_reducible rfl); (focus dsimp only [List.set_cons_zero, List.set_cons_succ]; rfl))
          | (refine WL.one (lb' := ?_) rfl rfl ?_ HT_.out ?_ (by decide) (fun K hK => ?_); rotate_left; (focus dsimp only [List.set_cons_zero, List.set_cons_succ]; rfl); (focus kernel_rfl); first
              | (refine goes_ Tryz.func14 (by kernel_rfl) rfl #[.slice Ax 4 cx, .slice (some ⟨bn, 0, none⟩) 4 4] (by rfl) rfl rfl (by simp only [List.map_toArray, List.map_cons, List.map_nil]; rfl) ?_; (with_reducible refine (HSI.out Ax cx _ hCx.out (HCN.out _ hHeld.1.out)).mono ?_); rintro e wv2 ⟨rfl, hb⟩; refine ⟨_, rfl, ?_⟩; refine hK.out _ _ (by have h_ := hHeld.2; refine ⟨⟨below_tr hHeld.1.out hb⟩, ?_⟩; repeat (first | exact below_cell hb h_ | (refine ⟨below_cell hb h_.1, ?_⟩; replace h_ := h_.2))) (fun hHeld => ?_); clear hK K; refine WL.put (ys := ?_) ?_ ?_; rotate_left; (focus dsimp only [List.set_cons_zero, List.set_cons_succ]; rfl))))
        refine WL.more [9, 10, 11, 13, 14, 17, 18, 21, 22, 25, 12, 15, 16, 19, 20, 23, 24, 26, 27, 28, 29, 30] ?_
        repeat (first
          | (refine WL.off (lb' := ?_) (ys := ?_) rfl rfl (by rfl) ?_ HT_.out ?_ (fun _ _ _ h => h) ?_ ?_; rotate_left 2; (focus dsimp only [List.set_cons_zero, List.set_cons_succ]; rfl); (focus kernel_rfl); (focus dsimp only [List.set_cons_zero, List.set_cons_succ]; rfl))
          | (refine WL.pure (lb' := ?_) (v := ?_) (ys := ?_) rfl rfl (by rfl) ?_ HT_.out ?_ (fun _ _ _ h => h) ?_ ?_ ?_; rotate_left 3; (focus dsimp only [List.set_cons_zero, List.set_cons_succ]; rfl); (focus kernel_rfl); (focus intro w'; go_simp; with_reducible rfl); (focus dsimp only [List.set_cons_zero, List.set_cons_succ]; rfl))
          | (refine WL.take (lb' := ?_) (v := ?_) (ys := ?_) rfl rfl (by rfl) ?_ HT_.out ?_ (fun _ _ _ h => h) hHeld ?_ ?_ ?_; rotate_left 3; (focus dsimp only [List.set_cons_zero, List.set_cons_succ]; rfl); (focus kernel_rfl); (focus rintro w' ⟨s0, s1, s2, s3, s4, s5, s6⟩; go_simp; with_reducible rfl); (focus dsimp only [List.set_cons_zero, List.set_cons_succ]; rfl)))
        refine WL.more [31] ?_
        repeat (first
          | (refine WL.off (lb' := ?_) (ys := ?_) rfl rfl (by rfl) ?_ HT_.out ?_ (fun _ _ _ h => h) ?_ ?_; rotate_left 2; (focus dsimp only [List.set_cons_zero, List.set_cons_succ]; rfl); (focus kernel_rfl); (focus dsimp only [List.set_cons_zero, List.set_cons_succ]; rfl))
          | (refine WL.pure (lb' := ?_) (v := ?_) (ys := ?_) rfl rfl (by rfl) ?_ HT_.out ?_ (fun _ _ _ h => h) ?_ ?_ ?_; rotate_left 3; (focus dsimp only [List.set_cons_zero, List.set_cons_succ]; rfl); (focus kernel_rfl); (focus intro w'; go_simp; with_reducible rfl); (focus dsimp only [List.set_cons_zero, List.set_cons_succ]; rfl))
          | (refine WL.take (lb' := ?_) (v := ?_) (ys := ?_) rfl rfl (by rfl) ?_ HT_.out ?_ (fun _ _ _ h => h) hHeld ?_ ?_ ?_; rotate_left 3; (focus dsimp only [List.set_cons_zero, List.set_cons_succ]; rfl); (focus kernel_rfl); (focus rintro w' ⟨s0, s1, s2, s3, s4, s5, s6⟩; go_simp; with_reducible rfl); (focus dsimp only [List.set_cons_zero, List.set_cons_succ]; rfl))
          | (refine WL.one (lb' := ?_) rfl rfl ?_ HT_.out ?_ (by decide) (fun K hK => ?_); rotate_left; (focus dsimp only [List.set_cons_zero, List.set_cons_succ]; rfl); (focus kernel_rfl); first
              | (refine goes_ Tryz.func7 (by kernel_rfl) rfl #[] (by rfl) rfl rfl (by first | rfl | simp) ?_; (with_reducible refine (live_eq _).mono ?_); rintro e w10 ⟨rfl, hb⟩; refine ⟨_, rfl, ?_⟩; refine hK.out _ _ (by have h_ := hHeld.2; refine ⟨⟨below_tr hHeld.1.out hb⟩, ?_⟩; repeat (first | exact below_cell hb h_ | (refine ⟨below_cell hb h_.1, ?_⟩; replace h_ := h_.2))) (fun hHeld => ?_); clear hK K; refine WL.put (ys := ?_) ?_ ?_; rotate_left; (focus dsimp only [List.set_cons_zero, List.set_cons_succ]; rfl))))
        refine WL.more [32, 33] ?_
        repeat (first
          | (refine WL.off (lb' := ?_) (ys := ?_) rfl rfl (by rfl) ?_ HT_.out ?_ (fun _ _ _ h => h) ?_ ?_; rotate_left 2; (focus dsimp only [List.set_cons_zero, List.set_cons_succ]; rfl); (focus kernel_rfl); (focus dsimp only [List.set_cons_zero, List.set_cons_succ]; rfl))
          | (refine WL.pure (lb' := ?_) (v := ?_) (ys := ?_) rfl rfl (by rfl) ?_ HT_.out ?_ (fun _ _ _ h => h) ?_ ?_ ?_; rotate_left 3; (focus dsimp only [List.set_cons_zero, List.set_cons_succ]; rfl); (focus kernel_rfl); (focus intro w'; go_simp; with_reducible rfl); (focus dsimp only [List.set_cons_zero, List.set_cons_succ]; rfl))
          | (refine WL.take (lb' := ?_) (v := ?_) (ys := ?_) rfl rfl (by rfl) ?_ HT_.out ?_ (fun _ _ _ h => h) hHeld ?_ ?_ ?_; rotate_left 3; (focus dsimp only [List.set_cons_zero, List.set_cons_succ]; rfl); (focus kernel_rfl); (focus rintro w' ⟨s0, s1, s2, s3, s4, s5, s6⟩; go_simp; with_reducible rfl); (focus dsimp only [List.set_cons_zero, List.set_cons_succ]; rfl)))
        refine WL.done HT_.out (by kernel_rfl) ?_
        have HFN := Lib.hid (below_tr HBY.out hHeld.1.out)
        clear hHeld hc0 y0 y1 y2 y3 q5
        go_wp2
        go_ret
        exact ⟨rfl, HFN.out⟩
end Go.Proofs.YtafigkikblpbnaaGreatDoor.PG
