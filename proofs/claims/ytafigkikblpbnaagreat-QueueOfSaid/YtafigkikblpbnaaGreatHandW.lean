/- Holds, and where a case stands; no condition beyond each theorem its own. -/
import Derived.Test.YtafigkikblpbnaaGreatJ18
import Derived.Test.YtafigkikblpbnaaGreatJ07
namespace Go.Proofs.YtafigkikblpbnaaGreat.PG
open Go.RowKit Go.Proofs.YtafigkikblpbnaaGreatW.PrintWords Go.Proofs.YtafigkikblpbnaaGreatW.PrintLast Go.Proofs.YtafigkikblpbnaaGreatW.PrintMore
set_option linter.unusedVariables false
set_option linter.unusedSimpArgs false
set_option maxRecDepth 100000

set_option maxHeartbeats 1000000 in
theorem holds_any (d : Nat) (x : S100) (r : S73) (A : Option Addr) (c : Nat) (W : World) (hd : dp d x.f1) (hC : Kd.C k52 W A x.f1.f4.length x.f1.f4) (hl : x.f1.f4.length ≤ c) : Calls Tryz.prog 80 #[.agg #[.string x.f0, .int .i64 x.f1.f0, .string x.f1.f1, .int .i64 x.f1.f2, .int .i64 x.f1.f3, .slice A x.f1.f4.length c, .bool x.f2], .agg #[.string r.f0, .string r.f1, .string r.f2, .string r.f3, .int .i64 r.f4, .int .i64 r.f5]] W fun e W' => e = .returned (.bool (x.f2 && mt d x.f1 r)) ∧ Below W.heap.size W W' := by
  have HB := Lib.hid (show Below W.heap.size W ((W.alloc (.cells #[.string x.f0, .int .i64 x.f1.f0, .string x.f1.f1, .int .i64 x.f1.f2, .int .i64 x.f1.f3, .slice A x.f1.f4.length c, .bool x.f2] 100 (0, 0))).alloc (.cells #[.string r.f0, .string r.f1, .string r.f2, .string r.f3, .int .i64 r.f4, .int .i64 r.f5] 73 (0, 0))) from below_alloc (below_alloc (Below.refl _ _) _) _)
  have HCALL := Lib.hid (match_any d x.f1 r A c ((W.alloc (.cells #[.string x.f0, .int .i64 x.f1.f0, .string x.f1.f1, .int .i64 x.f1.f2, .int .i64 x.f1.f3, .slice A x.f1.f4.length c, .bool x.f2] 100 (0, 0))).alloc (.cells #[.string r.f0, .string r.f1, .string r.f2, .string r.f3, .int .i64 r.f4, .int .i64 r.f5] 73 (0, 0))) hd (Kd.C_below hC HB.out) hl)
  clear hd hC
  generalize hq : mt d x.f1 r = q at *
  generalize x.f2 = b at *
  cases b
  · go_enter Tryz.func80, Tryz.ntmps80
    go_wp2
    go_ret
    exact ⟨rfl, HB.out⟩
  · go_enter Tryz.func80, Tryz.ntmps80
    go_wp2_with fail
    refine HCALL.out.mono ?_
    rintro e w2 ⟨rfl, hb⟩
    have HB2 := Lib.hid (below_tr HB.out hb)
    clear hb
    go_wp2
    go_ret
    exact ⟨by simp, HB2.out⟩
set_option maxHeartbeats 1000000 in
theorem lit79_any (d : Nat) (x : S100) (r : S73) (A : Option Addr) (c : Nat) (br : Nat) (W : World) (hd : dp d x.f1) (hC : Kd.C k52 W A x.f1.f4.length x.f1.f4) (hl : x.f1.f4.length ≤ c) (hbr : W.heap[br]? = some (.cells #[.string r.f0, .string r.f1, .string r.f2, .string r.f3, .int .i64 r.f4, .int .i64 r.f5] 73 (0, 0))) :
    Calls Tryz.prog 79 #[.agg #[.string x.f0, .int .i64 x.f1.f0, .string x.f1.f1, .int .i64 x.f1.f2, .int .i64 x.f1.f3, .slice A x.f1.f4.length c, .bool x.f2], .pointer (some ⟨br, 0, none⟩)] W fun e W' => e = .returned (.bool (x.f2 && mt d x.f1 r)) ∧ Below W.heap.size W W' := by
  have HB := Lib.hid (show Below W.heap.size W (W.alloc (.cells #[.string x.f0, .int .i64 x.f1.f0, .string x.f1.f1, .int .i64 x.f1.f2, .int .i64 x.f1.f3, .slice A x.f1.f4.length c, .bool x.f2] 100 (0, 0))) from below_alloc (Below.refl _ _) _)
  have HR := Lib.hid ((HB.out.block br (blk_lt hbr)).trans hbr)
  have HCALL := Lib.hid (holds_any d x r A c (W.alloc (.cells #[.string x.f0, .int .i64 x.f1.f0, .string x.f1.f1, .int .i64 x.f1.f2, .int .i64 x.f1.f3, .slice A x.f1.f4.length c, .bool x.f2] 100 (0, 0))) hd (Kd.C_below hC HB.out) hl)
  have r0 : (W.alloc (.cells #[.string x.f0, .int .i64 x.f1.f0, .string x.f1.f1, .int .i64 x.f1.f2, .int .i64 x.f1.f3, .slice A x.f1.f4.length c, .bool x.f2] 100 (0, 0))).cell? ⟨br, 0, none⟩ = some (.string r.f0) := (blk_cell HR.out 0).trans rfl
  have r1 : (W.alloc (.cells #[.string x.f0, .int .i64 x.f1.f0, .string x.f1.f1, .int .i64 x.f1.f2, .int .i64 x.f1.f3, .slice A x.f1.f4.length c, .bool x.f2] 100 (0, 0))).cell? ⟨br, 1, none⟩ = some (.string r.f1) := (blk_cell HR.out 1).trans rfl
  have r2 : (W.alloc (.cells #[.string x.f0, .int .i64 x.f1.f0, .string x.f1.f1, .int .i64 x.f1.f2, .int .i64 x.f1.f3, .slice A x.f1.f4.length c, .bool x.f2] 100 (0, 0))).cell? ⟨br, 2, none⟩ = some (.string r.f2) := (blk_cell HR.out 2).trans rfl
  have r3 : (W.alloc (.cells #[.string x.f0, .int .i64 x.f1.f0, .string x.f1.f1, .int .i64 x.f1.f2, .int .i64 x.f1.f3, .slice A x.f1.f4.length c, .bool x.f2] 100 (0, 0))).cell? ⟨br, 3, none⟩ = some (.string r.f3) := (blk_cell HR.out 3).trans rfl
  have r4 : (W.alloc (.cells #[.string x.f0, .int .i64 x.f1.f0, .string x.f1.f1, .int .i64 x.f1.f2, .int .i64 x.f1.f3, .slice A x.f1.f4.length c, .bool x.f2] 100 (0, 0))).cell? ⟨br, 4, none⟩ = some (.int .i64 r.f4) := (blk_cell HR.out 4).trans rfl
  have r5 : (W.alloc (.cells #[.string x.f0, .int .i64 x.f1.f0, .string x.f1.f1, .int .i64 x.f1.f2, .int .i64 x.f1.f3, .slice A x.f1.f4.length c, .bool x.f2] 100 (0, 0))).cell? ⟨br, 5, none⟩ = some (.int .i64 r.f5) := (blk_cell HR.out 5).trans rfl
  clear hbr hC hd
  generalize (x.f2 && mt d x.f1 r) = q at *
  go_enter Tryz.func79, Tryz.ntmps79
  go_wp2_with fail
  refine HCALL.out.mono ?_
  rintro e w2 ⟨rfl, hb⟩
  go_wp2
  go_ret
  exact ⟨rfl, below_tr HB.out hb⟩

theorem drop_idxH {l : List S100} {i : Nat} (h : i < l.length) : l.drop i = rd_T100 l (i : Int) :: l.drop (i + 1) := by
  rw [List.drop_eq_getElem_cons h]
  simp [rd_T100, List.getElem?_eq_getElem h, List.getD_eq_getElem?_getD]
set_option maxHeartbeats 1000000 in
theorem idxH (p : S100 → Bool) (A : Option Addr) (c : Nat) (l : List S100) (br : Nat) (w : World) (hr : Kd.C k100 w A l.length l)
    (hf : ∀ x ∈ l, ∀ A4 c4 W, Below w.heap.size w W → Kd.C k52 W A4 x.f1.f4.length x.f1.f4 → x.f1.f4.length ≤ c4 → Calls Tryz.prog 79 #[.agg #[.string x.f0, .int .i64 x.f1.f0, .string x.f1.f1, .int .i64 x.f1.f2, .int .i64 x.f1.f3, .slice A4 x.f1.f4.length c4, .bool x.f2], .pointer (some ⟨br, 0, none⟩)] W fun e W' => e = .returned (.bool (p x)) ∧ Below W.heap.size W W') :
    Calls Tryz.prog 119 #[.slice A l.length c, .func (Fn.func 79) #[] #[.pointer (some ⟨br, 0, none⟩)]] w fun e w' => e = .returned (.int .i64 (ix p l 0)) ∧ Below w.heap.size w w' := by
  have hm : l.length ≤ 9223372036854775807 := hr.2.1
  have HF := Lib.hid hf
  clear hf
  go_enter Tryz.func119, Tryz.ntmps119
  go_wp2
  go_loopw [8] (fun v8 wr => ∃ k : Nat, k ≤ l.length ∧ v8 = .int .i64 k ∧ Aside0 (Below w.heap.size w wr) ∧ Aside0 (ix p l 0 = ix p (l.drop k) k)) (fun v8 _ => l.length - (intOf v8).toNat)
  case atStart => exact ⟨0, Nat.zero_le _, rfl, ⟨Below.refl _ _⟩, ⟨by rw [List.drop_zero]⟩⟩
  case round =>
    obtain ⟨k, hk, rfl, HB, HI⟩ := hrel
    by_cases hlt : k < l.length
    · obtain ⟨ad, A4, c4, e, h0, h1, h2, h3, h4, h5, h6, hl4, hC4⟩ := at_T100 (Kd.C_below hr HB.out) (k : Int) (by omega) (by omega)
      subst e
      simp only [Int.toNat_natCast] at h0 h1 h2 h3 h4 h5 h6
      have hd := drop_idxH hlt
      have hmem : rd_T100 l (k : Int) ∈ l := by
        have : rd_T100 l (k : Int) ∈ l.drop k := by rw [hd]; exact List.mem_cons.2 (.inl rfl)
        exact List.mem_of_mem_drop this
      have HI2 := Lib.hid (show ix p l 0 = if p (rd_T100 l (k : Int)) = true then (k : Int) else ix p (l.drop (k + 1)) (k + 1) by rw [HI.out, hd]; rfl)
      have HCALL := Lib.hid (HF.out _ hmem A4 c4 wr HB.out hC4 hl4)
      clear hd hmem hC4 hl4
      generalize rd_T100 l (k : Int) = x at *
      generalize hpx : p x = px at *
      clear hpx
      go_wp2_with fail
      refine HCALL.out.mono ?_
      rintro e w2 ⟨rfl, hb⟩
      have HB2 := Lib.hid (below_tr HB.out hb)
      clear hb h0 h1 h2 h3 h4 h5 h6
      cases px
      · go_wp2
        go_roundw
        case rel => exact ⟨k + 1, by omega, by go_num, ⟨HB2.out⟩, ⟨by rw [HI2.out, if_neg (by decide)]⟩⟩
        case measure => simp [intOf]; omega
      · go_wp2
        go_ret
        exact ⟨ret_i (by rw [HI2.out]; simp), HB2.out⟩
    · have hk2 : k = l.length := by omega
      have HK := Lib.hid hk2
      clear hk2
      go_wp2
      go_ret
      exact ⟨ret_i (by rw [HI.out, HK.out, List.drop_of_length_le (Nat.le_refl _)]; rfl), HB.out⟩

theorem contH (p : S100 → Bool) (A : Option Addr) (c : Nat) (l : List S100) (br : Nat) (w : World) (hr : Kd.C k100 w A l.length l)
    (hf : ∀ x ∈ l, ∀ A4 c4 W, Below w.heap.size w W → Kd.C k52 W A4 x.f1.f4.length x.f1.f4 → x.f1.f4.length ≤ c4 → Calls Tryz.prog 79 #[.agg #[.string x.f0, .int .i64 x.f1.f0, .string x.f1.f1, .int .i64 x.f1.f2, .int .i64 x.f1.f3, .slice A4 x.f1.f4.length c4, .bool x.f2], .pointer (some ⟨br, 0, none⟩)] W fun e W' => e = .returned (.bool (p x)) ∧ Below W.heap.size W W') :
    Calls Tryz.prog 78 #[.slice A l.length c, .func (Fn.func 79) #[] #[.pointer (some ⟨br, 0, none⟩)]] w fun e w' => e = .returned (.bool (l.any p)) ∧ Below w.heap.size w w' := by
  have HC := Lib.hid (idxH p A c l br w hr hf)
  have hx := ix_any p l 0
  generalize ix p l 0 = i at *
  clear hf hr
  go_enter Tryz.func78, Tryz.ntmps78
  go_wp2_with fail
  refine HC.out.mono ?_
  rintro e w2 ⟨rfl, hb⟩
  have HX := Lib.hid hx
  clear hx
  go_wp2
  go_ret
  exact ⟨ret_b HX.out, hb⟩

set_option maxHeartbeats 1000000 in
theorem Held_any (d : Nat) (l : List S100) (r : S73) (A : Option Addr) (c : Nat) (w : World) (hd : ∀ x ∈ l, dp d x.f1) (hr : Kd.C k100 w A l.length l) : Calls Tryz.prog 49 #[.slice A l.length c, .agg #[.string r.f0, .string r.f1, .string r.f2, .string r.f3, .int .i64 r.f4, .int .i64 r.f5]] w fun e w' => e = .returned (.bool (l.any fun x => x.f2 && mt d x.f1 r)) ∧ Below w.heap.size w w' := by
  have HB := Lib.hid (show Below w.heap.size w (w.alloc (.cells #[.string r.f0, .string r.f1, .string r.f2, .string r.f3, .int .i64 r.f4, .int .i64 r.f5] 73 (0, 0))) from below_alloc (Below.refl _ _) _)
  have HY := Lib.hid (new_blk w (.cells #[.string r.f0, .string r.f1, .string r.f2, .string r.f3, .int .i64 r.f4, .int .i64 r.f5] 73 (0, 0)))
  have HCALL := Lib.hid (contH (fun x => x.f2 && mt d x.f1 r) A c l w.heap.size (w.alloc (.cells #[.string r.f0, .string r.f1, .string r.f2, .string r.f3, .int .i64 r.f4, .int .i64 r.f5] 73 (0, 0))) (Kd.C_below hr HB.out) (fun x hx A4 c4 W hb hC4 hl4 => lit79_any d x r A4 c4 w.heap.size W (hd x hx) hC4 hl4 ((hb.block _ (blk_lt HY.out)).trans HY.out)))
  clear hr hd
  generalize (l.any fun x => x.f2 && mt d x.f1 r) = q at *
  go_enter Tryz.func49, Tryz.ntmps49
  go_wp2_with fail
  refine HCALL.out.mono ?_
  rintro e w2 ⟨rfl, hb⟩
  go_wp2
  go_ret
  exact ⟨rfl, below_tr HB.out hb⟩

theorem lit77_any (x : S59) (t : ByteArray) (A : Option Addr) (c : Nat) (br : Nat) (W : World) (hbr : W.heap[br]? = some (.cells #[.string t] 9 (0, 0))) :
    Calls Tryz.prog 77 #[.agg #[.string x.f0, .slice A x.f1.length c], .pointer (some ⟨br, 0, none⟩)] W fun e W' => e = .returned (.bool (nm59 t x)) ∧ Below W.heap.size W W' := by
  have HB := Lib.hid (show Below W.heap.size W (W.alloc (.cells #[.string x.f0, .slice A x.f1.length c] 59 (0, 0))) from below_alloc (Below.refl _ _) _)
  have HR := Lib.hid ((HB.out.block br (blk_lt hbr)).trans hbr)
  have r0 : (W.alloc (.cells #[.string x.f0, .slice A x.f1.length c] 59 (0, 0))).cell? ⟨br, 0, none⟩ = some (.string t) := (blk_cell HR.out 0).trans rfl
  clear hbr
  show Calls Tryz.prog 77 #[.agg #[.string x.f0, .slice A x.f1.length c], .pointer (some ⟨br, 0, none⟩)] W fun e W' => e = .returned (.bool (x.f0.toList == t.toList)) ∧ Below W.heap.size W W'
  go_enter Tryz.func77, Tryz.ntmps77
  go_wp2
  go_ret
  exact ⟨rfl, HB.out⟩

theorem drop_idxC {l : List S59} {i : Nat} (h : i < l.length) : l.drop i = rd_T59 l (i : Int) :: l.drop (i + 1) := by
  rw [List.drop_eq_getElem_cons h]
  simp [rd_T59, List.getElem?_eq_getElem h, List.getD_eq_getElem?_getD]
set_option maxHeartbeats 1000000 in
theorem idxC (p : S59 → Bool) (A : Option Addr) (c : Nat) (l : List S59) (br : Nat) (w : World) (hr : Kd.C k59 w A l.length l)
    (hf : ∀ x ∈ l, ∀ A4 c4 W, Below w.heap.size w W → Kd.C k134 W A4 x.f1.length x.f1 → x.f1.length ≤ c4 → Calls Tryz.prog 77 #[.agg #[.string x.f0, .slice A4 x.f1.length c4], .pointer (some ⟨br, 0, none⟩)] W fun e W' => e = .returned (.bool (p x)) ∧ Below W.heap.size W W') :
    Calls Tryz.prog 118 #[.slice A l.length c, .func (Fn.func 77) #[] #[.pointer (some ⟨br, 0, none⟩)]] w fun e w' => e = .returned (.int .i64 (ix p l 0)) ∧ Below w.heap.size w w' := by
  have hm : l.length ≤ 9223372036854775807 := hr.2.1
  have HF := Lib.hid hf
  clear hf
  go_enter Tryz.func118, Tryz.ntmps118
  go_wp2
  go_loopw [8] (fun v8 wr => ∃ k : Nat, k ≤ l.length ∧ v8 = .int .i64 k ∧ Aside0 (Below w.heap.size w wr) ∧ Aside0 (ix p l 0 = ix p (l.drop k) k)) (fun v8 _ => l.length - (intOf v8).toNat)
  case atStart => exact ⟨0, Nat.zero_le _, rfl, ⟨Below.refl _ _⟩, ⟨by rw [List.drop_zero]⟩⟩
  case round =>
    obtain ⟨k, hk, rfl, HB, HI⟩ := hrel
    by_cases hlt : k < l.length
    · obtain ⟨ad, A4, c4, e, h0, h1, hl4, hC4⟩ := at_T59 (Kd.C_below hr HB.out) (k : Int) (by omega) (by omega)
      subst e
      simp only [Int.toNat_natCast] at h0 h1
      have hd := drop_idxC hlt
      have hmem : rd_T59 l (k : Int) ∈ l := by
        have : rd_T59 l (k : Int) ∈ l.drop k := by rw [hd]; exact List.mem_cons.2 (.inl rfl)
        exact List.mem_of_mem_drop this
      have HI2 := Lib.hid (show ix p l 0 = if p (rd_T59 l (k : Int)) = true then (k : Int) else ix p (l.drop (k + 1)) (k + 1) by rw [HI.out, hd]; rfl)
      have HCALL := Lib.hid (HF.out _ hmem A4 c4 wr HB.out hC4 hl4)
      clear hd hmem hC4 hl4
      generalize rd_T59 l (k : Int) = x at *
      generalize hpx : p x = px at *
      clear hpx
      go_wp2_with fail
      refine HCALL.out.mono ?_
      rintro e w2 ⟨rfl, hb⟩
      have HB2 := Lib.hid (below_tr HB.out hb)
      clear hb h0 h1
      cases px
      · go_wp2
        go_roundw
        case rel => exact ⟨k + 1, by omega, by go_num, ⟨HB2.out⟩, ⟨by rw [HI2.out, if_neg (by decide)]⟩⟩
        case measure => simp [intOf]; omega
      · go_wp2
        go_ret
        exact ⟨ret_i (by rw [HI2.out]; simp), HB2.out⟩
    · have hk2 : k = l.length := by omega
      have HK := Lib.hid hk2
      clear hk2
      go_wp2
      go_ret
      exact ⟨ret_i (by rw [HI.out, HK.out, List.drop_of_length_le (Nat.le_refl _)]; rfl), HB.out⟩

set_option maxHeartbeats 1000000 in
theorem place_any (l : List S59) (t : ByteArray) (A : Option Addr) (c : Nat) (br : Nat) (w : World) (hr : Kd.C k59 w A l.length l) (hbr : w.heap[br]? = some (.cells #[.string t] 9 (0, 0))) :
    Calls Tryz.prog 76 #[.slice A l.length c, .func (Fn.func 77) #[] #[.pointer (some ⟨br, 0, none⟩)]] w fun e w' => e = .returned (.tuple #[.int .i64 (max (ix (nm59 t) l 0) 0), .bool (decide (ix (nm59 t) l 0 ≥ 0))]) ∧ Below w.heap.size w w' := by
  have HCALL := Lib.hid (idxC (nm59 t) A c l br w hr (fun x hx A4 c4 W hb hC4 hl4 => lit77_any x t A4 c4 br W ((hb.block _ (blk_lt hbr)).trans hbr)))
  clear hr hbr
  generalize ix (nm59 t) l 0 = i at *
  go_enter Tryz.func76, Tryz.ntmps76
  go_wp2_with fail
  refine HCALL.out.mono ?_
  rintro e w2 ⟨rfl, hb⟩
  have HB := Lib.hid hb
  clear hb
  go_wp2
  all_goals
    go_ret2
    exact ⟨by first | rfl | (simp; omega) | simp_all, HB.out⟩

set_option maxHeartbeats 1000000 in
theorem catCase_any (s : S31) (A2 A3 A4 A5 A6 A7 A8 : Option Addr) (c2 c3 c4 c5 c6 c7 c8 : Nat) (t : ByteArray) (w : World) (hs : Rs w s A2 A3 A4 A5 A6 A7 A8 c2 c3 c4 c5 c6 c7 c8) : Calls Tryz.prog 48 #[.agg #[.int .i64 s.f0, .int .u64 s.f1, .slice A2 s.f2.length c2, .slice A3 s.f3.length c3, .slice A4 s.f4.length c4, .slice A5 s.f5.length c5, .slice A6 s.f6.length c6, .slice A7 s.f7.length c7, .slice A8 s.f8.length c8, .int .i64 s.f9], .string t] w fun e w' => e = .returned (.tuple #[.int .i64 (max (ix (nm59 t) s.f3 0) 0), .bool (decide (ix (nm59 t) s.f3 0 ≥ 0))]) ∧ Below w.heap.size w w' := by
  have HB := Lib.hid (show Below w.heap.size w ((w.alloc (.cells #[.int .i64 s.f0, .int .u64 s.f1, .slice A2 s.f2.length c2, .slice A3 s.f3.length c3, .slice A4 s.f4.length c4, .slice A5 s.f5.length c5, .slice A6 s.f6.length c6, .slice A7 s.f7.length c7, .slice A8 s.f8.length c8, .int .i64 s.f9] 31 (0, 0))).alloc (.cells #[.string t] 9 (0, 0))) from below_alloc (below_alloc (Below.refl _ _) _) _)
  have hz : (w.alloc (.cells #[.int .i64 s.f0, .int .u64 s.f1, .slice A2 s.f2.length c2, .slice A3 s.f3.length c3, .slice A4 s.f4.length c4, .slice A5 s.f5.length c5, .slice A6 s.f6.length c6, .slice A7 s.f7.length c7, .slice A8 s.f8.length c8, .int .i64 s.f9] 31 (0, 0))).heap.size = w.heap.size + 1 := by show (w.heap.push _).size = _; rw [Array.size_push]
  have hyt := new_blk (w.alloc (.cells #[.int .i64 s.f0, .int .u64 s.f1, .slice A2 s.f2.length c2, .slice A3 s.f3.length c3, .slice A4 s.f4.length c4, .slice A5 s.f5.length c5, .slice A6 s.f6.length c6, .slice A7 s.f7.length c7, .slice A8 s.f8.length c8, .int .i64 s.f9] 31 (0, 0))) (.cells #[.string t] 9 (0, 0))
  rw [hz] at hyt
  have HCALL := Lib.hid (place_any s.f3 t A3 c3 (w.heap.size + 1) ((w.alloc (.cells #[.int .i64 s.f0, .int .u64 s.f1, .slice A2 s.f2.length c2, .slice A3 s.f3.length c3, .slice A4 s.f4.length c4, .slice A5 s.f5.length c5, .slice A6 s.f6.length c6, .slice A7 s.f7.length c7, .slice A8 s.f8.length c8, .int .i64 s.f9] 31 (0, 0))).alloc (.cells #[.string t] 9 (0, 0))) (Kd.C_below hs.g3 HB.out) hyt)
  clear hs hyt hz
  generalize ix (nm59 t) s.f3 0 = i at *
  go_enter Tryz.func48, Tryz.ntmps48
  go_wp2_with fail
  refine HCALL.out.mono ?_
  rintro e w2 ⟨rfl, hb⟩
  go_wp2
  go_ret2
  exact ⟨rfl, below_tr HB.out hb⟩
end Go.Proofs.YtafigkikblpbnaaGreat.PG
