import Derived.Test.YtdpcfamgmicboacPDueOfx0
import Derived.Test.YtdpcfamgmicboacDueExtOf
import Derived.WalkSpells
import Derived.WalkLawsBesides
import Derived.Lib.Hide
namespace Go.Proofs.Ytdpcfamgmicboac.PDueOf
open Go.RowKit Go.Proofs.YtdpcfamgmicboacW.PrintWords Go.Proofs.YtdpcfamgmicboacW.PrintLast Go.Proofs.YtdpcfamgmicboacW.PrintMore

set_option maxHeartbeats 400000 in
theorem at1r_any (nm name m : ByteArray) (o d t : Int) (ks : Value) (p : Addr) (w : World) (hc : w.cell? p = some (.string name)) :
    Calls Try.prog 34 #[.agg #[.string nm, .int .i64 o, .int .i64 d, .string m, ks, .int .i64 t], .pointer (some p)] w fun e w' => e = .returned (.bool (nm.toList == name.toList)) ∧ Below w.heap.size w w' := by
  have hlt := World.block_lt_of_cell? w p hc
  have hne : p.block ≠ w.heap.size := by omega
  have hc2 : ∀ o, (w.alloc o).cell? p = some (.string name) := fun o => (Below.cell (below_alloc (Below.refl _ _) o) hlt).trans hc
  go_enter Try.func34, Try.ntmps34
  go_wp2
  go_ret
  exact ⟨rfl, below_alloc (Below.refl _ _) _⟩

theorem drop_rd49 {l : List S49} {i : Nat} (h : i < l.length) : l.drop i = rd_T49 l (i : Int) :: l.drop (i + 1) := by
  rw [List.drop_eq_getElem_cons h]
  simp [rd_T49, List.getElem?_eq_getElem h, List.getD_eq_getElem?_getD]
def isN (name : ByteArray) (x : S49) : Bool := x.f0.toList == name.toList

set_option maxHeartbeats 400000 in
theorem idxr_any (name : ByteArray) (A : Option Addr) (c : Nat) (l : List S49) (p : Addr) (w : World) (hr : Kd.C k49 w A l.length l) (hp : w.cell? p = some (.string name)) :
    Calls Try.prog 33 #[.slice A l.length c, .func (Fn.func 34) #[] #[.pointer (some p)]] w fun e w' => e = .returned (.int .i64 (ix (isN name) l 0)) ∧ Below w.heap.size w w' := by
  have hm : l.length ≤ 9223372036854775807 := hr.2.1
  go_enter Try.func33, Try.ntmps33
  go_wp2
  go_loopw [8] (fun v8 wr => ∃ k : Nat, k ≤ l.length ∧ v8 = .int .i64 k ∧ Aside0 (Below w.heap.size w wr) ∧ Aside0 (ix (isN name) l 0 = ix (isN name) (l.drop k) k)) (fun v8 _ => l.length - (intOf v8).toNat)
  case atStart => exact ⟨0, Nat.zero_le _, rfl, ⟨Below.refl _ _⟩, ⟨by rw [List.drop_zero]⟩⟩
  case round =>
    obtain ⟨k, hk, rfl, HB, HI⟩ := hrel
    by_cases hlt : k < l.length
    · obtain ⟨ad, A4, c4, e, h0, h1, h2, h3, h4, h5, _, _⟩ := at_T49 (Kd.C_below hr HB.out) (k : Int) (by omega) (by omega)
      subst e
      simp only [Int.toNat_natCast] at h0 h1 h2 h3 h4 h5
      have hd := drop_rd49 hlt
      have HI2 := Lib.hid (show ix (isN name) l 0 = if ((rd_T49 l (k : Int)).f0.toList == name.toList) = true then (k : Int) else ix (isN name) (l.drop (k + 1)) (k + 1) by rw [HI.out, hd]; rfl)
      clear hd
      generalize rd_T49 l (k : Int) = x at *
      by_cases ht : (x.f0.toList == name.toList) = true
      · have HT := Lib.hid ht
        go_wp2_with (go_at_call 34; refine (at1r_any x.f0 name _ _ _ _ _ p _ (below_cell HB.out hp)).mono ?_; rintro e w2 ⟨rfl, hb⟩; clear h0 h1 h2 h3 h4 h5)
        go_ret
        exact ⟨ret_i (by rw [HI2.out, if_pos HT.out]), below_tr HB.out hb⟩
      · have HT := Lib.hid ht
        have hf : (x.f0.toList == name.toList) = false := Bool.eq_false_iff.mpr ht
        clear ht
        go_wp2_with (go_at_call 34; refine (at1r_any x.f0 name _ _ _ _ _ p _ (below_cell HB.out hp)).mono ?_; rintro e w2 ⟨rfl, hb⟩; clear h0 h1 h2 h3 h4 h5)
        go_roundw
        case rel => exact ⟨k + 1, by omega, by go_num, ⟨below_tr HB.out hb⟩, ⟨by rw [HI2.out, if_neg HT.out]⟩⟩
        case measure => simp [intOf]; omega
    · have hk2 : k = l.length := by omega
      have HK := Lib.hid hk2
      clear hk2
      go_wp2
      go_ret
      exact ⟨ret_i (by rw [HI.out, HK.out, List.drop_of_length_le (Nat.le_refl _)]; rfl), HB.out⟩

set_option maxHeartbeats 8000000 in
set_option maxRecDepth 100000 in
theorem find_any (P0_ : Nat → Prop) (A0 : Option Addr) (c0 : Nat) (l0 : List S49) (a1 : ByteArray) (w : World) (hs0 : Kd.V k49 49 w w.heap.size (fun k_ => P0_ k_) (.slice A0 l0.length c0) l0) (x : S49) (b : Bool) (hx : (if 0 ≤ ix (isN a1) l0 0 then (rd_T49 l0 (ix (isN a1) l0 0), true) else if 0 ≤ ix (isN ⟨#[]⟩) l0 0 then (rd_T49 l0 (ix (isN ⟨#[]⟩) l0 0), true) else (z49, false)) = (x, b)) :
    Calls Try.prog 28 #[.slice A0 l0.length c0, .string a1] w fun e w' => ∃ v4_ : Value, e = .returned (.tuple #[.agg #[.string x.f0, .int .i64 x.f1.f0, .int .i64 x.f1.f1, .string x.f1.f2, v4_, .int .i64 x.f2], .bool b]) ∧ Kd.V k24 24 w' w.heap.size (fun k_ => (P0_ k_ ∨ w.heap.size ≤ k_)) v4_ x.f1.f3 ∧ Below w.heap.size w w' := by
  have hu49 := Try.underlying49
  have HX := Lib.hid hx
  clear hx
  have HO0 := Aside0.mk (show Kd.V k49 49 w w.heap.size (fun k_ => (P0_ k_ ∨ w.heap.size ≤ k_)) (.slice A0 l0.length c0) l0 from Kd.V_mono hs0 (fun k_ hk => .inl hk))
  go_enter Try.func28, Try.ntmps28
  go_wp2_with (first | ((with_reducible refine gate_dst (N := 4) rfl ?_); refine box_event ?hg (N := 4) ?hd (cs := #[.string (⟨#[]⟩ : ByteArray), .int .i64 0, .int .i64 0, .string (⟨#[]⟩ : ByteArray), .slice none 0 0, .int .i64 0]) (t := 49) ?hr ?_; (case hd => rfl); (case hg => rfl); (case hr => first | (go_simp; done) | (go_simp; rfl)); intro gb4 hggb4 wgb4 hbox hbgb4; have HVb := Lib.hid (Kd.V_below (Kd.V_elderB HO0.out gb4 (Nat.le_of_eq hggb4.symm)) hbgb4); have Hg4 := Lib.hid (show w.heap.size ≤ gb4 by omega); clear hggb4))
  have HV0 := Kd.V_alloc HVb.out (.cells #[.string a1, .string (⟨#[]⟩ : ByteArray)] 9)
  have hB0 := below_alloc hbgb4 (.cells #[.string a1, .string (⟨#[]⟩ : ByteArray)] 9)
  have hL0 : (wgb4.alloc (.cells #[.string a1, .string (⟨#[]⟩ : ByteArray)] 9)).cell? ⟨wgb4.heap.size, 0, none⟩ = some (.string a1) := by simp
  have hL1 : (wgb4.alloc (.cells #[.string a1, .string (⟨#[]⟩ : ByteArray)] 9)).cell? ⟨wgb4.heap.size, 1, none⟩ = some (.string (⟨#[]⟩ : ByteArray)) := by simp
  have hG : (wgb4.alloc (.cells #[.string a1, .string (⟨#[]⟩ : ByteArray)] 9)).heap[gb4]? = wgb4.heap[gb4]? := by
    rw [hbox]; exact blk_alloc hbox _
  rw [hbox] at hG
  generalize hwL : wgb4.alloc (.cells #[.string a1, .string (⟨#[]⟩ : ByteArray)] 9) = wL at *
  have hbL : wgb4.heap.size < wL.heap.size := World.block_lt_of_cell? wL _ hL0
  have h4L : gb4 < wL.heap.size := (Array.getElem?_eq_some_iff.1 hG).1
  have hsL : w.heap.size ≤ wL.heap.size := hB0.size
  have hg4 : w.heap.size ≤ gb4 := Hg4.out
  have hCL := (Kd.V_reads' HV0).2.2
  generalize wgb4.heap.size = bl at *
  clear hwL hbox hbgb4
  go_loopw [12] (fun v12 wr => ∃ k : Nat, k ≤ 2 ∧ v12 = .int .i64 k ∧ Aside0 (Below wL.heap.size wL wr) ∧ Aside0 (1 ≤ k → ¬ 0 ≤ ix (isN a1) l0 0) ∧ Aside0 (2 ≤ k → ¬ 0 ≤ ix (isN ⟨#[]⟩) l0 0)) (fun v12 _ => 2 - (intOf v12).toNat)
  case atStart => exact ⟨0, by omega, rfl, ⟨Below.refl _ _⟩, ⟨fun h => by omega⟩, ⟨fun h => by omega⟩⟩
  case round =>
    obtain ⟨k, hk, rfl, HB, HI1, HI2⟩ := hrel
    have hL0' := below_cell HB.out hL0
    have hL1' := below_cell HB.out hL1
    have hk3 : k = 0 ∨ k = 1 ∨ k = 2 := by omega
    rcases hk3 with rfl | rfl | rfl
    · have hi := ix_range (isN a1) l0 0
      have hcall := Lib.hid (idxr_any a1 A0 c0 l0 ⟨wr.heap.size, 0, none⟩ (wr.alloc (.cells #[.string a1] 9)) (Kd.C_below hCL (below_alloc HB.out _)) (by simp))
      generalize hiv : ix (isN a1) l0 0 = iv at hi hcall
      have HIV := Lib.hid hiv
      clear hiv
      by_cases h0 : 0 ≤ iv
      · have hge := Lib.hid (show 0 ≤ ix (isN a1) l0 0 by rw [HIV.out]; exact h0)
        have hilt : iv < l0.length := by omega
        have hb0 : decide (iv ≥ 0) = true := decide_eq_true h0
        have hxb := (by have hh := HX.out; rw [if_pos hge.out] at hh; exact hh)
        rw [HIV.out] at hxb
        obtain ⟨hx1, hx2⟩ := Prod.mk.inj hxb
        subst hx2
        clear hxb hi
        obtain ⟨ad, A4, c4, e, g0, g1, g2, g3, g4, g5, gl, _⟩ := at_T49 hCL iv (by omega) (by omega)
        subst e
        obtain ⟨ce, hce, hMe, hcc⟩ := Kd.V_get HV0 z49 iv (by omega) (by omega)
        obtain ⟨ua4, uc4, rfl, ul4, ge4⟩ := k49_openF hMe
        have hv4 := hcc 4 _ rfl
        rw [add_field _ _ 4 (by omega)] at hv4
        replace hv4 := Option.some.inj (hv4.symm.trans g4)
        injection hv4 with hva_ hvn_ hvc_
        rw [hva_] at ge4
        rw [hvc_] at ul4
        have HL := show Kd.V k24 24 wL w.heap.size _ _ ((rd_T49 l0 iv).f1.f3) from Kd.V_mk ul4 ge4
        clear hcc hce hva_ hvn_ hvc_ ge4 ul4
        rw [hx1] at g0 g1 g2 g3 g4 g5 HL
        clear hx1
        have HL := Lib.hid HL
        go_wp2_with (go_at_call 33; refine hcall.out.mono ?_; rintro e w2 ⟨rfl, hb⟩; have HB2 := Lib.hid (below_tr (below_alloc HB.out _) hb); have G4 := blk_below hG HB2.out; have g0 := below_cell HB2.out g0; have g1 := below_cell HB2.out g1; have g2 := below_cell HB2.out g2; have g3 := below_cell HB2.out g3; have g4 := below_cell HB2.out g4; have g5 := below_cell HB2.out g5; have q0 := (blk_cell G4 0).trans rfl; have q1 := (blk_cell G4 1).trans rfl; have q2 := (blk_cell G4 2).trans rfl; have q3 := (blk_cell G4 3).trans rfl; have q4 := (blk_cell G4 4).trans rfl; have q5 := (blk_cell G4 5).trans rfl; have z0 := blk_frozen G4 0; have z1 := blk_frozen G4 1; have z2 := blk_frozen G4 2; have z3 := blk_frozen G4 3; have z4 := blk_frozen G4 4; have z5 := blk_frozen G4 5)
        have HBw : Below w.heap.size w w2 := below_then hB0 hsL HB2.out
        refine bodyPost_ret (results_ct rfl _ _ gb4 49 #[.string x.f0, .int .i64 x.f1.f0, .int .i64 x.f1.f1, .string x.f1.f2, .slice A4 x.f1.f3.length c4, .int .i64 x.f2] (0, 0) _ rfl (by refine blk_put (cs := #[.string x.f0, .int .i64 x.f1.f0, .int .i64 x.f1.f1, .string x.f1.f2, .slice A4 x.f1.f3.length c4, .int .i64 0]) ?_ 5 _ rfl; refine blk_put (cs := #[.string x.f0, .int .i64 x.f1.f0, .int .i64 x.f1.f1, .string x.f1.f2, .slice none 0 0, .int .i64 0]) ?_ 4 _ rfl; refine blk_put (cs := #[.string x.f0, .int .i64 x.f1.f0, .int .i64 x.f1.f1, .string (⟨#[]⟩ : ByteArray), .slice none 0 0, .int .i64 0]) ?_ 3 _ rfl; refine blk_put (cs := #[.string x.f0, .int .i64 x.f1.f0, .int .i64 0, .string (⟨#[]⟩ : ByteArray), .slice none 0 0, .int .i64 0]) ?_ 2 _ rfl; refine blk_put (cs := #[.string x.f0, .int .i64 0, .int .i64 0, .string (⟨#[]⟩ : ByteArray), .slice none 0 0, .int .i64 0]) ?_ 1 _ rfl; refine blk_put (cs := #[.string (⟨#[]⟩ : ByteArray), .int .i64 0, .int .i64 0, .string (⟨#[]⟩ : ByteArray), .slice none 0 0, .int .i64 0]) ?_ 0 _ rfl; exact G4) Try.underlying49 rfl (by kernel_rfl)) rfl ?_
        exact ⟨_, rfl, Kd.V_mono (Kd.V_far (p := ⟨gb4, 5, none⟩) (Kd.V_far (p := ⟨gb4, 4, none⟩) (Kd.V_far (p := ⟨gb4, 3, none⟩) (Kd.V_far (p := ⟨gb4, 2, none⟩) (Kd.V_far (p := ⟨gb4, 1, none⟩) (Kd.V_far (p := ⟨gb4, 0, none⟩) (Kd.V_mono (Kd.V_below HL.out HB2.out) (fun k_ hk => (⟨hk, hk.2⟩ : _ ∧ k_ ≠ gb4))) (fun _ hk => hk.2) (.string x.f0)) (fun _ hk => hk.2) (.int .i64 x.f1.f0)) (fun _ hk => hk.2) (.int .i64 x.f1.f1)) (fun _ hk => hk.2) (.string x.f1.f2)) (fun _ hk => hk.2) (.slice A4 x.f1.f3.length c4)) (fun _ hk => hk.2) (.int .i64 x.f2)) (fun _ hk => hk.1.1), by (with_reducible refine below_set (below_set (below_set (below_set (below_set (below_set HBw hg4) hg4) hg4) hg4) hg4) hg4)⟩
      · have hlt := Lib.hid (show ¬ 0 ≤ ix (isN a1) l0 0 by rw [HIV.out]; exact h0)
        have hb0 : decide (iv ≥ 0) = false := decide_eq_false h0
        clear h0 hi
        go_wp2_with (go_at_call 33; refine hcall.out.mono ?_; rintro e w2 ⟨rfl, hb⟩; have HB2 := Lib.hid (below_tr (below_alloc HB.out _) hb))
        go_roundw
        case rel => exact ⟨1, by omega, by go_num, ⟨HB2.out⟩, ⟨by intro _; have h1 := hlt.out; have h2 := HIV.out; omega⟩, ⟨fun h => by omega⟩⟩
        case measure => simp [intOf]
    · have hi := ix_range (isN ⟨#[]⟩) l0 0
      have hcall := Lib.hid (idxr_any ⟨#[]⟩ A0 c0 l0 ⟨wr.heap.size, 0, none⟩ (wr.alloc (.cells #[.string ⟨#[]⟩] 9)) (Kd.C_below hCL (below_alloc HB.out _)) (by simp))
      generalize hiv : ix (isN ⟨#[]⟩) l0 0 = iv at hi hcall
      have HIV := Lib.hid hiv
      clear hiv
      by_cases h0 : 0 ≤ iv
      · have hge := Lib.hid (show 0 ≤ ix (isN ⟨#[]⟩) l0 0 by rw [HIV.out]; exact h0)
        have hilt : iv < l0.length := by omega
        have hb0 : decide (iv ≥ 0) = true := decide_eq_true h0
        have hxb := (by have hh := HX.out; rw [if_neg (HI1.out (by omega)), if_pos hge.out] at hh; exact hh)
        rw [HIV.out] at hxb
        obtain ⟨hx1, hx2⟩ := Prod.mk.inj hxb
        subst hx2
        clear hxb hi
        obtain ⟨ad, A4, c4, e, g0, g1, g2, g3, g4, g5, gl, _⟩ := at_T49 hCL iv (by omega) (by omega)
        subst e
        obtain ⟨ce, hce, hMe, hcc⟩ := Kd.V_get HV0 z49 iv (by omega) (by omega)
        obtain ⟨ua4, uc4, rfl, ul4, ge4⟩ := k49_openF hMe
        have hv4 := hcc 4 _ rfl
        rw [add_field _ _ 4 (by omega)] at hv4
        replace hv4 := Option.some.inj (hv4.symm.trans g4)
        injection hv4 with hva_ hvn_ hvc_
        rw [hva_] at ge4
        rw [hvc_] at ul4
        have HL := show Kd.V k24 24 wL w.heap.size _ _ ((rd_T49 l0 iv).f1.f3) from Kd.V_mk ul4 ge4
        clear hcc hce hva_ hvn_ hvc_ ge4 ul4
        rw [hx1] at g0 g1 g2 g3 g4 g5 HL
        clear hx1
        have HL := Lib.hid HL
        go_wp2_with (go_at_call 33; refine hcall.out.mono ?_; rintro e w2 ⟨rfl, hb⟩; have HB2 := Lib.hid (below_tr (below_alloc HB.out _) hb); have G4 := blk_below hG HB2.out; have g0 := below_cell HB2.out g0; have g1 := below_cell HB2.out g1; have g2 := below_cell HB2.out g2; have g3 := below_cell HB2.out g3; have g4 := below_cell HB2.out g4; have g5 := below_cell HB2.out g5; have q0 := (blk_cell G4 0).trans rfl; have q1 := (blk_cell G4 1).trans rfl; have q2 := (blk_cell G4 2).trans rfl; have q3 := (blk_cell G4 3).trans rfl; have q4 := (blk_cell G4 4).trans rfl; have q5 := (blk_cell G4 5).trans rfl; have z0 := blk_frozen G4 0; have z1 := blk_frozen G4 1; have z2 := blk_frozen G4 2; have z3 := blk_frozen G4 3; have z4 := blk_frozen G4 4; have z5 := blk_frozen G4 5)
        have HBw : Below w.heap.size w w2 := below_then hB0 hsL HB2.out
        refine bodyPost_ret (results_ct rfl _ _ gb4 49 #[.string x.f0, .int .i64 x.f1.f0, .int .i64 x.f1.f1, .string x.f1.f2, .slice A4 x.f1.f3.length c4, .int .i64 x.f2] (0, 0) _ rfl (by refine blk_put (cs := #[.string x.f0, .int .i64 x.f1.f0, .int .i64 x.f1.f1, .string x.f1.f2, .slice A4 x.f1.f3.length c4, .int .i64 0]) ?_ 5 _ rfl; refine blk_put (cs := #[.string x.f0, .int .i64 x.f1.f0, .int .i64 x.f1.f1, .string x.f1.f2, .slice none 0 0, .int .i64 0]) ?_ 4 _ rfl; refine blk_put (cs := #[.string x.f0, .int .i64 x.f1.f0, .int .i64 x.f1.f1, .string (⟨#[]⟩ : ByteArray), .slice none 0 0, .int .i64 0]) ?_ 3 _ rfl; refine blk_put (cs := #[.string x.f0, .int .i64 x.f1.f0, .int .i64 0, .string (⟨#[]⟩ : ByteArray), .slice none 0 0, .int .i64 0]) ?_ 2 _ rfl; refine blk_put (cs := #[.string x.f0, .int .i64 0, .int .i64 0, .string (⟨#[]⟩ : ByteArray), .slice none 0 0, .int .i64 0]) ?_ 1 _ rfl; refine blk_put (cs := #[.string (⟨#[]⟩ : ByteArray), .int .i64 0, .int .i64 0, .string (⟨#[]⟩ : ByteArray), .slice none 0 0, .int .i64 0]) ?_ 0 _ rfl; exact G4) Try.underlying49 rfl (by kernel_rfl)) rfl ?_
        exact ⟨_, rfl, Kd.V_mono (Kd.V_far (p := ⟨gb4, 5, none⟩) (Kd.V_far (p := ⟨gb4, 4, none⟩) (Kd.V_far (p := ⟨gb4, 3, none⟩) (Kd.V_far (p := ⟨gb4, 2, none⟩) (Kd.V_far (p := ⟨gb4, 1, none⟩) (Kd.V_far (p := ⟨gb4, 0, none⟩) (Kd.V_mono (Kd.V_below HL.out HB2.out) (fun k_ hk => (⟨hk, hk.2⟩ : _ ∧ k_ ≠ gb4))) (fun _ hk => hk.2) (.string x.f0)) (fun _ hk => hk.2) (.int .i64 x.f1.f0)) (fun _ hk => hk.2) (.int .i64 x.f1.f1)) (fun _ hk => hk.2) (.string x.f1.f2)) (fun _ hk => hk.2) (.slice A4 x.f1.f3.length c4)) (fun _ hk => hk.2) (.int .i64 x.f2)) (fun _ hk => hk.1.1), by (with_reducible refine below_set (below_set (below_set (below_set (below_set (below_set HBw hg4) hg4) hg4) hg4) hg4) hg4)⟩
      · have hlt := Lib.hid (show ¬ 0 ≤ ix (isN ⟨#[]⟩) l0 0 by rw [HIV.out]; exact h0)
        have hb0 : decide (iv ≥ 0) = false := decide_eq_false h0
        clear h0 hi
        go_wp2_with (go_at_call 33; refine hcall.out.mono ?_; rintro e w2 ⟨rfl, hb⟩; have HB2 := Lib.hid (below_tr (below_alloc HB.out _) hb))
        go_roundw
        case rel => exact ⟨2, by omega, by go_num, ⟨HB2.out⟩, ⟨by intro _; have h1 := HI1.out (by omega); omega⟩, ⟨by intro _; have h1 := hlt.out; have h2 := HIV.out; omega⟩⟩
        case measure => simp [intOf]
    · have hxb := (by have hh := HX.out; rw [if_neg (HI1.out (by omega)), if_neg (HI2.out (by omega))] at hh; exact hh : (z49, false) = (x, b))
      obtain ⟨hx1, hx2⟩ := Prod.mk.inj hxb
      subst hx1 hx2
      have G4 := blk_below hG HB.out
      have q0 := (blk_cell G4 0).trans rfl; have q1 := (blk_cell G4 1).trans rfl; have q2 := (blk_cell G4 2).trans rfl; have q3 := (blk_cell G4 3).trans rfl; have q4 := (blk_cell G4 4).trans rfl; have q5 := (blk_cell G4 5).trans rfl; have z0 := blk_frozen G4 0; have z1 := blk_frozen G4 1; have z2 := blk_frozen G4 2; have z3 := blk_frozen G4 3; have z4 := blk_frozen G4 4; have z5 := blk_frozen G4 5
      go_wp2
      have HBw : Below w.heap.size w wr := below_then hB0 hsL HB.out
      refine bodyPost_ret (results_ct rfl _ _ gb4 49 #[.string (⟨#[]⟩ : ByteArray), .int .i64 0, .int .i64 0, .string (⟨#[]⟩ : ByteArray), .slice none 0 0, .int .i64 0] (0, 0) _ rfl (by refine blk_put (cs := #[.string (⟨#[]⟩ : ByteArray), .int .i64 0, .int .i64 0, .string (⟨#[]⟩ : ByteArray), .slice none 0 0, .int .i64 0]) ?_ 5 _ rfl; refine blk_put (cs := #[.string (⟨#[]⟩ : ByteArray), .int .i64 0, .int .i64 0, .string (⟨#[]⟩ : ByteArray), .slice none 0 0, .int .i64 0]) ?_ 4 _ rfl; refine blk_put (cs := #[.string (⟨#[]⟩ : ByteArray), .int .i64 0, .int .i64 0, .string (⟨#[]⟩ : ByteArray), .slice none 0 0, .int .i64 0]) ?_ 3 _ rfl; refine blk_put (cs := #[.string (⟨#[]⟩ : ByteArray), .int .i64 0, .int .i64 0, .string (⟨#[]⟩ : ByteArray), .slice none 0 0, .int .i64 0]) ?_ 2 _ rfl; refine blk_put (cs := #[.string (⟨#[]⟩ : ByteArray), .int .i64 0, .int .i64 0, .string (⟨#[]⟩ : ByteArray), .slice none 0 0, .int .i64 0]) ?_ 1 _ rfl; refine blk_put (cs := #[.string (⟨#[]⟩ : ByteArray), .int .i64 0, .int .i64 0, .string (⟨#[]⟩ : ByteArray), .slice none 0 0, .int .i64 0]) ?_ 0 _ rfl; exact G4) Try.underlying49 rfl (by kernel_rfl)) rfl ?_
      exact ⟨_, rfl, Kd.V_nil _ _ _ _ _, by (with_reducible refine below_set (below_set (below_set (below_set (below_set (below_set HBw hg4) hg4) hg4) hg4) hg4) hg4)⟩

def find2 (l0 : List S49) (a1 : ByteArray) : S49 × Bool := if 0 ≤ ix (isN a1) l0 0 then (rd_T49 l0 (ix (isN a1) l0 0), true) else if 0 ≤ ix (isN ⟨#[]⟩) l0 0 then (rd_T49 l0 (ix (isN ⟨#[]⟩) l0 0), true) else (z49, false)
def rule_Find.f (l0 : List S49) (a1 : ByteArray) : Option (ByteArray × Int × Int × ByteArray × (List (S24)) × Int × Bool) :=
  some ((find2 l0 a1).1.f0, (find2 l0 a1).1.f1.f0, (find2 l0 a1).1.f1.f1, (find2 l0 a1).1.f1.f2, (find2 l0 a1).1.f1.f3, (find2 l0 a1).1.f2, (find2 l0 a1).2)
theorem rule_Find.calls (P0_ : Nat → Prop) (A0 : Option Addr) (c0 : Nat) (l0 : List (S49)) (a1 : ByteArray) (r1 : ByteArray) (r2 : Int) (r3 : Int) (r4 : ByteArray) (r5 : List (S24)) (r6 : Int) (r7 : Bool) (w : World) (hs0 : Kd.V k49 49 w w.heap.size (fun k_ => P0_ k_) (.slice A0 l0.length c0) l0) (h : rule_Find.f l0 a1 = some (r1, r2, r3, r4, r5, r6, r7)) :
    Calls Try.prog 28 #[.slice A0 l0.length c0, .string a1] w fun e w' => ∃ v4_ : Value, e = .returned (.tuple #[.agg #[.string r1, .int .i64 r2, .int .i64 r3, .string r4, v4_, .int .i64 r6], .bool r7]) ∧ Kd.V k24 24 w' w.heap.size (fun k_ => (P0_ k_ ∨ w.heap.size ≤ k_)) v4_ r5 ∧ Below w.heap.size w w' := by
  unfold rule_Find.f at h
  simp only [Option.some.injEq, Prod.mk.injEq] at h
  obtain ⟨rfl, rfl, rfl, rfl, rfl, rfl, rfl⟩ := h
  exact find_any P0_ A0 c0 l0 a1 w hs0 _ _ rfl
end Go.Proofs.Ytdpcfamgmicboac.PDueOf
