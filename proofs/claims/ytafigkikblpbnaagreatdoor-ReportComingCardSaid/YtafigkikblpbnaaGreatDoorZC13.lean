/- The holds on a record, as the document says. When a condition is due, in plain lists. The program's When. Days later. The document's When over a milestone. The document's When; no condition beyond each theorem its own. -/
import Derived.Test.YtafigkikblpbnaaGreatDoorZC11
import Derived.Test.YtafigkikblpbnaaGreatDoorZC12
import Derived.Test.YtafigkikblpbnaaGreatDoorZC02
import Derived.Test.YtafigkikblpbnaaGreatDoorZC03
import Derived.WalkSpells
import Derived.WalkLawsBesides
import Derived.Lib.Hide
import Derived.Test.YtafigkikblpbnaaGreatDoorZC04
namespace Go.Proofs.YtafigkikblpbnaaGreatDoor.PG
open Go.RowKit Go.Proofs.YtafigkikblpbnaaGreatDoorW.PrintWords Go.Proofs.YtafigkikblpbnaaGreatDoorW.PrintLast Go.Proofs.YtafigkikblpbnaaGreatDoorW.PrintMore
set_option linter.unusedVariables false
set_option linter.unusedSimpArgs false
set_option maxRecDepth 100000
theorem tab25_5 : rtab .any (opsOf Tryz.f27 5) = (true, [([], []), ([], []), ([0, 1], [0, 1]), ([2], [2]), ([3], [3]), ([4], [4]), ([5], [5]), ([5], [5]), ([6, 7, 5], [5, 6, 7]), ([8, 5], [5, 8]), ([9, 5], [5, 9]), ([5], [5]), ([10, 11, 5, 5], [5, 10, 11]), ([5, 12], [5, 12])]) := by kernel_rfl

/-- The names of the holds that hold a record. -/
def onL (d : Nat) (l : List S78) (r : S48) : List ByteArray := (l.filter fun x => x.f2 && mt d x.f1 r).map (·.f0)
theorem onL_len (d : Nat) (l : List S78) (r : S48) : (onL d l r).length ≤ l.length := by
  unfold onL
  rw [List.length_map]
  exact List.length_filter_le _ _
theorem take_rd100 {l : List S78} {k : Nat} (h : k < l.length) : l.take (k + 1) = l.take k ++ [rd_T78 l (k : Int)] := by
  have : rd_T78 l (k : Int) = l[k] := by unfold rd_T78; rw [Int.toNat_natCast, List.getD_eq_getElem?_getD, List.getElem?_eq_getElem h]; rfl
  rw [this, List.take_succ_eq_append_getElem h]
theorem onL_snoc (d : Nat) (l : List S78) (r : S48) (y : S78) : onL d (l ++ [y]) r = onL d l r ++ (if (y.f2 && mt d y.f1 r) = true then [y.f0] else []) := by
  unfold onL
  rw [List.filter_append, List.map_append, List.filter_cons]
  split <;> rfl
theorem onL_any (d : Nat) (l : List S78) (r : S48) : decide (0 < (onL d l r).length) = heldP d l r := by
  unfold onL heldP
  rw [List.length_map]
  induction l with
  | nil => rfl
  | cons x l ih =>
    rw [List.filter_cons, List.any_cons]
    cases h : (x.f2 && mt d x.f1 r)
    · rw [if_neg (by decide), Bool.false_or]; exact ih
    · rw [if_pos rfl, Bool.true_or]; simp
set_option maxHeartbeats 2000000 in
theorem On_any (d : Nat) (l : List S78) (r : S48) (A : Option Addr) (c : Nat) (W : World) (hd : ∀ x ∈ l, dp d x.f1) (hC : Kd.C k78 W A l.length l) (hn : l.length ≤ 1000000) :
    Calls Tryz.prog 27 #[.slice A l.length c, .agg #[.string r.f0, .string r.f1, .string r.f2, .string r.f3, .int .i64 r.f4, .int .i64 r.f5]] W fun e w' => ∃ A' c', e = .returned (.slice A' (onL d l r).length c') ∧ Below W.heap.size W w' := by
  have HB := Lib.hid (show Below W.heap.size W (W.alloc (.cells #[.string r.f0, .string r.f1, .string r.f2, .string r.f3, .int .i64 r.f4, .int .i64 r.f5] 48 (0, 0))) from below_alloc (Below.refl _ _) _)
  have HY := Lib.hid (new_blk W (.cells #[.string r.f0, .string r.f1, .string r.f2, .string r.f3, .int .i64 r.f4, .int .i64 r.f5] 48 (0, 0)))
  have HC := Lib.hid (Kd.C_below hC HB.out)
  have HD := Lib.hid hd
  clear hC hd
  go_enter Tryz.func27, Tryz.ntmps27
  go_wp2
  generalize W.alloc (.cells #[.string r.f0, .string r.f1, .string r.f2, .string r.f3, .int .i64 r.f4, .int .i64 r.f5] 48 (0, 0)) = W1 at *
  go_loopw [5, 6] (fun v5 v6 wr => ∃ k : Nat, v6 = .int .i64 k ∧ k ≤ l.length ∧ Aside0 (Kd.R Kd.string 9 wr W1.heap.size (fun _ => True) v5 (onL d (l.take k) r)) ∧ Aside0 (Below W1.heap.size W1 wr)) (fun _ v6 _ => l.length - (intOf v6).toNat)
  case atStart => exact ⟨0, rfl, Nat.zero_le _, ⟨Kd.R_nil _ _ _ _ _⟩, ⟨Below.refl _ _⟩⟩
  case round =>
    obtain ⟨k, rfl, hk, HO, HBW⟩ := hrel
    have HY2 := Lib.hid ((HBW.out.block W.heap.size (blk_lt HY.out)).trans HY.out)
    have q0 : wr.cell? ⟨W.heap.size, 0, none⟩ = some (.string r.f0) := (blk_cell HY2.out 0).trans rfl
    have q1 : wr.cell? ⟨W.heap.size, 1, none⟩ = some (.string r.f1) := (blk_cell HY2.out 1).trans rfl
    have q2 : wr.cell? ⟨W.heap.size, 2, none⟩ = some (.string r.f2) := (blk_cell HY2.out 2).trans rfl
    have q3 : wr.cell? ⟨W.heap.size, 3, none⟩ = some (.string r.f3) := (blk_cell HY2.out 3).trans rfl
    have q4 : wr.cell? ⟨W.heap.size, 4, none⟩ = some (.int .i64 r.f4) := (blk_cell HY2.out 4).trans rfl
    have q5 : wr.cell? ⟨W.heap.size, 5, none⟩ = some (.int .i64 r.f5) := (blk_cell HY2.out 5).trans rfl
    by_cases hlt : k < l.length
    · have hlt2 : (k : Int) < (l.length : Int) := by omega
      obtain ⟨ad, A4, c4, e, h0, h1, h2, h3, h4, h5, h6, hl4, hC4⟩ := at_T78 (Kd.C_below HC.out HBW.out) (k : Int) (by omega) (by omega)
      subst e
      simp only [Int.toNat_natCast] at h0 h1 h2 h3 h4 h5 h6
      have HT := Lib.hid (take_rd100 hlt)
      have hdd := HD.out _ (rd_mem100 hlt)
      generalize rd_T78 l (k : Int) = y at *
      have HM := fun w' (h : Below wr.heap.size wr w') => Lib.hid (matchR_any d y.f1 r A4 c4 w' hdd (Kd.C_below hC4 h) hl4)
      have HE := Lib.hid (onL_snoc d (l.take k) r y)
      generalize hm : mt d y.f1 r = m at *
      clear hm hdd hC4 hl4
      cases hf : y.f2
      · rw [hf] at h6 HE
        go_wp2_with fail
        go_quiet (fail)
        have HB3 := Lib.hid (pw_below_drewN HBW.out nq)
        have HO3 := Lib.hid (Kd.R_drewN HO.out nq)
        go_wp2
        go_roundw
        case rel => exact ⟨k + 1, by go_num, by omega, ⟨by rw [HT.out, HE.out]; simpa using HO3.out⟩, ⟨HB3.out⟩⟩
        case measure => simp [intOf]; omega
      · rw [hf] at h6 HE
        go_wp2_with fail
        refine WL.start (n := 14) (S := fun w' => Aside0 (Below wr.heap.size wr w') ∧ w'.cell? ⟨W.heap.size, 0, none⟩ = some (.string r.f0) ∧ w'.cell? ⟨W.heap.size, 1, none⟩ = some (.string r.f1) ∧ w'.cell? ⟨W.heap.size, 2, none⟩ = some (.string r.f2) ∧ w'.cell? ⟨W.heap.size, 3, none⟩ = some (.string r.f3) ∧ w'.cell? ⟨W.heap.size, 4, none⟩ = some (.int .i64 r.f4) ∧ w'.cell? ⟨W.heap.size, 5, none⟩ = some (.int .i64 r.f5) ∧ w'.cell? (ad.add (k * 7)) = some (.string y.f0) ∧ w'.cell? ⟨(ad.add (k * 7)).block, (ad.add (k * 7)).off + 1, none⟩ = some (.int .i64 y.f1.f0) ∧ w'.cell? ⟨(ad.add (k * 7)).block, (ad.add (k * 7)).off + 2, none⟩ = some (.string y.f1.f1) ∧ w'.cell? ⟨(ad.add (k * 7)).block, (ad.add (k * 7)).off + 3, none⟩ = some (.int .i64 y.f1.f2) ∧ w'.cell? ⟨(ad.add (k * 7)).block, (ad.add (k * 7)).off + 4, none⟩ = some (.int .i64 y.f1.f3) ∧ w'.cell? ⟨(ad.add (k * 7)).block, (ad.add (k * 7)).off + 5, none⟩ = some (.slice A4 y.f1.f4.length c4) ∧ w'.cell? ⟨(ad.add (k * 7)).block, (ad.add (k * 7)).off + 6, none⟩ = some (.bool true)) (ds := []) [false, false, false, false, false, false, false, false, false, false, false, false, false, false] (by kernel_rfl) rfl rfl ⟨⟨below_drew (Below.refl _ _)⟩, q0, q1, q2, q3, q4, q5, h0, h1, h2, h3, h4, h5, h6⟩ (fun hHeld => ?_)
        refine WL.tab tab25_5 (fun HT_ => ?_)
        refine WL.more [0, 1, 2, 3, 4, 5, 6, 7, 8, 9, 10, 11, 12, 13] ?_
        repeat (first
          | (refine WL.off (lb' := ?_) (ys := ?_) rfl rfl (by rfl) ?_ HT_.out ?_ (fun _ _ _ h => h) ?_ ?_; rotate_left 2; (focus dsimp only [List.set_cons_zero, List.set_cons_succ]; rfl); (focus kernel_rfl); (focus dsimp only [List.set_cons_zero, List.set_cons_succ]; rfl))
          | (refine WL.pure (lb' := ?_) (v := ?_) (ys := ?_) rfl rfl (by rfl) ?_ HT_.out ?_ (fun _ _ _ h => h) ?_ ?_ ?_; rotate_left 3; (focus dsimp only [List.set_cons_zero, List.set_cons_succ]; rfl); (focus kernel_rfl); (focus intro w'; go_simp; with_reducible rfl); (focus dsimp only [List.set_cons_zero, List.set_cons_succ]; rfl))
          | (refine WL.take (lb' := ?_) (v := ?_) (ys := ?_) rfl rfl (by rfl) ?_ HT_.out ?_ (fun _ _ _ h => h) hHeld ?_ ?_ ?_; rotate_left 3; (focus dsimp only [List.set_cons_zero, List.set_cons_succ]; rfl); (focus kernel_rfl); (focus rintro w' ⟨s0, s1, s2, s3, s4, s5, s6, s7, s8, s9, s10, s11, s12, s13⟩; go_simp; with_reducible rfl); (focus dsimp only [List.set_cons_zero, List.set_cons_succ]; rfl))
          | (refine WL.one (lb' := ?_) rfl rfl ?_ HT_.out ?_ (by decide) (fun K hK => ?_); rotate_left; (focus dsimp only [List.set_cons_zero, List.set_cons_succ]; rfl); (focus kernel_rfl); first
              | (refine goes_ Tryz.func37 (by kernel_rfl) rfl #[.agg #[.int .i64 y.f1.f0, .string y.f1.f1, .int .i64 y.f1.f2, .int .i64 y.f1.f3, .slice A4 y.f1.f4.length c4], .agg #[.string r.f0, .string r.f1, .string r.f2, .string r.f3, .int .i64 r.f4, .int .i64 r.f5]] (by rfl) rfl rfl (by simp only [List.map_toArray, List.map_cons, List.map_nil]; rfl) ?_; (with_reducible refine ((HM _ hHeld.1.out).out).mono ?_); rintro e w3 ⟨rfl, hb⟩; refine ⟨_, rfl, ?_⟩; refine hK.out _ _ (by have h_ := hHeld.2; refine ⟨⟨below_tr hHeld.1.out hb⟩, ?_⟩; repeat (first | exact below_cell hb h_ | (refine ⟨below_cell hb h_.1, ?_⟩; replace h_ := h_.2))) (fun hHeld => ?_); clear hK K; refine WL.put (ys := ?_) ?_ ?_; rotate_left; (focus dsimp only [List.set_cons_zero, List.set_cons_succ]; rfl))))
        refine WL.done HT_.out (by kernel_rfl) ?_
        have HBW3 := Lib.hid (below_tr HBW.out hHeld.1.out)
        have HO3 := Lib.hid (Kd.R_below HO.out hHeld.1.out)
        clear q0 q1 q2 q3 q4 q5 h0 h1 h2 h3 h4 h5 h6 HY2
        obtain ⟨_, q0, q1, q2, q3, q4, q5, h0, h1, h2, h3, h4, h5, h6⟩ := hHeld
        cases m
        · go_wp2
          go_roundw
          case rel => exact ⟨k + 1, by go_num, by omega, ⟨by rw [HT.out, HE.out]; simpa using HO3.out⟩, ⟨HBW3.out⟩⟩
          case measure => simp [intOf]; omega
        · go_wp2_with ((with_reducible refine gate_builtin (b := .append) (xs := #[.tmp 27, .tmp 33]) rfl ?_); at_builtin; refine Kd.R_append Kd.string (w0 := W1) W1.heap.size rfl (.tmp 27) (.tmp 33) 34 9 (.string ⟨#[]⟩) 16 rfl Tryz.underlying34 info9 rfl (by decide) (by omega) u5 (onL d (l.take k) r) y.f0 [.string y.f0] (fun _ => True) (fun _ => False) rfl rfl rfl (fun _ hk => hk.elim) (fun _ _ => trivial) HO3.out HBW3.out HBW3.out.size (by have := onL_len d (l.take k) r; rw [List.length_take] at this; omega) ?_; intro v9 w4 ho hb hg hat; clear hg hat)
          go_roundw
          case rel => exact ⟨k + 1, by go_num, by omega, ⟨by rw [HT.out, HE.out]; simpa using ho⟩, ⟨hb⟩⟩
          case measure => simp [intOf]; omega
    · have hk2 : k = l.length := by omega
      have HE := Lib.hid (show onL d (l.take k) r = onL d l r from by rw [hk2, List.take_length])
      clear hk2
      obtain ⟨A6, c6, rfl, hl6, hC6⟩ := Kd.R_reads HO.out
      rw [HE.out]
      clear hC6
      go_wp2
      go_ret
      exact ⟨A6, c6, rfl, below_tr HB.out HBW.out⟩
end Go.Proofs.YtafigkikblpbnaaGreatDoor.PG
namespace Go.Proofs.YtafigkikblpbnaaGreatDoor.PG
set_option maxRecDepth 100000
open Go.RowKit Go.Proofs.YtafigkikblpbnaaGreatDoorW.PrintWords Go.Proofs.YtafigkikblpbnaaGreatDoorW.PrintLast Go.Proofs.YtafigkikblpbnaaGreatDoorW.PrintMore

set_option maxHeartbeats 400000 in
theorem at1r_any (nm name m : ByteArray) (o d t : Int) (ks : Value) (p : Addr) (w : World) (hc : w.cell? p = some (.string name)) :
    Calls Tryz.prog 110 #[.agg #[.string nm, .int .i64 o, .int .i64 d, .string m, ks, .int .i64 t], .pointer (some p)] w fun e w' => e = .returned (.bool (nm.toList == name.toList)) ∧ Below w.heap.size w w' := by
  have hlt := World.block_lt_of_cell? w p hc
  have hne : p.block ≠ w.heap.size := by omega
  have hc2 : ∀ o, (w.alloc o).cell? p = some (.string name) := fun o => (Below.cell (below_alloc (Below.refl _ _) o) hlt).trans hc
  go_enter Tryz.func110, Tryz.ntmps110
  go_wp2
  go_ret
  exact ⟨rfl, below_alloc (Below.refl _ _) _⟩

theorem drop_rd49 {l : List S96} {i : Nat} (h : i < l.length) : l.drop i = rd_T96 l (i : Int) :: l.drop (i + 1) := by
  rw [List.drop_eq_getElem_cons h]
  simp [rd_T96, List.getElem?_eq_getElem h, List.getD_eq_getElem?_getD]
def isN (name : ByteArray) (x : S96) : Bool := x.f0.toList == name.toList

set_option maxHeartbeats 400000 in
theorem idxr_any (name : ByteArray) (A : Option Addr) (c : Nat) (l : List S96) (p : Addr) (w : World) (hr : Kd.C k96 w A l.length l) (hp : w.cell? p = some (.string name)) :
    Calls Tryz.prog 109 #[.slice A l.length c, .func (Fn.func 110) #[] #[.pointer (some p)]] w fun e w' => e = .returned (.int .i64 (ix (isN name) l 0)) ∧ Below w.heap.size w w' := by
  have hm : l.length ≤ 9223372036854775807 := hr.2.1
  go_enter Tryz.func109, Tryz.ntmps109
  go_wp2
  go_loopw [8] (fun v8 wr => ∃ k : Nat, k ≤ l.length ∧ v8 = .int .i64 k ∧ Aside0 (Below w.heap.size w wr) ∧ Aside0 (ix (isN name) l 0 = ix (isN name) (l.drop k) k)) (fun v8 _ => l.length - (intOf v8).toNat)
  case atStart => exact ⟨0, Nat.zero_le _, rfl, ⟨Below.refl _ _⟩, ⟨by rw [List.drop_zero]⟩⟩
  case round =>
    obtain ⟨k, hk, rfl, HB, HI⟩ := hrel
    by_cases hlt : k < l.length
    · obtain ⟨ad, A4, c4, e, h0, h1, h2, h3, h4, h5, _, _⟩ := at_T96 (Kd.C_below hr HB.out) (k : Int) (by omega) (by omega)
      subst e
      simp only [Int.toNat_natCast] at h0 h1 h2 h3 h4 h5
      have hd := drop_rd49 hlt
      have HI2 := Lib.hid (show ix (isN name) l 0 = if ((rd_T96 l (k : Int)).f0.toList == name.toList) = true then (k : Int) else ix (isN name) (l.drop (k + 1)) (k + 1) by rw [HI.out, hd]; rfl)
      clear hd
      generalize rd_T96 l (k : Int) = x at *
      by_cases ht : (x.f0.toList == name.toList) = true
      · have HT := Lib.hid ht
        go_wp2_with (go_at_call 110; refine (at1r_any x.f0 name _ _ _ _ _ p _ (below_cell HB.out hp)).mono ?_; rintro e w2 ⟨rfl, hb⟩; clear h0 h1 h2 h3 h4 h5)
        go_ret
        exact ⟨ret_i (by rw [HI2.out, if_pos HT.out]), below_tr HB.out hb⟩
      · have HT := Lib.hid ht
        have hf : (x.f0.toList == name.toList) = false := Bool.eq_false_iff.mpr ht
        clear ht
        go_wp2_with (go_at_call 110; refine (at1r_any x.f0 name _ _ _ _ _ p _ (below_cell HB.out hp)).mono ?_; rintro e w2 ⟨rfl, hb⟩; clear h0 h1 h2 h3 h4 h5)
        go_roundw
        case rel => exact ⟨k + 1, by omega, by go_num, ⟨below_tr HB.out hb⟩, ⟨by rw [HI2.out, if_neg HT.out]⟩⟩
        case measure => simp [intOf]; omega
    · have hk2 : k = l.length := by omega
      have HK := Lib.hid hk2
      clear hk2
      go_wp2
      go_ret
      exact ⟨ret_i (by rw [HI.out, HK.out, List.drop_of_length_le (Nat.le_refl _)]; rfl), HB.out⟩

set_option maxHeartbeats 8000000 in
set_option maxRecDepth 100000 in
theorem find_any (P0_ : Nat → Prop) (A0 : Option Addr) (c0 : Nat) (l0 : List S96) (a1 : ByteArray) (w : World) (hs0 : Kd.V k96 96 w w.heap.size (fun k_ => P0_ k_) (.slice A0 l0.length c0) l0) (x : S96) (b : Bool) (hx : (if 0 ≤ ix (isN a1) l0 0 then (rd_T96 l0 (ix (isN a1) l0 0), true) else if 0 ≤ ix (isN ⟨#[]⟩) l0 0 then (rd_T96 l0 (ix (isN ⟨#[]⟩) l0 0), true) else (z96, false)) = (x, b)) :
    Calls Tryz.prog 78 #[.slice A0 l0.length c0, .string a1] w fun e w' => ∃ v4_ : Value, e = .returned (.tuple #[.agg #[.string x.f0, .int .i64 x.f1.f0, .int .i64 x.f1.f1, .string x.f1.f2, v4_, .int .i64 x.f2], .bool b]) ∧ Kd.V k94 94 w' w.heap.size (fun k_ => (P0_ k_ ∨ w.heap.size ≤ k_)) v4_ x.f1.f3 ∧ Below w.heap.size w w' := by
  have hu49 := Tryz.underlying96
  have HX := Lib.hid hx
  clear hx
  have HO0 := Aside0.mk (show Kd.V k96 96 w w.heap.size (fun k_ => (P0_ k_ ∨ w.heap.size ≤ k_)) (.slice A0 l0.length c0) l0 from Kd.V_mono hs0 (fun k_ hk => .inl hk))
  go_enter Tryz.func78, Tryz.ntmps78
  go_wp2_with (first | ((with_reducible refine gate_dst (N := 4) rfl ?_); refine box_event ?hg (N := 4) ?hd (cs := #[.string (⟨#[]⟩ : ByteArray), .int .i64 0, .int .i64 0, .string (⟨#[]⟩ : ByteArray), .slice none 0 0, .int .i64 0]) (t := 96) ?hr ?_; (case hd => rfl); (case hg => rfl); (case hr => first | (go_simp; done) | (go_simp; rfl)); intro gb4 hggb4 wgb4 hbox hbgb4; have HVb := Lib.hid (Kd.V_below (Kd.V_elderB HO0.out gb4 (Nat.le_of_eq hggb4.symm)) hbgb4); have Hg4 := Lib.hid (show w.heap.size ≤ gb4 by omega); clear hggb4))
  have HV0 := Kd.V_alloc HVb.out (.cells #[.string a1, .string (⟨#[]⟩ : ByteArray)] 9)
  have hB0 := below_alloc hbgb4 (.cells #[.string a1, .string (⟨#[]⟩ : ByteArray)] 9)
  have hL0 : (wgb4.alloc (.cells #[.string a1, .string (⟨#[]⟩ : ByteArray)] 9)).cell? ⟨wgb4.heap.size, 0, none⟩ = some (.string a1) := by simp
  have hL1 : (wgb4.alloc (.cells #[.string a1, .string (⟨#[]⟩ : ByteArray)] 9)).cell? ⟨wgb4.heap.size, 1, none⟩ = some (.string (⟨#[]⟩ : ByteArray)) := by simp
  have hG : (wgb4.alloc (.cells #[.string a1, .string (⟨#[]⟩ : ByteArray)] 9)).heap[gb4]? = wgb4.heap[gb4]? := by
    rw [hbox]; exact blk_alloc hbox _
  rw [hbox] at hG
  generalize hwL : wgb4.alloc (.cells #[.string a1, .string (⟨#[]⟩ : ByteArray)] 9) = wL at *
  have hbL : wgb4.heap.size < wL.heap.size := World.block_lt_of_cell? wL _ hL0
  have h4L : gb4 < wL.heap.size := (Array.getElem?_eq_some_iff.1 hG).1
  have hsL : w.heap.size ≤ wL.heap.size := hB0.size
  have hg4 : w.heap.size ≤ gb4 := Hg4.out
  have hCL := (Kd.V_reads' HV0).2.2
  generalize wgb4.heap.size = bl at *
  clear hwL hbox hbgb4
  go_loopw [12] (fun v12 wr => ∃ k : Nat, k ≤ 2 ∧ v12 = .int .i64 k ∧ Aside0 (Below wL.heap.size wL wr) ∧ Aside0 (1 ≤ k → ¬ 0 ≤ ix (isN a1) l0 0) ∧ Aside0 (2 ≤ k → ¬ 0 ≤ ix (isN ⟨#[]⟩) l0 0)) (fun v12 _ => 2 - (intOf v12).toNat)
  case atStart => exact ⟨0, by omega, rfl, ⟨Below.refl _ _⟩, ⟨fun h => by omega⟩, ⟨fun h => by omega⟩⟩
  case round =>
    obtain ⟨k, hk, rfl, HB, HI1, HI2⟩ := hrel
    have hL0' := below_cell HB.out hL0
    have hL1' := below_cell HB.out hL1
    have hk3 : k = 0 ∨ k = 1 ∨ k = 2 := by omega
    rcases hk3 with rfl | rfl | rfl
    · have hi := ix_range (isN a1) l0 0
      have hcall := Lib.hid (idxr_any a1 A0 c0 l0 ⟨wr.heap.size, 0, none⟩ (wr.alloc (.cells #[.string a1] 9)) (Kd.C_below hCL (below_alloc HB.out _)) (by simp))
      generalize hiv : ix (isN a1) l0 0 = iv at hi hcall
      have HIV := Lib.hid hiv
      clear hiv
      by_cases h0 : 0 ≤ iv
      · have hge := Lib.hid (show 0 ≤ ix (isN a1) l0 0 by rw [HIV.out]; exact h0)
        have hilt : iv < l0.length := by omega
        have hb0 : decide (iv ≥ 0) = true := decide_eq_true h0
        have hxb := (by have hh := HX.out; rw [if_pos hge.out] at hh; exact hh)
        rw [HIV.out] at hxb
        obtain ⟨hx1, hx2⟩ := Prod.mk.inj hxb
        subst hx2
        clear hxb hi
        obtain ⟨ad, A4, c4, e, g0, g1, g2, g3, g4, g5, gl, _⟩ := at_T96 hCL iv (by omega) (by omega)
        subst e
        obtain ⟨ce, hce, hMe, hcc⟩ := Kd.V_get HV0 z96 iv (by omega) (by omega)
        obtain ⟨ua4, uc4, rfl, ul4, ge4⟩ := k96_openF hMe
        have hv4 := hcc 4 _ rfl
        rw [add_field _ _ 4 (by omega)] at hv4
        replace hv4 := Option.some.inj (hv4.symm.trans g4)
        injection hv4 with hva_ hvn_ hvc_
        rw [hva_] at ge4
        rw [hvc_] at ul4
        have HL := show Kd.V k94 94 wL w.heap.size _ _ ((rd_T96 l0 iv).f1.f3) from Kd.V_mk ul4 ge4
        clear hcc hce hva_ hvn_ hvc_ ge4 ul4
        rw [hx1] at g0 g1 g2 g3 g4 g5 HL
        clear hx1
        have HL := Lib.hid HL
        go_wp2_with (go_at_call 109; refine hcall.out.mono ?_; rintro e w2 ⟨rfl, hb⟩; have HB2 := Lib.hid (below_tr (below_alloc HB.out _) hb); have G4 := blk_below hG HB2.out; have g0 := below_cell HB2.out g0; have g1 := below_cell HB2.out g1; have g2 := below_cell HB2.out g2; have g3 := below_cell HB2.out g3; have g4 := below_cell HB2.out g4; have g5 := below_cell HB2.out g5; have q0 := (blk_cell G4 0).trans rfl; have q1 := (blk_cell G4 1).trans rfl; have q2 := (blk_cell G4 2).trans rfl; have q3 := (blk_cell G4 3).trans rfl; have q4 := (blk_cell G4 4).trans rfl; have q5 := (blk_cell G4 5).trans rfl; have z0 := blk_frozen G4 0; have z1 := blk_frozen G4 1; have z2 := blk_frozen G4 2; have z3 := blk_frozen G4 3; have z4 := blk_frozen G4 4; have z5 := blk_frozen G4 5)
        have HBw : Below w.heap.size w w2 := below_then hB0 hsL HB2.out
        refine bodyPost_ret (results_ct rfl _ _ gb4 96 #[.string x.f0, .int .i64 x.f1.f0, .int .i64 x.f1.f1, .string x.f1.f2, .slice A4 x.f1.f3.length c4, .int .i64 x.f2] (0, 0) _ rfl (by refine blk_put (cs := #[.string x.f0, .int .i64 x.f1.f0, .int .i64 x.f1.f1, .string x.f1.f2, .slice A4 x.f1.f3.length c4, .int .i64 0]) ?_ 5 _ rfl; refine blk_put (cs := #[.string x.f0, .int .i64 x.f1.f0, .int .i64 x.f1.f1, .string x.f1.f2, .slice none 0 0, .int .i64 0]) ?_ 4 _ rfl; refine blk_put (cs := #[.string x.f0, .int .i64 x.f1.f0, .int .i64 x.f1.f1, .string (⟨#[]⟩ : ByteArray), .slice none 0 0, .int .i64 0]) ?_ 3 _ rfl; refine blk_put (cs := #[.string x.f0, .int .i64 x.f1.f0, .int .i64 0, .string (⟨#[]⟩ : ByteArray), .slice none 0 0, .int .i64 0]) ?_ 2 _ rfl; refine blk_put (cs := #[.string x.f0, .int .i64 0, .int .i64 0, .string (⟨#[]⟩ : ByteArray), .slice none 0 0, .int .i64 0]) ?_ 1 _ rfl; refine blk_put (cs := #[.string (⟨#[]⟩ : ByteArray), .int .i64 0, .int .i64 0, .string (⟨#[]⟩ : ByteArray), .slice none 0 0, .int .i64 0]) ?_ 0 _ rfl; exact G4) Tryz.underlying96 rfl (by kernel_rfl)) rfl ?_
        exact ⟨_, rfl, Kd.V_mono (Kd.V_far (p := ⟨gb4, 5, none⟩) (Kd.V_far (p := ⟨gb4, 4, none⟩) (Kd.V_far (p := ⟨gb4, 3, none⟩) (Kd.V_far (p := ⟨gb4, 2, none⟩) (Kd.V_far (p := ⟨gb4, 1, none⟩) (Kd.V_far (p := ⟨gb4, 0, none⟩) (Kd.V_mono (Kd.V_below HL.out HB2.out) (fun k_ hk => (⟨hk, hk.2⟩ : _ ∧ k_ ≠ gb4))) (fun _ hk => hk.2) (.string x.f0)) (fun _ hk => hk.2) (.int .i64 x.f1.f0)) (fun _ hk => hk.2) (.int .i64 x.f1.f1)) (fun _ hk => hk.2) (.string x.f1.f2)) (fun _ hk => hk.2) (.slice A4 x.f1.f3.length c4)) (fun _ hk => hk.2) (.int .i64 x.f2)) (fun _ hk => hk.1.1), by (with_reducible refine below_set (below_set (below_set (below_set (below_set (below_set HBw hg4) hg4) hg4) hg4) hg4) hg4)⟩
      · have hlt := Lib.hid (show ¬ 0 ≤ ix (isN a1) l0 0 by rw [HIV.out]; exact h0)
        have hb0 : decide (iv ≥ 0) = false := decide_eq_false h0
        clear h0 hi
        go_wp2_with (go_at_call 109; refine hcall.out.mono ?_; rintro e w2 ⟨rfl, hb⟩; have HB2 := Lib.hid (below_tr (below_alloc HB.out _) hb))
        go_roundw
        case rel => exact ⟨1, by omega, by go_num, ⟨HB2.out⟩, ⟨by intro _; have h1 := hlt.out; have h2 := HIV.out; omega⟩, ⟨fun h => by omega⟩⟩
        case measure => simp [intOf]
    · have hi := ix_range (isN ⟨#[]⟩) l0 0
      have hcall := Lib.hid (idxr_any ⟨#[]⟩ A0 c0 l0 ⟨wr.heap.size, 0, none⟩ (wr.alloc (.cells #[.string ⟨#[]⟩] 9)) (Kd.C_below hCL (below_alloc HB.out _)) (by simp))
      generalize hiv : ix (isN ⟨#[]⟩) l0 0 = iv at hi hcall
      have HIV := Lib.hid hiv
      clear hiv
      by_cases h0 : 0 ≤ iv
      · have hge := Lib.hid (show 0 ≤ ix (isN ⟨#[]⟩) l0 0 by rw [HIV.out]; exact h0)
        have hilt : iv < l0.length := by omega
        have hb0 : decide (iv ≥ 0) = true := decide_eq_true h0
        have hxb := (by have hh := HX.out; rw [if_neg (HI1.out (by omega)), if_pos hge.out] at hh; exact hh)
        rw [HIV.out] at hxb
        obtain ⟨hx1, hx2⟩ := Prod.mk.inj hxb
        subst hx2
        clear hxb hi
        obtain ⟨ad, A4, c4, e, g0, g1, g2, g3, g4, g5, gl, _⟩ := at_T96 hCL iv (by omega) (by omega)
        subst e
        obtain ⟨ce, hce, hMe, hcc⟩ := Kd.V_get HV0 z96 iv (by omega) (by omega)
        obtain ⟨ua4, uc4, rfl, ul4, ge4⟩ := k96_openF hMe
        have hv4 := hcc 4 _ rfl
        rw [add_field _ _ 4 (by omega)] at hv4
        replace hv4 := Option.some.inj (hv4.symm.trans g4)
        injection hv4 with hva_ hvn_ hvc_
        rw [hva_] at ge4
        rw [hvc_] at ul4
        have HL := show Kd.V k94 94 wL w.heap.size _ _ ((rd_T96 l0 iv).f1.f3) from Kd.V_mk ul4 ge4
        clear hcc hce hva_ hvn_ hvc_ ge4 ul4
        rw [hx1] at g0 g1 g2 g3 g4 g5 HL
        clear hx1
        have HL := Lib.hid HL
        go_wp2_with (go_at_call 109; refine hcall.out.mono ?_; rintro e w2 ⟨rfl, hb⟩; have HB2 := Lib.hid (below_tr (below_alloc HB.out _) hb); have G4 := blk_below hG HB2.out; have g0 := below_cell HB2.out g0; have g1 := below_cell HB2.out g1; have g2 := below_cell HB2.out g2; have g3 := below_cell HB2.out g3; have g4 := below_cell HB2.out g4; have g5 := below_cell HB2.out g5; have q0 := (blk_cell G4 0).trans rfl; have q1 := (blk_cell G4 1).trans rfl; have q2 := (blk_cell G4 2).trans rfl; have q3 := (blk_cell G4 3).trans rfl; have q4 := (blk_cell G4 4).trans rfl; have q5 := (blk_cell G4 5).trans rfl; have z0 := blk_frozen G4 0; have z1 := blk_frozen G4 1; have z2 := blk_frozen G4 2; have z3 := blk_frozen G4 3; have z4 := blk_frozen G4 4; have z5 := blk_frozen G4 5)
        have HBw : Below w.heap.size w w2 := below_then hB0 hsL HB2.out
        refine bodyPost_ret (results_ct rfl _ _ gb4 96 #[.string x.f0, .int .i64 x.f1.f0, .int .i64 x.f1.f1, .string x.f1.f2, .slice A4 x.f1.f3.length c4, .int .i64 x.f2] (0, 0) _ rfl (by refine blk_put (cs := #[.string x.f0, .int .i64 x.f1.f0, .int .i64 x.f1.f1, .string x.f1.f2, .slice A4 x.f1.f3.length c4, .int .i64 0]) ?_ 5 _ rfl; refine blk_put (cs := #[.string x.f0, .int .i64 x.f1.f0, .int .i64 x.f1.f1, .string x.f1.f2, .slice none 0 0, .int .i64 0]) ?_ 4 _ rfl; refine blk_put (cs := #[.string x.f0, .int .i64 x.f1.f0, .int .i64 x.f1.f1, .string (⟨#[]⟩ : ByteArray), .slice none 0 0, .int .i64 0]) ?_ 3 _ rfl; refine blk_put (cs := #[.string x.f0, .int .i64 x.f1.f0, .int .i64 0, .string (⟨#[]⟩ : ByteArray), .slice none 0 0, .int .i64 0]) ?_ 2 _ rfl; refine blk_put (cs := #[.string x.f0, .int .i64 0, .int .i64 0, .string (⟨#[]⟩ : ByteArray), .slice none 0 0, .int .i64 0]) ?_ 1 _ rfl; refine blk_put (cs := #[.string (⟨#[]⟩ : ByteArray), .int .i64 0, .int .i64 0, .string (⟨#[]⟩ : ByteArray), .slice none 0 0, .int .i64 0]) ?_ 0 _ rfl; exact G4) Tryz.underlying96 rfl (by kernel_rfl)) rfl ?_
        exact ⟨_, rfl, Kd.V_mono (Kd.V_far (p := ⟨gb4, 5, none⟩) (Kd.V_far (p := ⟨gb4, 4, none⟩) (Kd.V_far (p := ⟨gb4, 3, none⟩) (Kd.V_far (p := ⟨gb4, 2, none⟩) (Kd.V_far (p := ⟨gb4, 1, none⟩) (Kd.V_far (p := ⟨gb4, 0, none⟩) (Kd.V_mono (Kd.V_below HL.out HB2.out) (fun k_ hk => (⟨hk, hk.2⟩ : _ ∧ k_ ≠ gb4))) (fun _ hk => hk.2) (.string x.f0)) (fun _ hk => hk.2) (.int .i64 x.f1.f0)) (fun _ hk => hk.2) (.int .i64 x.f1.f1)) (fun _ hk => hk.2) (.string x.f1.f2)) (fun _ hk => hk.2) (.slice A4 x.f1.f3.length c4)) (fun _ hk => hk.2) (.int .i64 x.f2)) (fun _ hk => hk.1.1), by (with_reducible refine below_set (below_set (below_set (below_set (below_set (below_set HBw hg4) hg4) hg4) hg4) hg4) hg4)⟩
      · have hlt := Lib.hid (show ¬ 0 ≤ ix (isN ⟨#[]⟩) l0 0 by rw [HIV.out]; exact h0)
        have hb0 : decide (iv ≥ 0) = false := decide_eq_false h0
        clear h0 hi
        go_wp2_with (go_at_call 109; refine hcall.out.mono ?_; rintro e w2 ⟨rfl, hb⟩; have HB2 := Lib.hid (below_tr (below_alloc HB.out _) hb))
        go_roundw
        case rel => exact ⟨2, by omega, by go_num, ⟨HB2.out⟩, ⟨by intro _; have h1 := HI1.out (by omega); omega⟩, ⟨by intro _; have h1 := hlt.out; have h2 := HIV.out; omega⟩⟩
        case measure => simp [intOf]
    · have hxb := (by have hh := HX.out; rw [if_neg (HI1.out (by omega)), if_neg (HI2.out (by omega))] at hh; exact hh : (z96, false) = (x, b))
      obtain ⟨hx1, hx2⟩ := Prod.mk.inj hxb
      subst hx1 hx2
      have G4 := blk_below hG HB.out
      have q0 := (blk_cell G4 0).trans rfl; have q1 := (blk_cell G4 1).trans rfl; have q2 := (blk_cell G4 2).trans rfl; have q3 := (blk_cell G4 3).trans rfl; have q4 := (blk_cell G4 4).trans rfl; have q5 := (blk_cell G4 5).trans rfl; have z0 := blk_frozen G4 0; have z1 := blk_frozen G4 1; have z2 := blk_frozen G4 2; have z3 := blk_frozen G4 3; have z4 := blk_frozen G4 4; have z5 := blk_frozen G4 5
      go_wp2
      have HBw : Below w.heap.size w wr := below_then hB0 hsL HB.out
      refine bodyPost_ret (results_ct rfl _ _ gb4 96 #[.string (⟨#[]⟩ : ByteArray), .int .i64 0, .int .i64 0, .string (⟨#[]⟩ : ByteArray), .slice none 0 0, .int .i64 0] (0, 0) _ rfl (by refine blk_put (cs := #[.string (⟨#[]⟩ : ByteArray), .int .i64 0, .int .i64 0, .string (⟨#[]⟩ : ByteArray), .slice none 0 0, .int .i64 0]) ?_ 5 _ rfl; refine blk_put (cs := #[.string (⟨#[]⟩ : ByteArray), .int .i64 0, .int .i64 0, .string (⟨#[]⟩ : ByteArray), .slice none 0 0, .int .i64 0]) ?_ 4 _ rfl; refine blk_put (cs := #[.string (⟨#[]⟩ : ByteArray), .int .i64 0, .int .i64 0, .string (⟨#[]⟩ : ByteArray), .slice none 0 0, .int .i64 0]) ?_ 3 _ rfl; refine blk_put (cs := #[.string (⟨#[]⟩ : ByteArray), .int .i64 0, .int .i64 0, .string (⟨#[]⟩ : ByteArray), .slice none 0 0, .int .i64 0]) ?_ 2 _ rfl; refine blk_put (cs := #[.string (⟨#[]⟩ : ByteArray), .int .i64 0, .int .i64 0, .string (⟨#[]⟩ : ByteArray), .slice none 0 0, .int .i64 0]) ?_ 1 _ rfl; refine blk_put (cs := #[.string (⟨#[]⟩ : ByteArray), .int .i64 0, .int .i64 0, .string (⟨#[]⟩ : ByteArray), .slice none 0 0, .int .i64 0]) ?_ 0 _ rfl; exact G4) Tryz.underlying96 rfl (by kernel_rfl)) rfl ?_
      exact ⟨_, rfl, Kd.V_nil _ _ _ _ _, by (with_reducible refine below_set (below_set (below_set (below_set (below_set (below_set HBw hg4) hg4) hg4) hg4) hg4) hg4)⟩

def find2 (l0 : List S96) (a1 : ByteArray) : S96 × Bool := if 0 ≤ ix (isN a1) l0 0 then (rd_T96 l0 (ix (isN a1) l0 0), true) else if 0 ≤ ix (isN ⟨#[]⟩) l0 0 then (rd_T96 l0 (ix (isN ⟨#[]⟩) l0 0), true) else (z96, false)
def rule_Find.f (l0 : List S96) (a1 : ByteArray) : Option (ByteArray × Int × Int × ByteArray × (List (S94)) × Int × Bool) :=
  some ((find2 l0 a1).1.f0, (find2 l0 a1).1.f1.f0, (find2 l0 a1).1.f1.f1, (find2 l0 a1).1.f1.f2, (find2 l0 a1).1.f1.f3, (find2 l0 a1).1.f2, (find2 l0 a1).2)
theorem rule_Find.calls (P0_ : Nat → Prop) (A0 : Option Addr) (c0 : Nat) (l0 : List (S96)) (a1 : ByteArray) (r1 : ByteArray) (r2 : Int) (r3 : Int) (r4 : ByteArray) (r5 : List (S94)) (r6 : Int) (r7 : Bool) (w : World) (hs0 : Kd.V k96 96 w w.heap.size (fun k_ => P0_ k_) (.slice A0 l0.length c0) l0) (h : rule_Find.f l0 a1 = some (r1, r2, r3, r4, r5, r6, r7)) :
    Calls Tryz.prog 78 #[.slice A0 l0.length c0, .string a1] w fun e w' => ∃ v4_ : Value, e = .returned (.tuple #[.agg #[.string r1, .int .i64 r2, .int .i64 r3, .string r4, v4_, .int .i64 r6], .bool r7]) ∧ Kd.V k94 94 w' w.heap.size (fun k_ => (P0_ k_ ∨ w.heap.size ≤ k_)) v4_ r5 ∧ Below w.heap.size w w' := by
  unfold rule_Find.f at h
  simp only [Option.some.injEq, Prod.mk.injEq] at h
  obtain ⟨rfl, rfl, rfl, rfl, rfl, rfl, rfl⟩ := h
  exact find_any P0_ A0 c0 l0 a1 w hs0 _ _ rfl
end Go.Proofs.YtafigkikblpbnaaGreatDoor.PG
namespace Go.Proofs.YtafigkikblpbnaaGreatDoor.PG
open Go.RowKit Go.Proofs.YtafigkikblpbnaaGreatDoorW.PrintWords Go.Proofs.YtafigkikblpbnaaGreatDoorW.PrintLast Go.Proofs.YtafigkikblpbnaaGreatDoorW.PrintMore
set_option linter.unusedVariables false
set_option linter.unusedSimpArgs false
set_option maxRecDepth 100000
theorem w64 {n : Int} (h1 : -9223372036854775808 ≤ n) (h2 : n ≤ 9223372036854775807) : wrap64 n = n := by unfold wrap64; omega
def aft (a b : Int) : Int × Bool := if a < 0 then (0, false) else if a > 1099511627776 then (0, false) else if b < 0 then (0, false) else if b > 1048576 then (0, false) else if a + b > 1099511627776 then (0, false) else (a + b, true)
theorem qAfter (a b : Int) : Q.span_After.f a b = some (aft a b) := by
  unfold Q.span_After.f aft
  by_cases h1 : a < 0; · rw [if_pos h1, if_pos h1]
  by_cases h2 : a > 1099511627776; · rw [if_neg h1, if_neg h1, if_pos h2, if_pos h2]
  by_cases h3 : b < 0; · rw [if_neg h1, if_neg h1, if_neg h2, if_neg h2, if_pos h3, if_pos h3]
  by_cases h4 : b > 1048576; · rw [if_neg h1, if_neg h1, if_neg h2, if_neg h2, if_neg h3, if_neg h3, if_pos h4, if_pos h4]
  rw [if_neg h1, if_neg h1, if_neg h2, if_neg h2, if_neg h3, if_neg h3, if_neg h4, if_neg h4, w64 (n := 1099511627776 - a) (by omega) (by omega), w64 (n := a + b) (by omega) (by omega)]
  by_cases h5 : a + b > 1099511627776
  · rw [if_pos h5, if_pos (by omega)]
  · rw [if_neg h5, if_neg (by omega)]
def fnd (nm : ByteArray) : List S126 → Option Int
  | [] => none
  | x :: xs => if x.f0.toList = nm.toList then some x.f1 else fnd nm xs
def fndB (nm : ByteArray) (l : List S126) : Int × Bool := match fnd nm l with | none => (0, false) | some t => (t, true)
theorem ix_fnd (nm : ByteArray) : ∀ (l : List S126) (i : Nat), (ix (fun x : S126 => x.f0.toList == nm.toList) l i = -1 ∧ fnd nm l = none) ∨ ∃ j, j < l.length ∧ ix (fun x : S126 => x.f0.toList == nm.toList) l i = (i + j : Nat) ∧ fnd nm l = some (l.getD j z126).f1
  | [], i => .inl ⟨rfl, rfl⟩
  | x :: xs, i => by
    unfold ix fnd
    by_cases h : x.f0.toList = nm.toList
    · rw [if_pos (beq_iff_eq.2 h), if_pos h]
      exact .inr ⟨0, by simp, rfl, rfl⟩
    · rw [if_neg (fun g => h (beq_iff_eq.1 g)), if_neg h]
      rcases ix_fnd nm xs (i + 1) with ⟨h1, h2⟩ | ⟨j, h0, h1, h2⟩
      · exact .inl ⟨h1, h2⟩
      · exact .inr ⟨j + 1, by simp; omega, by rw [h1]; omega, by rw [h2]; rfl⟩
theorem at_f (nm : ByteArray) (l : List S126) : due_at.f nm l = some (fndB nm l) := by
  unfold due_at.f fndB
  rcases ix_fnd nm l 0 with ⟨h1, h2⟩ | ⟨j, h0, h1, h2⟩
  · rw [h1, h2, if_pos (by omega)]
  · rw [h1, h2, if_neg (by omega)]
    simp [rd_T126]

/-! least and greatest -/
def mnl : List Int → Int
  | [] => 0
  | x :: xs => xs.foldl mn x
def mxl : List Int → Int
  | [] => 0
  | x :: xs => xs.foldl mx x
theorem drop_rdI {l : List Int} {i : Nat} (h : i < l.length) : l.drop i = rd l (i : Int) :: l.drop (i + 1) := by
  rw [List.drop_eq_getElem_cons h]
  simp [rd, List.getElem?_eq_getElem h, List.getD_eq_getElem?_getD]
theorem drop_rd24 {l : List S94} {i : Nat} (h : i < l.length) : l.drop i = rd_T94 l (i : Int) :: l.drop (i + 1) := by
  rw [List.drop_eq_getElem_cons h]
  simp [rd_T94, List.getElem?_eq_getElem h, List.getD_eq_getElem?_getD]
theorem minQ (l : List Int) (hl : l.length ≤ 1000000) : ∀ n k i a, l.length - i = n → i ≤ l.length → n < k → Q.slices_Min_int_int.l0 k l a (i : Int) = some ((l.drop i).foldl mn a)
  | 0, k + 1, i, a, h, hi, hk => by
    unfold Q.slices_Min_int_int.l0
    rw [if_neg (by omega), List.drop_of_length_le (by omega)]; rfl
  | n + 1, k + 1, i, a, h, hi, hk => by
    unfold Q.slices_Min_int_int.l0
    rw [if_pos (by omega), if_pos (by omega), w64 (by omega) (by omega), drop_rdI (show i < l.length by omega)]
    exact minQ l hl n k (i + 1) _ (by omega) (by omega) (by omega)
theorem maxQ (l : List Int) (hl : l.length ≤ 1000000) : ∀ n k i a, l.length - i = n → i ≤ l.length → n < k → Q.slices_Max_int_int.l0 k l a (i : Int) = some ((l.drop i).foldl mx a)
  | 0, k + 1, i, a, h, hi, hk => by
    unfold Q.slices_Max_int_int.l0
    rw [if_neg (by omega), List.drop_of_length_le (by omega)]; rfl
  | n + 1, k + 1, i, a, h, hi, hk => by
    unfold Q.slices_Max_int_int.l0
    rw [if_pos (by omega), if_pos (by omega), w64 (by omega) (by omega), drop_rdI (show i < l.length by omega)]
    exact maxQ l hl n k (i + 1) _ (by omega) (by omega) (by omega)
theorem min_f (l : List Int) (hl : l.length ≤ 1000000) (h0 : l ≠ []) (k : Nat) (hk : l.length < k) : Q.slices_Min_int_int.f k l = some (mnl l) := by
  cases l with
  | nil => exact absurd rfl h0
  | cons x xs =>
    unfold Q.slices_Min_int_int.f
    rw [if_neg (by simp only [List.length_cons]; omega), if_pos (by simp only [List.length_cons]; omega)]
    exact minQ (x :: xs) hl xs.length k 1 x (by simp) (by simp) (by simp at hk; omega)
theorem max_f (l : List Int) (hl : l.length ≤ 1000000) (h0 : l ≠ []) (k : Nat) (hk : l.length < k) : Q.slices_Max_int_int.f k l = some (mxl l) := by
  cases l with
  | nil => exact absurd rfl h0
  | cons x xs =>
    unfold Q.slices_Max_int_int.f
    rw [if_neg (by simp only [List.length_cons]; omega), if_pos (by simp only [List.length_cons]; omega)]
    exact maxQ (x :: xs) hl xs.length k 1 x (by simp) (by simp) (by simp at hk; omega)

/-! what a condition says -/
def knw (l : List (Int × Bool)) : List Int := (l.filter (·.2)).map (·.1)
def comb (op : Int) (l : List (Int × Bool)) : Int × Bool :=
  if knw l = [] then (0, false) else if op = 2 then (mnl (knw l), true) else if op = 3 then (if (knw l).length = l.length then (mxl (knw l), true) else (0, false)) else (0, false)
mutual
def wh (m : List S126) : S94 → Int × Bool
  | ⟨op, d, n, kids⟩ => if op = 1 then (if (fndB n m).2 = true then aft (fndB n m).1 d else (0, false)) else comb op (ks m kids)
def ks (m : List S126) : List S94 → List (Int × Bool)
  | [] => []
  | x :: xs => wh m x :: ks m xs
end
theorem ks_map (m : List S126) : ∀ l, ks m l = l.map (wh m)
  | [] => by simp [ks]
  | x :: xs => by simp [ks, ks_map m xs]
theorem wh_eq (m : List S126) (op d : Int) (n : ByteArray) (kids : List S94) : wh m ⟨op, d, n, kids⟩ = if op = 1 then (if (fndB n m).2 = true then aft (fndB n m).1 d else (0, false)) else comb op (kids.map (wh m)) := by
  rw [← ks_map]; simp only [wh]

theorem knw_len (l : List (Int × Bool)) : (knw l).length ≤ l.length := by simp [knw]; exact List.length_filter_le _ _
theorem When_q (kf : List S94 → List S126 → Option (List Int)) (k : Nat) (a b : Int) (c : ByteArray) (l : List S94) (m : List S126) (hl : l.length ≤ 60) (hk : 60 < k) (h : kf l m = some (knw (l.map (wh m)))) :
    Q.due_When.f kf k a b c l m = some (wh m ⟨a, b, c, l⟩) := by
  rw [wh_eq]
  unfold Q.due_When.f
  by_cases h1 : a = 1
  · rw [if_pos h1, if_pos h1, at_f, Option.bind_some]
    by_cases h2 : (fndB c m).2 = true
    · rw [if_pos h2, if_pos h2, qAfter, Option.bind_some]
    · rw [if_neg h2, if_neg h2]
  · rw [if_neg h1, if_neg h1, h, Option.bind_some]
    have hle := knw_len (l.map (wh m))
    have hll : (l.map (wh m)).length = l.length := by simp
    unfold comb
    generalize hK : knw (l.map (wh m)) = K at *
    by_cases h2 : K = []
    · rw [if_pos (by rw [h2]; rfl), if_pos h2]
    · have h2' : 0 < K.length := List.length_pos_iff.2 h2
      rw [if_neg (by omega), if_neg h2]
      by_cases h3 : a = 2
      · rw [if_pos h3, if_pos h3, min_f K (by omega) h2 k (by omega), Option.bind_some]
      · rw [if_neg h3, if_neg h3]
        by_cases h4 : a = 3
        · rw [if_pos h4, if_pos h4, hll]
          by_cases h5 : K.length = l.length
          · rw [if_pos (by omega), if_pos h5, max_f K (by omega) h2 k (by omega), Option.bind_some]
          · rw [if_neg (by omega), if_neg h5]
        · rw [if_neg h4, if_neg h4]
theorem known_q (wf : Int → Int → ByteArray → List S94 → List S126 → Option (Int × Bool)) (l : List S94) (m : List S126) (hl : l.length ≤ 60) (h : ∀ x ∈ l, wf x.f0 x.f1 x.f2 x.f3 m = some (wh m x)) :
    ∀ n k i acc, l.length - i = n → i ≤ l.length → n < k → acc.length ≤ i → Q.due_known.l0 wf k m acc l (l.length : Int) (i : Int) = some (acc ++ knw ((l.drop i).map (wh m)))
  | 0, k + 1, i, acc, hn, hi, hk, ha => by
    unfold Q.due_known.l0
    rw [if_neg (by omega), List.drop_of_length_le (by omega)]
    simp [knw]
  | n + 1, k + 1, i, acc, hn, hi, hk, ha => by
    have hlt : i < l.length := by omega
    have hd := drop_rd24 hlt
    have hm : rd_T94 l (i : Int) ∈ l := List.drop_subset i l (by rw [hd]; exact List.mem_cons_self)
    unfold Q.due_known.l0
    rw [if_pos (by omega), if_pos (by omega), if_pos (by omega), h _ hm, Option.bind_some, hd, w64 (by omega) (by omega)]
    by_cases hb : (wh m (rd_T94 l (i : Int))).2 = true
    · rw [if_pos hb, if_pos (by omega)]
      have := known_q wf l m hl h n k (i + 1) (acc ++ [(wh m (rd_T94 l (i : Int))).1]) (by omega) (by omega) (by omega) (by simp; omega)
      rw [show ((i : Int) + 1) = ((i + 1 : Nat) : Int) by omega, this]
      simp [knw, List.filter_cons, hb]
    · rw [if_neg hb]
      have := known_q wf l m hl h n k (i + 1) acc (by omega) (by omega) (by omega) (by omega)
      rw [show ((i : Int) + 1) = ((i + 1 : Nat) : Int) by omega, this]
      simp [knw, List.filter_cons, hb]
/-- A condition of so many levels at most, none with more than 60 kids. -/
def lim : Nat → S94 → Prop
  | 0, _ => False
  | d + 1, x => x.f3.length ≤ 60 ∧ ∀ y ∈ x.f3, lim d y
theorem W_q (m : List S126) : ∀ d e x, lim d x → d + 61 < e → Q.W e x.f0 x.f1 x.f2 x.f3 m = some (wh m x)
  | 0, e, x, h, he => h.elim
  | d + 1, e + 1, x, h, he => by
    have hk : Q.due_known.f (Q.W e) e x.f3 m = some (knw (x.f3.map (wh m))) := by
      have := known_q (Q.W e) x.f3 m h.1 (fun y hy => W_q m d e y (h.2 y hy) (by omega)) x.f3.length e 0 [] (by omega) (by omega) (by have := h.1; omega) (by simp)
      simpa [Q.due_known.f] using this
    have h2 := When_q _ e x.f0 x.f1 x.f2 x.f3 m h.1 (by omega) hk
    cases x; exact h2
def rc (op : Int) : Int → Bool → List (Int × Bool) → Int × Bool
  | b, k, [] => (b, k)
  | b, k, x :: xs =>
    if op = 2 then (if x.2 = true then (if k = true then (if x.1 < b then rc op x.1 true xs else rc op b k xs) else rc op x.1 true xs) else rc op b k xs)
    else if op = 3 then (if x.2 = true then (if k = true then (if x.1 > b then rc op x.1 true xs else rc op b k xs) else rc op x.1 true xs) else (0, false))
    else rc op b k xs
theorem rc2 : ∀ (l : List (Int × Bool)) (b : Int), rc 2 b true l = ((knw l).foldl mn b, true)
  | [], b => rfl
  | (t, false) :: xs, b => by simp [rc, rc2 xs, knw]
  | (t, true) :: xs, b => by
    have : knw ((t, true) :: xs) = t :: knw xs := rfl
    rw [this, List.foldl_cons]
    unfold rc
    rw [if_pos rfl, if_pos rfl, if_pos rfl, rc2 xs, rc2 xs]
    unfold mn
    split <;> rfl
theorem rc20 : ∀ (l : List (Int × Bool)), rc 2 0 false l = comb 2 l
  | [] => rfl
  | (t, false) :: xs => by
    have h1 : knw ((t, false) :: xs) = knw xs := rfl
    have h2 : rc 2 0 false ((t, false) :: xs) = rc 2 0 false xs := by simp [rc]
    rw [h2, rc20 xs]; unfold comb; rw [h1]; simp
  | (t, true) :: xs => by
    have h1 : knw ((t, true) :: xs) = t :: knw xs := rfl
    have h2 : rc 2 0 false ((t, true) :: xs) = rc 2 t true xs := by simp [rc]
    rw [h2, rc2]; unfold comb; rw [h1]; simp [mnl]
theorem rc3 : ∀ (l : List (Int × Bool)) (b : Int), rc 3 b true l = if (knw l).length = l.length then ((knw l).foldl mx b, true) else (0, false)
  | [], b => rfl
  | (t, false) :: xs, b => by
    have h1 : knw ((t, false) :: xs) = knw xs := rfl
    have := knw_len xs
    rw [h1, if_neg (by simp; omega)]; simp [rc]
  | (t, true) :: xs, b => by
    have h1 : knw ((t, true) :: xs) = t :: knw xs := rfl
    rw [h1, List.foldl_cons]
    unfold rc
    rw [if_neg (by decide), if_pos rfl, if_pos rfl, if_pos rfl, rc3 xs, rc3 xs]
    unfold mx
    simp only [List.length_cons, Nat.add_right_cancel_iff, gt_iff_lt]
    split <;> rfl
theorem rc30 (l : List (Int × Bool)) : rc 3 0 false l = comb 3 l := by
  cases l with
  | nil => rfl
  | cons x xs =>
    obtain ⟨t, b⟩ := x
    cases b with
    | false =>
      have h1 : knw ((t, false) :: xs) = knw xs := rfl
      have := knw_len xs
      have h2 : rc 3 0 false ((t, false) :: xs) = (0, false) := by simp [rc]
      rw [h2]
      unfold comb
      rw [h1]
      by_cases h : knw xs = []
      · rw [if_pos h]
      · rw [if_neg h, if_neg (show ¬ (3 : Int) = 2 by decide), if_pos rfl, if_neg (by simp; omega)]
    | true =>
      have h1 : knw ((t, true) :: xs) = t :: knw xs := rfl
      have h2 : rc 3 0 false ((t, true) :: xs) = rc 3 t true xs := by simp [rc]
      rw [h2, rc3]; unfold comb; rw [h1]; simp [mxl]
theorem rcn (op : Int) (h2 : op ≠ 2) (h3 : op ≠ 3) : ∀ l : List (Int × Bool), rc op 0 false l = (0, false)
  | [] => rfl
  | x :: xs => by unfold rc; rw [if_neg h2, if_neg h3, rcn op h2 h3 xs]
theorem rc_comb (op : Int) (l : List (Int × Bool)) : rc op 0 false l = comb op l := by
  by_cases h2 : op = 2; · subst h2; exact rc20 l
  by_cases h3 : op = 3; · subst h3; exact rc30 l
  rw [rcn op h2 h3]; unfold comb; rw [if_neg h2, if_neg h3]; split <;> rfl
end Go.Proofs.YtafigkikblpbnaaGreatDoor.PG
namespace Go.Proofs.YtafigkikblpbnaaGreatDoor.PG
open Go.RowKit Go.Proofs.YtafigkikblpbnaaGreatDoorW.PrintWords Go.Proofs.YtafigkikblpbnaaGreatDoorW.PrintLast Go.Proofs.YtafigkikblpbnaaGreatDoorW.PrintMore
set_option linter.unusedVariables false
set_option linter.unusedSimpArgs false
set_option maxRecDepth 100000
/-- The program's When is wh, for a condition with few parts. -/
theorem When_any (d : Nat) (x : S94) (hlim : lim d x) (A : Option Addr) (c : Nat) (m : List S126) (Am : Option Addr) (cm : Nat) (w : World) (h1 : Kd.C k94 w A x.f3.length x.f3) (h2 : x.f3.length ≤ c) (h3 : Kd.C k126 w Am m.length m) (h4 : m.length ≤ cm) :
    Calls Tryz.prog 79 #[.agg #[.int .i64 x.f0, .int .i64 x.f1, .string x.f2, .slice A x.f3.length c], .slice Am m.length cm] w fun e w' => e = .returned (.tuple #[.int .i64 (wh m x).1, .bool (wh m x).2]) ∧ Below w.heap.size w w' :=
  Q.W_calls (d + 62) x.f0 x.f1 x.f2 A c x.f3 Am cm m (wh m x).1 (wh m x).2 w h1 h2 h3 h4 (W_q m d (d + 62) x hlim (by omega))
/-- A condition that may be has few parts. -/
theorem lim_H : ∀ d x, H95 d x → lim d x
  | 0, _, h => h
  | d + 1, x, h => ⟨Nat.le_trans h.2.1 (by omega), fun y hy => lim_H d y (h.2.2 y hy)⟩
end Go.Proofs.YtafigkikblpbnaaGreatDoor.PG
namespace Go.Proofs.YtafigkikblpbnaaGreatDoor.PG
open Go.RowKit Go.Proofs.YtafigkikblpbnaaGreatDoorW.PrintWords Go.Proofs.YtafigkikblpbnaaGreatDoorW.PrintLast Go.Proofs.YtafigkikblpbnaaGreatDoorW.PrintMore
set_option linter.unusedVariables false
set_option linter.unusedSimpArgs false
set_option maxRecDepth 100000

/-- A day so much later. -/
def aftR (a b : Int) : Int × Bool := if a < 0 ∨ 1099511627776 < a ∨ b < 0 ∨ 1048576 < b ∨ 1099511627776 < a + b then (0, false) else (a + b, true)
theorem After_eq (a b : Int) (w : World) : Calls Tryz.prog 85 #[.int .i64 a, .int .i64 b] w fun e w' => e = .returned (.tuple #[.int .i64 (aftR a b).1, .bool (aftR a b).2]) ∧ w' = w := by
  by_cases h : a < 0 ∨ 1099511627776 < a ∨ b < 0 ∨ 1048576 < b ∨ 1099511627776 < a + b
  · have e : aftR a b = (0, false) := by unfold aftR; rw [if_pos h]
    rw [e]
    have HX := Lib.hid h
    clear h
    go_enter Tryz.func85, Tryz.ntmps85
    go_wp2
    all_goals first
      | (go_ret2; exact ⟨rfl, rfl⟩)
      | (exfalso; have h := HX.out; omega)
  · have e : aftR a b = (a + b, true) := by unfold aftR; rw [if_neg h]
    rw [e]
    have h1 : ¬ a < 0 := by omega
    have h2 : ¬ 1099511627776 < a := by omega
    have h3 : ¬ b < 0 := by omega
    have h4 : ¬ 1048576 < b := by omega
    have h5 : ¬ 1099511627776 < a + b := by omega
    clear h
    go_enter Tryz.func85, Tryz.ntmps85
    go_wp2
    all_goals first
      | (exfalso; omega)
      | (go_ret2; exact ⟨rfl, rfl⟩)
end Go.Proofs.YtafigkikblpbnaaGreatDoor.PG
namespace Go.Proofs.YtafigkikblpbnaaGreatDoor.PG
open Go.RowKit Go.Proofs.YtafigkikblpbnaaGreatDoorW.PrintWords Go.Proofs.YtafigkikblpbnaaGreatDoorW.PrintLast Go.Proofs.YtafigkikblpbnaaGreatDoorW.PrintMore
set_option linter.unusedVariables false
set_option linter.unusedSimpArgs false
set_option maxRecDepth 100000

theorem drop_T134 {l : List S126} {i : Nat} (h : i < l.length) : l.drop i = rd_T126 l (i : Int) :: l.drop (i + 1) := by
  rw [List.drop_eq_getElem_cons h]
  simp [rd_T126, List.getElem?_eq_getElem h, List.getD_eq_getElem?_getD]
theorem aft_eq (a b : Int) : aftR a b = aft a b := by
  unfold aftR aft
  by_cases h1 : a < 0
  · rw [if_pos (.inl h1), if_pos h1]
  by_cases h2 : a > 1099511627776
  · rw [if_pos (.inr (.inl h2)), if_neg h1, if_pos h2]
  by_cases h3 : b < 0
  · rw [if_pos (.inr (.inr (.inl h3))), if_neg h1, if_neg h2, if_pos h3]
  by_cases h4 : b > 1048576
  · rw [if_pos (.inr (.inr (.inr (.inl h4)))), if_neg h1, if_neg h2, if_neg h3, if_pos h4]
  by_cases h5 : a + b > 1099511627776
  · rw [if_pos (.inr (.inr (.inr (.inr h5)))), if_neg h1, if_neg h2, if_neg h3, if_neg h4, if_pos h5]
  · rw [if_neg (by omega), if_neg h1, if_neg h2, if_neg h3, if_neg h4, if_neg h5]
set_option maxHeartbeats 4000000 in
theorem WhenR_1 (dd : Int) (nm : ByteArray) (ks : List S94) (A : Option Addr) (c : Nat) (m : List S126) (Am : Option Addr) (cm : Nat) (W : World) (hm : Kd.C k126 W Am m.length m) :
    Calls Tryz.prog 51 #[.agg #[.int .i64 1, .int .i64 dd, .string nm, .slice A ks.length c], .slice Am m.length cm] W fun e w' => e = .returned (.tuple #[.int .i64 (wh m ⟨1, dd, nm, ks⟩).1, .bool (wh m ⟨1, dd, nm, ks⟩).2]) ∧ Below W.heap.size W w' := by
  have hw : wh m ⟨1, dd, nm, ks⟩ = if (fndB nm m).2 = true then aft (fndB nm m).1 dd else (0, false) := by rw [wh_eq, if_pos rfl]
  have HB := Lib.hid (show Below W.heap.size W (W.alloc (.cells #[.int .i64 1, .int .i64 dd, .string nm, .slice A ks.length c] 94 (0, 0))) from below_alloc (Below.refl _ _) _)
  have HY := Lib.hid (new_blk W (.cells #[.int .i64 1, .int .i64 dd, .string nm, .slice A ks.length c] 94 (0, 0)))
  have HC := Lib.hid (Kd.C_below hm HB.out)
  have hml : m.length ≤ 9223372036854775807 := hm.2.1
  clear hm
  rw [hw]
  clear hw
  generalize hR : (if (fndB nm m).2 = true then aft (fndB nm m).1 dd else (0, false)) = R
  have HR := Lib.hid hR
  clear hR
  obtain ⟨R1, R2⟩ := R
  go_enter Tryz.func51, Tryz.ntmps51
  go_wp2
  generalize W.alloc (.cells #[.int .i64 1, .int .i64 dd, .string nm, .slice A ks.length c] 94 (0, 0)) = W1 at *
  go_loopw [6] (fun v6 wr => ∃ k : Nat, v6 = .int .i64 k ∧ k ≤ m.length ∧ Aside0 (fndB nm m = fndB nm (m.drop k)) ∧ Aside0 (Below W1.heap.size W1 wr)) (fun v6 _ => m.length - (intOf v6).toNat)
  case atStart => exact ⟨0, rfl, Nat.zero_le _, ⟨by rw [List.drop_zero]⟩, ⟨Below.refl _ _⟩⟩
  case round =>
    obtain ⟨k, rfl, hk, HI, HBW⟩ := hrel
    have HY2 := Lib.hid ((HBW.out.block W.heap.size (blk_lt HY.out)).trans HY.out)
    have q1 : wr.cell? ⟨W.heap.size, 1, none⟩ = some (.int .i64 dd) := (blk_cell HY2.out 1).trans rfl
    have q2 : wr.cell? ⟨W.heap.size, 2, none⟩ = some (.string nm) := (blk_cell HY2.out 2).trans rfl
    by_cases hlt : k < m.length
    · have hlt2 : (k : Int) < (m.length : Int) := by omega
      obtain ⟨ad, e, h0, h1⟩ := at_T126 (Kd.C_below HC.out HBW.out) (k : Int) (by omega) (by omega)
      subst e
      simp only [Int.toNat_natCast] at h0 h1
      have HDR := Lib.hid (drop_T134 hlt)
      generalize rd_T126 m (k : Int) = y at *
      by_cases hn : y.f0.toList = nm.toList
      · have hnb : (y.f0.toList == nm.toList) = true := by simp [hn]
        have HE := Lib.hid (show aft y.f1 dd = (R1, R2) from by rw [← HR.out, HI.out, HDR.out]; simp [fndB, fnd, hn])
        have HA := fun w => Lib.hid (show Calls Tryz.prog 85 #[.int .i64 y.f1, .int .i64 dd] w fun e w' => e = .returned (.tuple #[.int .i64 R1, .bool R2]) ∧ w' = w by
          have := After_eq y.f1 dd w
          rw [aft_eq, HE.out] at this
          exact this)
        clear hn
        go_wp2_with fail
        go_quiet (fail)
        have HBN := Lib.hid (pw_below_drewN HBW.out nq)
        have g1 : (wr.drewN nq).cell? ⟨(ad.add (k * 2)).block, (ad.add (k * 2)).off + 1, none⟩ = some (.int .i64 y.f1) := h1
        have g2 : (wr.drewN nq).cell? ⟨W.heap.size, 1, none⟩ = some (.int .i64 dd) := q1
        clear h0 h1 q1 q2
        generalize wr.drewN nq = w5 at *
        go_wp2_with fail
        go_quiet (first | (go_at_call 85; refine Calls.quiet_of_same (HA _).out))
        go_wp2
        go_ret2
        exact ⟨rfl, below_tr HB.out (pw_below_drewN HBN.out _)⟩
      · have hnb : (y.f0.toList == nm.toList) = false := by simp [hn]
        have HF := Lib.hid (show fndB nm m = fndB nm (m.drop (k + 1)) from by rw [HI.out, HDR.out]; simp [fndB, fnd, hn])
        clear hn
        go_wp2_with fail
        go_quiet (fail)
        have HBN := Lib.hid (pw_below_drewN HBW.out nq)
        go_wp2
        go_roundw
        case rel => exact ⟨k + 1, by go_num, by omega, ⟨HF.out⟩, ⟨HBN.out⟩⟩
        case measure => simp [intOf]; omega
    · have HE := Lib.hid (show (R1, R2) = (0, false) from by rw [← HR.out, HI.out, List.drop_of_length_le (by omega)]; rfl)
      have e1 := (Prod.mk.inj HE.out).1
      have e2 := (Prod.mk.inj HE.out).2
      subst e1
      subst e2
      go_wp2
      go_ret2
      exact ⟨rfl, below_tr HB.out HBW.out⟩
end Go.Proofs.YtafigkikblpbnaaGreatDoor.PG
namespace Go.Proofs.YtafigkikblpbnaaGreatDoor.PG
open Go.RowKit Go.Proofs.YtafigkikblpbnaaGreatDoorW.PrintWords Go.Proofs.YtafigkikblpbnaaGreatDoorW.PrintLast Go.Proofs.YtafigkikblpbnaaGreatDoorW.PrintMore
set_option linter.unusedVariables false
set_option linter.unusedSimpArgs false
set_option maxRecDepth 100000

def WhenR (d : Nat) : Prop := ∀ (x : S94) (A : Option Addr) (c : Nat) (m : List S126) (Am : Option Addr) (cm : Nat) (W : World), lim d x → Kd.C k94 W A x.f3.length x.f3 → x.f3.length ≤ c → Kd.C k126 W Am m.length m → m.length ≤ cm →
  Calls Tryz.prog 51 #[.agg #[.int .i64 x.f0, .int .i64 x.f1, .string x.f2, .slice A x.f3.length c], .slice Am m.length cm] W fun e w' => e = .returned (.tuple #[.int .i64 (wh m x).1, .bool (wh m x).2]) ∧ Below W.heap.size W w'

set_option maxHeartbeats 8000000 in
theorem WhenR_k2 (d : Nat) (IH : WhenR d) (dd : Int) (nm : ByteArray) (ks : List S94) (hlim : ∀ y ∈ ks, lim d y) (A : Option Addr) (c : Nat) (m : List S126) (Am : Option Addr) (cm : Nat) (W : World) (hC : Kd.C k94 W A ks.length ks) (hm : Kd.C k126 W Am m.length m) (hcm : m.length ≤ cm) :
    Calls Tryz.prog 51 #[.agg #[.int .i64 2, .int .i64 dd, .string nm, .slice A ks.length c], .slice Am m.length cm] W fun e w' => e = .returned (.tuple #[.int .i64 (rc 2 0 false (ks.map (wh m))).1, .bool (rc 2 0 false (ks.map (wh m))).2]) ∧ Below W.heap.size W w' := by
  have HB := Lib.hid (show Below W.heap.size W (W.alloc (.cells #[.int .i64 2, .int .i64 dd, .string nm, .slice A ks.length c] 94 (0, 0))) from below_alloc (Below.refl _ _) _)
  have HY := Lib.hid (new_blk W (.cells #[.int .i64 2, .int .i64 dd, .string nm, .slice A ks.length c] 94 (0, 0)))
  have HM := Lib.hid (Kd.C_below hm HB.out)
  have HC := Lib.hid (Kd.C_below hC HB.out)
  have hkl : ks.length ≤ 9223372036854775807 := hC.2.1
  have HL := Lib.hid hlim
  have HIH := Lib.hid IH
  clear hm hC hlim IH
  generalize hR : rc 2 0 false (ks.map (wh m)) = R
  have HR := Lib.hid hR
  clear hR
  obtain ⟨R1, R2⟩ := R
  go_enter Tryz.func51, Tryz.ntmps51
  go_wp2
  generalize W.alloc (.cells #[.int .i64 2, .int .i64 dd, .string nm, .slice A ks.length c] 94 (0, 0)) = W1 at *
  go_loopw [7, 8, 9] (fun v7 v8 v9 wr => ∃ (k : Nat) (b : Int) (q : Bool), v9 = .int .i64 k ∧ k ≤ ks.length ∧ v7 = .int .i64 b ∧ v8 = .bool q ∧ Aside0 ((R1, R2) = rc 2 b q ((ks.drop k).map (wh m))) ∧ Aside0 (Below W1.heap.size W1 wr)) (fun v7 v8 v9 _ => ks.length - (intOf v9).toNat)
  case atStart => exact ⟨0, 0, false, rfl, Nat.zero_le _, rfl, rfl, ⟨by rw [List.drop_zero]; exact HR.out.symm⟩, ⟨Below.refl _ _⟩⟩
  case round =>
    obtain ⟨k, b, q, rfl, hk, rfl, rfl, HI, HBW⟩ := hrel
    have HY2 := Lib.hid ((HBW.out.block W.heap.size (blk_lt HY.out)).trans HY.out)
    have q0 : wr.cell? ⟨W.heap.size, 0, none⟩ = some (.int .i64 2) := (blk_cell HY2.out 0).trans rfl
    have q3 : wr.cell? ⟨W.heap.size, 3, none⟩ = some (.slice A ks.length c) := (blk_cell HY2.out 3).trans rfl
    by_cases hlt : k < ks.length
    · have hlt2 : (k : Int) < (ks.length : Int) := by omega
      obtain ⟨ad, A4, c4, e, h0, h1, h2, h3, hl4, hC4⟩ := at_T94 (Kd.C_below HC.out HBW.out) (k : Int) (by omega) (by omega)
      subst e
      simp only [Int.toNat_natCast] at h0 h1 h2 h3
      have HDR := Lib.hid (show ks.drop k = rd_T94 ks (k : Int) :: ks.drop (k + 1) from drop_rd24 hlt)
      have hly := HL.out _ (rd_mem95 hlt)
      generalize rd_T94 ks (k : Int) = y at *
      have HCALL := Lib.hid (HIH.out y A4 c4 m Am cm wr hly hC4 hl4 (Kd.C_below HM.out HBW.out) hcm)
      clear hC4 hl4 hly
      have HI2 := Lib.hid (show (R1, R2) = rc 2 b q (wh m y :: (ks.drop (k + 1)).map (wh m)) from by rw [HI.out, HDR.out]; rfl)
      generalize wh m y = z at *
      obtain ⟨z1, z2⟩ := z
      go_wp2_with fail
      refine HCALL.out.mono ?_
      rintro e w2 ⟨rfl, hb⟩
      have HB2 := Lib.hid (below_tr HBW.out hb)
      have HY3 := Lib.hid ((hb.block W.heap.size (blk_lt HY2.out)).trans HY2.out)
      clear hb q0 q3 h0 h1 h2 h3
      have q0 : w2.cell? ⟨W.heap.size, 0, none⟩ = some (.int .i64 2) := (blk_cell HY3.out 0).trans rfl
      cases z2
      · have hcb : True := trivial
        cases q
        · go_wp2
          all_goals first
            | (go_roundw
               case rel => exact ⟨k + 1, _, _, by go_num, by omega, rfl, rfl, ⟨by rw [HI2.out]; simp [rc]⟩, ⟨HB2.out⟩⟩
               case measure => simp [intOf]; omega)
            | (have HE := Lib.hid (show (R1, R2) = (0, false) from by rw [HI2.out]; simp [rc])
               have e1 := (Prod.mk.inj HE.out).1
               have e2 := (Prod.mk.inj HE.out).2
               subst e1
               subst e2
               go_ret2
               exact ⟨rfl, below_tr HB.out HB2.out⟩)
        · go_wp2
          all_goals first
            | (go_roundw
               case rel => exact ⟨k + 1, _, _, by go_num, by omega, rfl, rfl, ⟨by rw [HI2.out]; simp [rc]⟩, ⟨HB2.out⟩⟩
               case measure => simp [intOf]; omega)
            | (have HE := Lib.hid (show (R1, R2) = (0, false) from by rw [HI2.out]; simp [rc])
               have e1 := (Prod.mk.inj HE.out).1
               have e2 := (Prod.mk.inj HE.out).2
               subst e1
               subst e2
               go_ret2
               exact ⟨rfl, below_tr HB.out HB2.out⟩)
      · cases q
        · go_wp2
          all_goals first
            | (go_roundw
               case rel => exact ⟨k + 1, _, _, by go_num, by omega, rfl, rfl, ⟨by rw [HI2.out]; simp [rc]⟩, ⟨HB2.out⟩⟩
               case measure => simp [intOf]; omega)
            | (have HE := Lib.hid (show (R1, R2) = (0, false) from by rw [HI2.out]; simp [rc])
               have e1 := (Prod.mk.inj HE.out).1
               have e2 := (Prod.mk.inj HE.out).2
               subst e1
               subst e2
               go_ret2
               exact ⟨rfl, below_tr HB.out HB2.out⟩)
        · by_cases hcb : z1 < b
          · go_wp2
            all_goals first
              | (go_roundw
                 case rel => exact ⟨k + 1, _, _, by go_num, by omega, rfl, rfl, ⟨by rw [HI2.out]; (first | (simp [rc, hcb]; done) | (simp [rc]; intro h; exfalso; omega))⟩, ⟨HB2.out⟩⟩
                 case measure => simp [intOf]; omega)
              | (have HE := Lib.hid (show (R1, R2) = (0, false) from by rw [HI2.out]; (first | (simp [rc, hcb]; done) | (simp [rc]; intro h; exfalso; omega)))
                 have e1 := (Prod.mk.inj HE.out).1
                 have e2 := (Prod.mk.inj HE.out).2
                 subst e1
                 subst e2
                 go_ret2
                 exact ⟨rfl, below_tr HB.out HB2.out⟩)
          · go_wp2
            all_goals first
              | (go_roundw
                 case rel => exact ⟨k + 1, _, _, by go_num, by omega, rfl, rfl, ⟨by rw [HI2.out]; (first | (simp [rc, hcb]; done) | (simp [rc]; intro h; exfalso; omega))⟩, ⟨HB2.out⟩⟩
                 case measure => simp [intOf]; omega)
              | (have HE := Lib.hid (show (R1, R2) = (0, false) from by rw [HI2.out]; (first | (simp [rc, hcb]; done) | (simp [rc]; intro h; exfalso; omega)))
                 have e1 := (Prod.mk.inj HE.out).1
                 have e2 := (Prod.mk.inj HE.out).2
                 subst e1
                 subst e2
                 go_ret2
                 exact ⟨rfl, below_tr HB.out HB2.out⟩)
    · have HE := Lib.hid (show (R1, R2) = (b, q) from by rw [HI.out, List.drop_of_length_le (by omega)]; rfl)
      have e1 := (Prod.mk.inj HE.out).1
      have e2 := (Prod.mk.inj HE.out).2
      subst e1
      subst e2
      go_wp2
      go_ret2
      exact ⟨rfl, below_tr HB.out HBW.out⟩

set_option maxHeartbeats 8000000 in
theorem WhenR_k3 (d : Nat) (IH : WhenR d) (dd : Int) (nm : ByteArray) (ks : List S94) (hlim : ∀ y ∈ ks, lim d y) (A : Option Addr) (c : Nat) (m : List S126) (Am : Option Addr) (cm : Nat) (W : World) (hC : Kd.C k94 W A ks.length ks) (hm : Kd.C k126 W Am m.length m) (hcm : m.length ≤ cm) :
    Calls Tryz.prog 51 #[.agg #[.int .i64 3, .int .i64 dd, .string nm, .slice A ks.length c], .slice Am m.length cm] W fun e w' => e = .returned (.tuple #[.int .i64 (rc 3 0 false (ks.map (wh m))).1, .bool (rc 3 0 false (ks.map (wh m))).2]) ∧ Below W.heap.size W w' := by
  have HB := Lib.hid (show Below W.heap.size W (W.alloc (.cells #[.int .i64 3, .int .i64 dd, .string nm, .slice A ks.length c] 94 (0, 0))) from below_alloc (Below.refl _ _) _)
  have HY := Lib.hid (new_blk W (.cells #[.int .i64 3, .int .i64 dd, .string nm, .slice A ks.length c] 94 (0, 0)))
  have HM := Lib.hid (Kd.C_below hm HB.out)
  have HC := Lib.hid (Kd.C_below hC HB.out)
  have hkl : ks.length ≤ 9223372036854775807 := hC.2.1
  have HL := Lib.hid hlim
  have HIH := Lib.hid IH
  clear hm hC hlim IH
  generalize hR : rc 3 0 false (ks.map (wh m)) = R
  have HR := Lib.hid hR
  clear hR
  obtain ⟨R1, R2⟩ := R
  go_enter Tryz.func51, Tryz.ntmps51
  go_wp2
  generalize W.alloc (.cells #[.int .i64 3, .int .i64 dd, .string nm, .slice A ks.length c] 94 (0, 0)) = W1 at *
  go_loopw [7, 8, 9] (fun v7 v8 v9 wr => ∃ (k : Nat) (b : Int) (q : Bool), v9 = .int .i64 k ∧ k ≤ ks.length ∧ v7 = .int .i64 b ∧ v8 = .bool q ∧ Aside0 ((R1, R2) = rc 3 b q ((ks.drop k).map (wh m))) ∧ Aside0 (Below W1.heap.size W1 wr)) (fun v7 v8 v9 _ => ks.length - (intOf v9).toNat)
  case atStart => exact ⟨0, 0, false, rfl, Nat.zero_le _, rfl, rfl, ⟨by rw [List.drop_zero]; exact HR.out.symm⟩, ⟨Below.refl _ _⟩⟩
  case round =>
    obtain ⟨k, b, q, rfl, hk, rfl, rfl, HI, HBW⟩ := hrel
    have HY2 := Lib.hid ((HBW.out.block W.heap.size (blk_lt HY.out)).trans HY.out)
    have q0 : wr.cell? ⟨W.heap.size, 0, none⟩ = some (.int .i64 3) := (blk_cell HY2.out 0).trans rfl
    have q3 : wr.cell? ⟨W.heap.size, 3, none⟩ = some (.slice A ks.length c) := (blk_cell HY2.out 3).trans rfl
    by_cases hlt : k < ks.length
    · have hlt2 : (k : Int) < (ks.length : Int) := by omega
      obtain ⟨ad, A4, c4, e, h0, h1, h2, h3, hl4, hC4⟩ := at_T94 (Kd.C_below HC.out HBW.out) (k : Int) (by omega) (by omega)
      subst e
      simp only [Int.toNat_natCast] at h0 h1 h2 h3
      have HDR := Lib.hid (show ks.drop k = rd_T94 ks (k : Int) :: ks.drop (k + 1) from drop_rd24 hlt)
      have hly := HL.out _ (rd_mem95 hlt)
      generalize rd_T94 ks (k : Int) = y at *
      have HCALL := Lib.hid (HIH.out y A4 c4 m Am cm wr hly hC4 hl4 (Kd.C_below HM.out HBW.out) hcm)
      clear hC4 hl4 hly
      have HI2 := Lib.hid (show (R1, R2) = rc 3 b q (wh m y :: (ks.drop (k + 1)).map (wh m)) from by rw [HI.out, HDR.out]; rfl)
      generalize wh m y = z at *
      obtain ⟨z1, z2⟩ := z
      go_wp2_with fail
      refine HCALL.out.mono ?_
      rintro e w2 ⟨rfl, hb⟩
      have HB2 := Lib.hid (below_tr HBW.out hb)
      have HY3 := Lib.hid ((hb.block W.heap.size (blk_lt HY2.out)).trans HY2.out)
      clear hb q0 q3 h0 h1 h2 h3
      have q0 : w2.cell? ⟨W.heap.size, 0, none⟩ = some (.int .i64 3) := (blk_cell HY3.out 0).trans rfl
      cases z2
      · have hcb : True := trivial
        cases q
        · go_wp2
          all_goals first
            | (go_roundw
               case rel => exact ⟨k + 1, _, _, by go_num, by omega, rfl, rfl, ⟨by rw [HI2.out]; simp [rc]⟩, ⟨HB2.out⟩⟩
               case measure => simp [intOf]; omega)
            | (have HE := Lib.hid (show (R1, R2) = (0, false) from by rw [HI2.out]; simp [rc])
               have e1 := (Prod.mk.inj HE.out).1
               have e2 := (Prod.mk.inj HE.out).2
               subst e1
               subst e2
               go_ret2
               exact ⟨rfl, below_tr HB.out HB2.out⟩)
        · go_wp2
          all_goals first
            | (go_roundw
               case rel => exact ⟨k + 1, _, _, by go_num, by omega, rfl, rfl, ⟨by rw [HI2.out]; simp [rc]⟩, ⟨HB2.out⟩⟩
               case measure => simp [intOf]; omega)
            | (have HE := Lib.hid (show (R1, R2) = (0, false) from by rw [HI2.out]; simp [rc])
               have e1 := (Prod.mk.inj HE.out).1
               have e2 := (Prod.mk.inj HE.out).2
               subst e1
               subst e2
               go_ret2
               exact ⟨rfl, below_tr HB.out HB2.out⟩)
      · cases q
        · go_wp2
          all_goals first
            | (go_roundw
               case rel => exact ⟨k + 1, _, _, by go_num, by omega, rfl, rfl, ⟨by rw [HI2.out]; simp [rc]⟩, ⟨HB2.out⟩⟩
               case measure => simp [intOf]; omega)
            | (have HE := Lib.hid (show (R1, R2) = (0, false) from by rw [HI2.out]; simp [rc])
               have e1 := (Prod.mk.inj HE.out).1
               have e2 := (Prod.mk.inj HE.out).2
               subst e1
               subst e2
               go_ret2
               exact ⟨rfl, below_tr HB.out HB2.out⟩)
        · by_cases hcb : b < z1
          · go_wp2
            all_goals first
              | (go_roundw
                 case rel => exact ⟨k + 1, _, _, by go_num, by omega, rfl, rfl, ⟨by rw [HI2.out]; (first | (simp [rc, hcb]; done) | (simp [rc]; intro h; exfalso; omega))⟩, ⟨HB2.out⟩⟩
                 case measure => simp [intOf]; omega)
              | (have HE := Lib.hid (show (R1, R2) = (0, false) from by rw [HI2.out]; (first | (simp [rc, hcb]; done) | (simp [rc]; intro h; exfalso; omega)))
                 have e1 := (Prod.mk.inj HE.out).1
                 have e2 := (Prod.mk.inj HE.out).2
                 subst e1
                 subst e2
                 go_ret2
                 exact ⟨rfl, below_tr HB.out HB2.out⟩)
          · go_wp2
            all_goals first
              | (go_roundw
                 case rel => exact ⟨k + 1, _, _, by go_num, by omega, rfl, rfl, ⟨by rw [HI2.out]; (first | (simp [rc, hcb]; done) | (simp [rc]; intro h; exfalso; omega))⟩, ⟨HB2.out⟩⟩
                 case measure => simp [intOf]; omega)
              | (have HE := Lib.hid (show (R1, R2) = (0, false) from by rw [HI2.out]; (first | (simp [rc, hcb]; done) | (simp [rc]; intro h; exfalso; omega)))
                 have e1 := (Prod.mk.inj HE.out).1
                 have e2 := (Prod.mk.inj HE.out).2
                 subst e1
                 subst e2
                 go_ret2
                 exact ⟨rfl, below_tr HB.out HB2.out⟩)
    · have HE := Lib.hid (show (R1, R2) = (b, q) from by rw [HI.out, List.drop_of_length_le (by omega)]; rfl)
      have e1 := (Prod.mk.inj HE.out).1
      have e2 := (Prod.mk.inj HE.out).2
      subst e1
      subst e2
      go_wp2
      go_ret2
      exact ⟨rfl, below_tr HB.out HBW.out⟩

set_option maxHeartbeats 8000000 in
theorem WhenR_k (d : Nat) (IH : WhenR d) (o : Int) (ho1 : o ≠ 1) (ho2 : o ≠ 2) (ho3 : o ≠ 3) (dd : Int) (nm : ByteArray) (ks : List S94) (hlim : ∀ y ∈ ks, lim d y) (A : Option Addr) (c : Nat) (m : List S126) (Am : Option Addr) (cm : Nat) (W : World) (hC : Kd.C k94 W A ks.length ks) (hm : Kd.C k126 W Am m.length m) (hcm : m.length ≤ cm) :
    Calls Tryz.prog 51 #[.agg #[.int .i64 o, .int .i64 dd, .string nm, .slice A ks.length c], .slice Am m.length cm] W fun e w' => e = .returned (.tuple #[.int .i64 (rc o 0 false (ks.map (wh m))).1, .bool (rc o 0 false (ks.map (wh m))).2]) ∧ Below W.heap.size W w' := by
  have HB := Lib.hid (show Below W.heap.size W (W.alloc (.cells #[.int .i64 o, .int .i64 dd, .string nm, .slice A ks.length c] 94 (0, 0))) from below_alloc (Below.refl _ _) _)
  have HY := Lib.hid (new_blk W (.cells #[.int .i64 o, .int .i64 dd, .string nm, .slice A ks.length c] 94 (0, 0)))
  have HM := Lib.hid (Kd.C_below hm HB.out)
  have HC := Lib.hid (Kd.C_below hC HB.out)
  have hkl : ks.length ≤ 9223372036854775807 := hC.2.1
  have HL := Lib.hid hlim
  have HIH := Lib.hid IH
  have b1 : (o == 1) = false := by simp [ho1]
  have b2 : (o == 2) = false := by simp [ho2]
  have b3 : (o == 3) = false := by simp [ho3]
  clear hm hC hlim IH
  generalize hR : rc o 0 false (ks.map (wh m)) = R
  have HR := Lib.hid hR
  clear hR
  obtain ⟨R1, R2⟩ := R
  go_enter Tryz.func51, Tryz.ntmps51
  go_wp2
  generalize W.alloc (.cells #[.int .i64 o, .int .i64 dd, .string nm, .slice A ks.length c] 94 (0, 0)) = W1 at *
  go_loopw [7, 8, 9] (fun v7 v8 v9 wr => ∃ (k : Nat) (b : Int) (q : Bool), v9 = .int .i64 k ∧ k ≤ ks.length ∧ v7 = .int .i64 b ∧ v8 = .bool q ∧ Aside0 ((R1, R2) = rc o b q ((ks.drop k).map (wh m))) ∧ Aside0 (Below W1.heap.size W1 wr)) (fun v7 v8 v9 _ => ks.length - (intOf v9).toNat)
  case atStart => exact ⟨0, 0, false, rfl, Nat.zero_le _, rfl, rfl, ⟨by rw [List.drop_zero]; exact HR.out.symm⟩, ⟨Below.refl _ _⟩⟩
  case round =>
    obtain ⟨k, b, q, rfl, hk, rfl, rfl, HI, HBW⟩ := hrel
    have HY2 := Lib.hid ((HBW.out.block W.heap.size (blk_lt HY.out)).trans HY.out)
    have q0 : wr.cell? ⟨W.heap.size, 0, none⟩ = some (.int .i64 o) := (blk_cell HY2.out 0).trans rfl
    have q3 : wr.cell? ⟨W.heap.size, 3, none⟩ = some (.slice A ks.length c) := (blk_cell HY2.out 3).trans rfl
    by_cases hlt : k < ks.length
    · have hlt2 : (k : Int) < (ks.length : Int) := by omega
      obtain ⟨ad, A4, c4, e, h0, h1, h2, h3, hl4, hC4⟩ := at_T94 (Kd.C_below HC.out HBW.out) (k : Int) (by omega) (by omega)
      subst e
      simp only [Int.toNat_natCast] at h0 h1 h2 h3
      have HDR := Lib.hid (show ks.drop k = rd_T94 ks (k : Int) :: ks.drop (k + 1) from drop_rd24 hlt)
      have hly := HL.out _ (rd_mem95 hlt)
      generalize rd_T94 ks (k : Int) = y at *
      have HCALL := Lib.hid (HIH.out y A4 c4 m Am cm wr hly hC4 hl4 (Kd.C_below HM.out HBW.out) hcm)
      clear hC4 hl4 hly
      have HI2 := Lib.hid (show (R1, R2) = rc o b q (wh m y :: (ks.drop (k + 1)).map (wh m)) from by rw [HI.out, HDR.out]; rfl)
      generalize wh m y = z at *
      obtain ⟨z1, z2⟩ := z
      go_wp2_with fail
      refine HCALL.out.mono ?_
      rintro e w2 ⟨rfl, hb⟩
      have HB2 := Lib.hid (below_tr HBW.out hb)
      have HY3 := Lib.hid ((hb.block W.heap.size (blk_lt HY2.out)).trans HY2.out)
      clear hb q0 q3 h0 h1 h2 h3
      have q0 : w2.cell? ⟨W.heap.size, 0, none⟩ = some (.int .i64 o) := (blk_cell HY3.out 0).trans rfl
      go_wp2
      all_goals first
        | (go_roundw
           case rel => exact ⟨k + 1, _, _, by go_num, by omega, rfl, rfl, ⟨by rw [HI2.out]; simp [rc, ho2, ho3]⟩, ⟨HB2.out⟩⟩
           case measure => simp [intOf]; omega)
        | (have HE := Lib.hid (show (R1, R2) = (0, false) from by rw [HI2.out]; simp [rc, ho2, ho3])
           have e1 := (Prod.mk.inj HE.out).1
           have e2 := (Prod.mk.inj HE.out).2
           subst e1
           subst e2
           go_ret2
           exact ⟨rfl, below_tr HB.out HB2.out⟩)
    · have HE := Lib.hid (show (R1, R2) = (b, q) from by rw [HI.out, List.drop_of_length_le (by omega)]; rfl)
      have e1 := (Prod.mk.inj HE.out).1
      have e2 := (Prod.mk.inj HE.out).2
      subst e1
      subst e2
      go_wp2
      go_ret2
      exact ⟨rfl, below_tr HB.out HBW.out⟩

/-- The document's When is wh too. -/
theorem WhenR_any : ∀ d, WhenR d
  | 0 => fun x A c m Am cm W h => absurd h id
  | d + 1 => by
    intro x A c m Am cm W hlim hC hl hm hcm
    obtain ⟨o, dd, nm, ks⟩ := x
    have hl2 : ∀ y ∈ ks, lim d y := hlim.2
    simp only at hC hl
    by_cases h1 : o = 1
    · subst h1; exact WhenR_1 dd nm ks A c m Am cm W hm
    have e : wh m ⟨o, dd, nm, ks⟩ = rc o 0 false (ks.map (wh m)) := by rw [wh_eq, if_neg h1, rc_comb]
    rw [e]
    by_cases h2 : o = 2
    · subst h2; exact WhenR_k2 d (WhenR_any d) dd nm ks hl2 A c m Am cm W hC hm hcm
    by_cases h3 : o = 3
    · subst h3; exact WhenR_k3 d (WhenR_any d) dd nm ks hl2 A c m Am cm W hC hm hcm
    exact WhenR_k d (WhenR_any d) o h1 h2 h3 dd nm ks hl2 A c m Am cm W hC hm hcm
end Go.Proofs.YtafigkikblpbnaaGreatDoor.PG
namespace Go.Proofs.YtafigkikblpbnaaGreatDoor.PG
open Go.RowKit Go.Proofs.YtafigkikblpbnaaGreatDoorW.PrintWords Go.Proofs.YtafigkikblpbnaaGreatDoorW.PrintLast Go.Proofs.YtafigkikblpbnaaGreatDoorW.PrintMore
set_option linter.unusedVariables false
set_option linter.unusedSimpArgs false
set_option maxRecDepth 100000
/-! ### hanaperref19_Miles: function 59 -/
def hanaperref19_Miles.f (a0_0 : ByteArray) (a0_1 : ByteArray) (a0_2 : ByteArray) (a0_3 : ByteArray) (a0_4 : Int) (a0_5 : Int) (a1_0 : ByteArray) (l1_1 : List (S126)) : Option ((List (S126))) := (some (([(⟨(⟨#[105, 110, 103, 101, 115, 116]⟩ : ByteArray), a0_4⟩ : S126)] : List (S126)) : List (S126))).bind fun y363 => (if y363.length + l1_1.length < 5864062014805 then (some (y363 ++ l1_1)) else (none))
set_option maxHeartbeats 8000000 in
set_option maxRecDepth 100000 in
theorem hanaperref19_Miles.calls (a0_0 : ByteArray) (a0_1 : ByteArray) (a0_2 : ByteArray) (a0_3 : ByteArray) (a0_4 : Int) (a0_5 : Int) (a1_0 : ByteArray) (A1_1 : Option Addr) (c1_1 : Nat) (l1_1 : List (S126)) (r : List (S126)) (w : World) (hr1_1 : Kd.C k126 w A1_1 l1_1.length l1_1) (hc1_1 : l1_1.length ≤ c1_1) (h : hanaperref19_Miles.f a0_0 a0_1 a0_2 a0_3 a0_4 a0_5 a1_0 l1_1 = some r) :
    Calls Tryz.prog 52 #[.agg #[.string a0_0, .string a0_1, .string a0_2, .string a0_3, .int .i64 a0_4, .int .i64 a0_5], .agg #[.string a1_0, .slice A1_1 l1_1.length c1_1]] w fun e w' => ∃ v0_ : Value, e = .returned (v0_) ∧ Kd.R k126 126 w' w.heap.size (fun _ => True) v0_ r ∧ Below w.heap.size w w' := by
  have hu73 := Tryz.underlying48
  have hu59 := Tryz.underlying61
  have hu134 := Tryz.underlying126
  have HR1_1 := Aside0.mk hr1_1
  have HC1_1 := Aside0.mk hc1_1
  clear hr1_1 hc1_1
  have HB := Aside0.mk (Below.refl w.heap.size w)
  have H : ((some (([(⟨(⟨#[105, 110, 103, 101, 115, 116]⟩ : ByteArray), a0_4⟩ : S126)] : List (S126)) : List (S126))).bind fun y363 => (if y363.length + l1_1.length < 5864062014805 then (some (y363 ++ l1_1)) else (none))) = some r := h
  clear h
  obtain ⟨y363, hy363⟩ : ∃ y_ : List (S126), y_ = (([(⟨(⟨#[105, 110, 103, 101, 115, 116]⟩ : ByteArray), a0_4⟩ : S126)] : List (S126))) := ⟨_, rfl⟩
  replace H : (if y363.length + l1_1.length < 5864062014805 then (some (y363 ++ l1_1)) else (none)) = some r := by first | (rw [hy363]; with_reducible exact H) | (have H2_ := (Option.bind_some _ _).symm.trans H; rw [hy363]; with_reducible exact H2_) | (have H2_ := (Option.bind_some _ _).symm.trans H; with_reducible exact H2_) | with_reducible exact H | (rw [hy363]; exact H) | exact H
  have Ny363 := Aside0.mk hy363
  clear hy363
  by_cases c3 : y363.length + l1_1.length < 5864062014805
  · rw [if_pos c3] at H
    have LMc3 := Aside0.mk c3
    clear c3
    obtain ⟨y366, hy366⟩ : ∃ y_ : List (S126), y_ = (y363 ++ l1_1) := ⟨_, rfl⟩
    replace H : (some y366) = some r := by first | (rw [hy366]; with_reducible exact H) | (have H2_ := (Option.bind_some _ _).symm.trans H; rw [hy366]; with_reducible exact H2_) | (have H2_ := (Option.bind_some _ _).symm.trans H; with_reducible exact H2_) | with_reducible exact H | (rw [hy366]; exact H) | exact H
    have Ny366 := Aside0.mk hy366
    clear hy366
    obtain rfl := Option.some.inj H
    go_enter Tryz.func52, Tryz.ntmps52
    go_wp2_with (first | ((with_reducible refine gate_dst (N := 2) rfl ?_); refine box_event ?hg (N := 2) ?hd (cs := #[.string a0_0, .string a0_1, .string a0_2, .string a0_3, .int .i64 a0_4, .int .i64 a0_5]) (t := 48) ?hr ?_; (case hd => rfl); (case hg => rfl); (case hr => first | (go_simp; done) | (go_simp; rfl)); intro gb361 hg w4 hbox hb; have n0_ := Aside0.mk (below_step (by repeat (first | (with_reducible first | exact HB.out | apply below_alloc | apply pw_below_drewN | apply below_drew1) | exact HB.out)) hb); have n1_ := Aside0.mk (hbox); have n2_ := Aside0.mk ((by rw [hg]; exact (below_size (by repeat (first | (with_reducible first | exact HB.out | apply below_alloc | apply pw_below_drewN | apply below_drew1) | exact HB.out))) : w.heap.size ≤ gb361)); have n3_ := Aside0.mk ((by rw [hg]; exact (below_size (by repeat (first | (with_reducible first | exact HB.out | apply below_alloc | apply pw_below_drewN | apply below_drew1) | exact HB.out))) : w.heap.size ≤ gb361)); clear HB; have HB := n0_; have BK361 := n1_; have GW361 := n2_; have GE361 := n3_; clear n0_ n1_ n2_ n3_; clear hb hbox hg) | ((with_reducible refine gate_dst (N := 3) rfl ?_); refine box_event ?hg (N := 3) ?hd (cs := #[.string a1_0, .slice A1_1 l1_1.length c1_1]) (t := 61) ?hr ?_; (case hd => rfl); (case hg => rfl); (case hr => first | (go_simp; done) | (go_simp; rfl)); intro gb362 hg w5 hbox hb; have n0_ := Aside0.mk (blk_below (g := gb361) (o := .cells #[.string a0_0, .string a0_1, .string a0_2, .string a0_3, .int .i64 a0_4, .int .i64 a0_5] 48 (0, 0)) (by (with_reducible repeat (first | refine blk_drewN ?_ _ | refine blk_drew ?_ | refine blk_alloc ?_ _)); exact BK361.out) hb); have n1_ := Aside0.mk (below_step (by repeat (first | (with_reducible first | exact HB.out | apply below_alloc | apply pw_below_drewN | apply below_drew1 | refine below_set ?_ GE361.out) | exact HB.out)) hb); have n2_ := Aside0.mk (hbox); have n3_ := Aside0.mk ((by rw [hg]; exact (below_size (by repeat (first | (with_reducible first | exact HB.out | apply below_alloc | apply pw_below_drewN | apply below_drew1 | refine below_set ?_ GE361.out) | exact HB.out))) : w.heap.size ≤ gb362)); have n4_ := Aside0.mk ((by rw [hg]; exact (below_size (by repeat (first | (with_reducible first | exact HB.out | apply below_alloc | apply pw_below_drewN | apply below_drew1 | refine below_set ?_ GE361.out) | exact HB.out))) : w.heap.size ≤ gb362)); have n5_ := Aside0.mk ((by rw [hg]; exact Nat.ne_of_lt (blk_lt (g := gb361) (o := .cells #[.string a0_0, .string a0_1, .string a0_2, .string a0_3, .int .i64 a0_4, .int .i64 a0_5] 48 (0, 0)) (by (with_reducible repeat (first | refine blk_drewN ?_ _ | refine blk_drew ?_ | refine blk_alloc ?_ _)); exact BK361.out)) : gb361 ≠ gb362)); have n6_ := Aside0.mk ((by rw [hg]; exact Nat.ne_of_gt (blk_lt (g := gb361) (o := .cells #[.string a0_0, .string a0_1, .string a0_2, .string a0_3, .int .i64 a0_4, .int .i64 a0_5] 48 (0, 0)) (by (with_reducible repeat (first | refine blk_drewN ?_ _ | refine blk_drew ?_ | refine blk_alloc ?_ _)); exact BK361.out)) : gb362 ≠ gb361)); clear BK361; clear HB; have BK361 := n0_; have HB := n1_; have BK362 := n2_; have GW362 := n3_; have GE362 := n4_; have NB361_362 := n5_; have NB362_361 := n6_; clear n0_ n1_ n2_ n3_ n4_ n5_ n6_; clear hb hbox hg; have hnb6 := NB361_362.out; have hnc6 := NB362_361.out; have hcz7_0 : w5.cell? ⟨gb361, 0, none⟩ = some (.string a0_0) := (blk_cell BK361.out 0).trans rfl; have hcz7_1 : w5.cell? ⟨gb361, 1, none⟩ = some (.string a0_1) := (blk_cell BK361.out 1).trans rfl; have hcz7_2 : w5.cell? ⟨gb361, 2, none⟩ = some (.string a0_2) := (blk_cell BK361.out 2).trans rfl; have hcz7_3 : w5.cell? ⟨gb361, 3, none⟩ = some (.string a0_3) := (blk_cell BK361.out 3).trans rfl; have hcz7_4 : w5.cell? ⟨gb361, 4, none⟩ = some (.int .i64 a0_4) := (blk_cell BK361.out 4).trans rfl; have hcz7_5 : w5.cell? ⟨gb361, 5, none⟩ = some (.int .i64 a0_5) := (blk_cell BK361.out 5).trans rfl; have hfz7_0 := blk_frozen BK361.out 0; have hfz7_1 := blk_frozen BK361.out 1; have hfz7_2 := blk_frozen BK361.out 2; have hfz7_3 := blk_frozen BK361.out 3; have hfz7_4 := blk_frozen BK361.out 4; have hfz7_5 := blk_frozen BK361.out 5) | ((with_reducible refine gate_dst (N := 8) rfl ?_); refine Kd.R_lit k126 _ 126 ?hg (N := 8) ?hd (xs := ([(⟨(⟨#[105, 110, 103, 101, 115, 116]⟩ : ByteArray), a0_4⟩ : S126)] : List (S126))) (inner := [.string (⟨#[105, 110, 103, 101, 115, 116]⟩ : ByteArray), .int .i64 a0_4]) (ok := fun _ => True) (okp := fun _ => True) ?hr ?hp (fun _ hk => hk) trivial (Below.refl _ _) (Nat.le_refl _) (by simp) ?_; (case hd => rfl); (case hg => rfl); (case hr => first | (go_simp; done) | (go_simp; rfl)); (case hp => exact (Reps.c2 (show Kd.M k126 _ _ _ (⟨(⟨#[105, 110, 103, 101, 115, 116]⟩ : ByteArray), a0_4⟩ : S126) [.string (⟨#[105, 110, 103, 101, 115, 116]⟩ : ByteArray), .int .i64 a0_4] from (k126_mkM _ _ _ (⟨(⟨#[105, 110, 103, 101, 115, 116]⟩ : ByteArray), a0_4⟩ : S126) )) (Reps.none _ _))); intro v364 w8 ho9 hb hg_ hnew_; clear hg_ hnew_; (first | rw [← Ny363.out] at ho9 | (simp only [Int.reduceToNat] at ho9; rw [← Ny363.out] at ho9)); have n0_ := Aside0.mk (Kd.R_lower ho9 (below_size (by repeat (first | (with_reducible first | exact HB.out | apply below_alloc | apply pw_below_drewN | apply below_drew1 | refine below_set ?_ GE361.out | refine below_set ?_ GE362.out) | exact HB.out)))); have n1_ := Aside0.mk (blk_below (g := gb361) (o := .cells #[.string a0_0, .string a0_1, .string a0_2, .string a0_3, .int .i64 a0_4, .int .i64 a0_5] 48 (0, 0)) (by (with_reducible repeat (first | refine blk_drewN ?_ _ | refine blk_drew ?_ | refine blk_alloc ?_ _)); exact BK361.out) hb); have n2_ := Aside0.mk (blk_below (g := gb362) (o := .cells #[.string a1_0, .slice A1_1 l1_1.length c1_1] 61 (0, 0)) (by (with_reducible repeat (first | refine blk_drewN ?_ _ | refine blk_drew ?_ | refine blk_alloc ?_ _)); exact BK362.out) hb); have n3_ := Aside0.mk (below_step (by repeat (first | (with_reducible first | exact HB.out | apply below_alloc | apply pw_below_drewN | apply below_drew1 | refine below_set ?_ GE361.out | refine below_set ?_ GE362.out) | exact HB.out)) hb); clear BK361; clear BK362; clear HB; have HO365 := n0_; have BK361 := n1_; have BK362 := n2_; have HB := n3_; clear n0_ n1_ n2_ n3_; clear hb ho9; have hcz10_0 : w8.cell? ⟨gb362, 0, none⟩ = some (.string a1_0) := (blk_cell BK362.out 0).trans rfl; have hcz10_1 : w8.cell? ⟨gb362, 1, none⟩ = some (.slice A1_1 l1_1.length c1_1) := (blk_cell BK362.out 1).trans rfl; have hfz10_0 := blk_frozen BK362.out 0; have hfz10_1 := blk_frozen BK362.out 1) | ((with_reducible refine gate_builtin (b := .append) (xs := #[.tmp 8, .tmp 10]) rfl ?_); at_builtin; refine Kd.R_append_rows k126 (w0 := w) w.heap.size rfl (.tmp 8) (.tmp 10) 59 126 (.agg #[(.string ⟨#[]⟩), (.int .i64 0)]) 24 rfl Tryz.underlying59 info126 rfl (by decide) (by omega) v364 y363 l1_1 _ _ _ (fun _ => True) (fun _ => False) rfl rfl ?aO ?aR (fun _ _ h => h) (fun _ h => h.elim) ?aF ?aB ?aS ?aL ?_; (case aR => repeat (first | exact (Kd.C_below HR1_1.out HB.out) | (with_reducible refine Kd.C_alloc ?_ _) | (with_reducible refine Kd.C_drewN ?_ _) | (with_reducible refine Kd.C_drew ?_))); (case aB => exact (by repeat (first | (with_reducible first | exact HB.out | apply below_alloc | apply pw_below_drewN | apply below_drew1 | refine below_set ?_ GE361.out | refine below_set ?_ GE362.out) | exact HB.out))); (case aF => exact (fun _ _ => trivial)); (case aO => exact (by (with_reducible repeat (first | apply Kd.R_alloc | apply Kd.R_drewN | apply Kd.R_drew)); exact HO365.out)); (case aS => exact (below_size (by repeat (first | (with_reducible first | exact HB.out | apply below_alloc | apply pw_below_drewN | apply below_drew1 | refine below_set ?_ GE361.out | refine below_set ?_ GE362.out) | exact HB.out)))); (case aL => have := LMc3.out; omega); intro v367 w11 ho hb hg hat; rw [← Ny366.out] at ho; have n0_ := Aside0.mk (blk_grown (g := gb361) (o := .cells #[.string a0_0, .string a0_1, .string a0_2, .string a0_3, .int .i64 a0_4, .int .i64 a0_5] 48 (0, 0)) (by (with_reducible repeat (first | refine blk_drewN ?_ _ | refine blk_drew ?_ | refine blk_alloc ?_ _)); exact BK361.out) hg (Kd.R_ne HO365.out BK361.out (by decide))); have n1_ := Aside0.mk (blk_grown (g := gb362) (o := .cells #[.string a1_0, .slice A1_1 l1_1.length c1_1] 61 (0, 0)) (by (with_reducible repeat (first | refine blk_drewN ?_ _ | refine blk_drew ?_ | refine blk_alloc ?_ _)); exact BK362.out) hg (Kd.R_ne HO365.out BK362.out (by decide))); have n2_ := Aside0.mk (hb); have n3_ := Aside0.mk (ho); clear BK361; clear BK362; clear HB; clear HO365; have BK361 := n0_; have BK362 := n1_; have HB := n2_; have HO368 := n3_; clear n0_ n1_ n2_ n3_; clear ho hb hg hat))
    go_ret
    exact ⟨_, by first | rfl | (simp [errW_none, errW_some] <;> rfl) | (simp [*, errW_none, errW_some] <;> rfl), by (with_reducible repeat (first | apply Kd.R_alloc | apply Kd.R_drewN | apply Kd.R_drew)); exact HO368.out, by repeat (first | (with_reducible first | exact HB.out | apply below_alloc | apply pw_below_drewN | apply below_drew1 | refine below_set ?_ GE361.out | refine below_set ?_ GE362.out) | exact HB.out)⟩
  · rw [if_neg c3] at H
    exact absurd H (by simp)

end Go.Proofs.YtafigkikblpbnaaGreatDoor.PG
