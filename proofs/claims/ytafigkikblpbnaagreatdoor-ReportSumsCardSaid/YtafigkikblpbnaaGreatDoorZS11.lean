/- A tally as text: four numbers, a blank between. When a condition is due, in plain lists; no condition beyond each theorem its own. -/
import Derived.Test.YtafigkikblpbnaaGreatDoorZS07
import Derived.Test.YtafigkikblpbnaaGreatDoorZS03
import Derived.Test.YtafigkikblpbnaaGreatDoorZS04
import Derived.Test.YtafigkikblpbnaaGreatDoorZS10
import Derived.Test.YtafigkikblpbnaaGreatDoorZS02
import Derived.WalkSpells
import Derived.WalkLawsBesides
import Derived.Lib.Hide
namespace Go.Proofs.YtafigkikblpbnaaGreatDoor.PG
open Go.RowKit Go.Proofs.YtafigkikblpbnaaGreatDoorW.PrintWords Go.Proofs.YtafigkikblpbnaaGreatDoorW.PrintLast Go.Proofs.YtafigkikblpbnaaGreatDoorW.PrintMore
set_option linter.unusedVariables false
set_option linter.unusedSimpArgs false
set_option maxRecDepth 100000

theorem dec_tell : (List.range 100).all (fun i => decide ((tellS i).data.toList = Lib.decDigits i)) = true := by decide +kernel
theorem tell_dec {i : Nat} (h : i < 100) : (⟨(Lib.decDigits i).toArray⟩ : ByteArray) = tellS i := by
  have h1 := List.all_eq_true.1 dec_tell i (List.mem_range.2 h)
  rw [← of_decide_eq_true h1]
theorem join4 (a b c d s : ByteArray) : (⟨(Lib.join ([a, b, c, d].map (·.data.toList)) s.data.toList).toArray⟩ : ByteArray) = a ++ s ++ b ++ s ++ c ++ s ++ d := by
  apply ByteArray.ext
  apply Array.toList_inj.1
  simp [Lib.join]
/-- strconv.Itoa of a small number: as the document tells it. -/
theorem Itoa_eq (i : Nat) (h : i < 100) (w : World) : Calls Tryz.prog 36 #[.int .i64 i] w fun e w' => e = .returned (.string (tellS i)) ∧ w' = w :=
  (Tryz.strconv_Itoa_small i h w).mono (by rintro e w' ⟨h1, h2⟩; exact ⟨by rw [h1, tell_dec h], h2⟩)
theorem value_seq {P : Program} {ops : Array Oper} {rest : List Oper} {o : Oper} {a : Act} {Q : Exit → Act → World → Prop} {w : World} {v : Value} (hg : o.guard = none) (hrun : Sem.run P (execOp a.eval o) w = .ok (.value v) w) (h : wpList P ops Q rest (a.put o.dst v) w) : wpList P ops Q (o :: rest) a w := by
  refine wpList_plain hg fun K hK => ?_
  unfold Oper.wp
  rw [hrun]
  exact hK _ _ h
theorem idx65 {ρ : Operand → Value} {o : Oper} {x y : Operand} {v0 v1 v2 v3 : Value} {w : World} (k : Nat) (hk : k < 4) (ho : o.op = .index 65 x y) (hx : ρ x = .agg #[v0, v1, v2, v3]) (hy : ρ y = .int .i64 k) :
    Sem.run Tryz.prog (execOp ρ o) w = .ok (.value (#[v0, v1, v2, v3][k]'hk)) w := by
  unfold execOp
  rw [ho]
  simp only [hx, hy]
  obtain rfl | rfl | rfl | rfl : k = 0 ∨ k = 1 ∨ k = 2 ∨ k = 3 := by omega
  · go_simp
    kernel_rfl
  · go_simp
    kernel_rfl
  · go_simp
    kernel_rfl
  · go_simp
    kernel_rfl

set_option maxHeartbeats 2000000 in
theorem text_eq (a1 a2 a3 a4 : Nat) (h1 : a1 < 100) (h2 : a2 < 100) (h3 : a3 < 100) (h4 : a4 < 100) (W : World) :
    Calls Tryz.prog 30 #[.agg #[.int .i64 (a1 : Nat), .int .i64 (a2 : Nat), .int .i64 (a3 : Nat), .int .i64 (a4 : Nat)]] W fun e w' => e = .returned (.string (tellS a1 ++ ⟨#[32]⟩ ++ tellS a2 ++ ⟨#[32]⟩ ++ tellS a3 ++ ⟨#[32]⟩ ++ tellS a4)) ∧ Below W.heap.size W w' := by
  have HB := Lib.hid (show Below W.heap.size W (W.alloc (.cells #[.int .i64 a1, .int .i64 a2, .int .i64 a3, .int .i64 a4] 65 (0, 0))) from below_alloc (Below.refl _ _) _)
  have HI1 := fun w => Itoa_eq a1 h1 w
  have HI2 := fun w => Itoa_eq a2 h2 w
  have HI3 := fun w => Itoa_eq a3 h3 w
  have HI4 := fun w => Itoa_eq a4 h4 w
  have z1 := tellS_size a1
  have z2 := tellS_size a2
  have z3 := tellS_size a3
  have z4 := tellS_size a4
  generalize tellS a1 = t0 at *
  generalize tellS a2 = t1 at *
  generalize tellS a3 = t2 at *
  generalize tellS a4 = t3 at *
  have HJ := Lib.hid (join4 t0 t1 t2 t3 ⟨#[32]⟩)
  have HZ := Lib.hid (And.intro z1 (And.intro z2 (And.intro z3 z4)))
  have HI1 := Lib.hid HI1
  have HI2 := Lib.hid HI2
  have HI3 := Lib.hid HI3
  have HI4 := Lib.hid HI4
  clear z1 z2 z3 z4 h1 h2 h3 h4
  have HC := Lib.hid (new_blk W (.cells #[.int .i64 a1, .int .i64 a2, .int .i64 a3, .int .i64 a4] 65 (0, 0)))
  have q0 : (W.alloc (.cells #[.int .i64 a1, .int .i64 a2, .int .i64 a3, .int .i64 a4] 65 (0, 0))).cell? ⟨W.heap.size, 0, none⟩ = some (.int .i64 a1) := (blk_cell HC.out 0).trans rfl
  have q1 : (W.alloc (.cells #[.int .i64 a1, .int .i64 a2, .int .i64 a3, .int .i64 a4] 65 (0, 0))).cell? ⟨W.heap.size, 1, none⟩ = some (.int .i64 a2) := (blk_cell HC.out 1).trans rfl
  have q2 : (W.alloc (.cells #[.int .i64 a1, .int .i64 a2, .int .i64 a3, .int .i64 a4] 65 (0, 0))).cell? ⟨W.heap.size, 2, none⟩ = some (.int .i64 a3) := (blk_cell HC.out 2).trans rfl
  have q3 : (W.alloc (.cells #[.int .i64 a1, .int .i64 a2, .int .i64 a3, .int .i64 a4] 65 (0, 0))).cell? ⟨W.heap.size, 3, none⟩ = some (.int .i64 a4) := (blk_cell HC.out 3).trans rfl
  go_enter Tryz.func30, Tryz.ntmps30
  go_wp2
  clear q0 q1 q2 q3
  generalize W.alloc (.cells #[.int .i64 a1, .int .i64 a2, .int .i64 a3, .int .i64 a4] 65 (0, 0)) = W1 at *
  obtain ⟨L, hL⟩ : ∃ L : List ByteArray, L = [t0, t1, t2, t3] := ⟨_, rfl⟩
  have HL := Lib.hid hL
  clear hL
  go_loopw [3, 7] (fun v3 v7 wr => ∃ (k : Nat) (u : Value), v3 = u ∧ v7 = .int .i64 k ∧ k ≤ 4 ∧ Aside0 (Kd.R Kd.string 9 wr W1.heap.size (fun _ => True) u (L.take k)) ∧ Aside0 (Below W1.heap.size W1 wr)) (fun _ v7 _ => 4 - (intOf v7).toNat)
  case atStart => exact ⟨0, _, rfl, rfl, Nat.zero_le _, ⟨Kd.R_nil _ _ _ _ _⟩, ⟨Below.refl _ _⟩⟩
  case round =>
    obtain ⟨k, u, rfl, rfl, hk, HO, HB2⟩ := hrel
    obtain rfl | rfl | rfl | rfl | rfl : k = 0 ∨ k = 1 ∨ k = 2 ∨ k = 3 ∨ k = 4 := by omega
    · go_wp2_with (first | ((with_reducible refine gate_dst (N := 9) rfl ?_); refine value_seq rfl (idx65 (x := .tmp 6) (y := .tmp 7) 0 (by omega) rfl rfl rfl) ?_) | (go_at_call 36; refine (HI1.out _).mono ?_; rintro e w2 ⟨rfl, rfl⟩) | ((with_reducible refine gate_builtin (b := .append) (xs := #[.tmp 10, .tmp 13]) rfl ?_); at_builtin; refine Kd.R_append Kd.string (w0 := W1) W1.heap.size rfl (.tmp 10) (.tmp 13) 34 9 (.string ⟨#[]⟩) 16 rfl Tryz.underlying34 info9 rfl (by decide) (by omega) u3 (L.take 0) t0 [.string t0] (fun _ => True) (fun _ => False) rfl rfl rfl (fun _ hk => hk.elim) (fun _ _ => trivial) HO.out HB2.out HB2.out.size (by rw [List.length_take]; omega) ?_; intro v9 w4 ho hb hg hat; clear hg hat))
      go_roundw
      case rel => exact ⟨1, v9, rfl, by go_num, by omega, ⟨by rw [HL.out] at ho ⊢; exact ho⟩, ⟨hb⟩⟩
      case measure => simp [intOf]
    · go_wp2_with (first | ((with_reducible refine gate_dst (N := 9) rfl ?_); refine value_seq rfl (idx65 (x := .tmp 6) (y := .tmp 7) 1 (by omega) rfl rfl rfl) ?_) | (go_at_call 36; refine (HI2.out _).mono ?_; rintro e w2 ⟨rfl, rfl⟩) | ((with_reducible refine gate_builtin (b := .append) (xs := #[.tmp 10, .tmp 13]) rfl ?_); at_builtin; refine Kd.R_append Kd.string (w0 := W1) W1.heap.size rfl (.tmp 10) (.tmp 13) 34 9 (.string ⟨#[]⟩) 16 rfl Tryz.underlying34 info9 rfl (by decide) (by omega) u3 (L.take 1) t1 [.string t1] (fun _ => True) (fun _ => False) rfl rfl rfl (fun _ hk => hk.elim) (fun _ _ => trivial) HO.out HB2.out HB2.out.size (by rw [List.length_take]; omega) ?_; intro v9 w4 ho hb hg hat; clear hg hat))
      go_roundw
      case rel => exact ⟨2, v9, rfl, by go_num, by omega, ⟨by rw [HL.out] at ho ⊢; exact ho⟩, ⟨hb⟩⟩
      case measure => simp [intOf]
    · go_wp2_with (first | ((with_reducible refine gate_dst (N := 9) rfl ?_); refine value_seq rfl (idx65 (x := .tmp 6) (y := .tmp 7) 2 (by omega) rfl rfl rfl) ?_) | (go_at_call 36; refine (HI3.out _).mono ?_; rintro e w2 ⟨rfl, rfl⟩) | ((with_reducible refine gate_builtin (b := .append) (xs := #[.tmp 10, .tmp 13]) rfl ?_); at_builtin; refine Kd.R_append Kd.string (w0 := W1) W1.heap.size rfl (.tmp 10) (.tmp 13) 34 9 (.string ⟨#[]⟩) 16 rfl Tryz.underlying34 info9 rfl (by decide) (by omega) u3 (L.take 2) t2 [.string t2] (fun _ => True) (fun _ => False) rfl rfl rfl (fun _ hk => hk.elim) (fun _ _ => trivial) HO.out HB2.out HB2.out.size (by rw [List.length_take]; omega) ?_; intro v9 w4 ho hb hg hat; clear hg hat))
      go_roundw
      case rel => exact ⟨3, v9, rfl, by go_num, by omega, ⟨by rw [HL.out] at ho ⊢; exact ho⟩, ⟨hb⟩⟩
      case measure => simp [intOf]
    · go_wp2_with (first | ((with_reducible refine gate_dst (N := 9) rfl ?_); refine value_seq rfl (idx65 (x := .tmp 6) (y := .tmp 7) 3 (by omega) rfl rfl rfl) ?_) | (go_at_call 36; refine (HI4.out _).mono ?_; rintro e w2 ⟨rfl, rfl⟩) | ((with_reducible refine gate_builtin (b := .append) (xs := #[.tmp 10, .tmp 13]) rfl ?_); at_builtin; refine Kd.R_append Kd.string (w0 := W1) W1.heap.size rfl (.tmp 10) (.tmp 13) 34 9 (.string ⟨#[]⟩) 16 rfl Tryz.underlying34 info9 rfl (by decide) (by omega) u3 (L.take 3) t3 [.string t3] (fun _ => True) (fun _ => False) rfl rfl rfl (fun _ hk => hk.elim) (fun _ _ => trivial) HO.out HB2.out HB2.out.size (by rw [List.length_take]; omega) ?_; intro v9 w4 ho hb hg hat; clear hg hat))
      go_roundw
      case rel => exact ⟨4, v9, rfl, by go_num, by omega, ⟨by rw [HL.out] at ho ⊢; exact ho⟩, ⟨hb⟩⟩
      case measure => simp [intOf]
    · rw [show L.take 4 = L by rw [HL.out]; rfl] at HO
      have hlen : L.length = 4 := by rw [HL.out]; rfl
      obtain ⟨g, cap, rfl, hg1, hg2, _⟩ := Kd.R_form HO.out (by omega)
      have hR := Kd.R_reads' HO.out
      have hJN := Lib.hid (Tryz.strings_Join g 0 cap L ⟨#[32]⟩ wr (fun j x hx => by
        have hj : j < L.length := (List.getElem?_eq_some_iff.1 hx).1
        have h := (Kd.R_cell ByteArray.empty HO.out (j : Int) (by omega) (by omega)).1
        rw [Int.toNat_natCast] at h
        rw [Nat.zero_add, h]
        unfold rdOf
        rw [Int.toNat_natCast, List.getD_eq_getElem?_getD, hx]
        rfl) hg2 (by omega) hR.2.1 (by
        rw [HL.out]
        have h := congrArg ByteArray.size HJ.out
        have hz := HZ.out
        have zsp : (⟨#[32]⟩ : ByteArray).size = 1 := rfl
        simp only [ByteArray.size_append, zsp] at h
        have h2 : (Lib.join ([t0, t1, t2, t3].map (·.data.toList)) (⟨#[32]⟩ : ByteArray).data.toList).length = t0.size + 1 + t1.size + 1 + t2.size + 1 + t3.size := by rw [← h]; rfl
        rw [h2]
        omega))
      rw [hlen] at hJN
      have HJ2 := Lib.hid (show (⟨(Lib.join (L.map (·.data.toList)) (⟨#[32]⟩ : ByteArray).data.toList).toArray⟩ : ByteArray) = t0 ++ ⟨#[32]⟩ ++ t1 ++ ⟨#[32]⟩ ++ t2 ++ ⟨#[32]⟩ ++ t3 by rw [HL.out]; exact HJ.out)
      rw [hlen]
      clear hR
      go_wp2_with (go_at_call 56; refine hJN.out.mono ?_; rintro e w2 ⟨rfl, hb⟩)
      go_ret
      exact ⟨congrArg (fun x => Ending.returned (.string x)) HJ2.out, below_tr HB.out (below_tr HB2.out hb)⟩
end Go.Proofs.YtafigkikblpbnaaGreatDoor.PG
namespace Go.Proofs.YtafigkikblpbnaaGreatDoor.PG
set_option maxRecDepth 100000
open Go.RowKit Go.Proofs.YtafigkikblpbnaaGreatDoorW.PrintWords Go.Proofs.YtafigkikblpbnaaGreatDoorW.PrintLast Go.Proofs.YtafigkikblpbnaaGreatDoorW.PrintMore

set_option maxHeartbeats 400000 in
theorem at1r_any (nm name m : ByteArray) (o d t : Int) (ks : Value) (p : Addr) (w : World) (hc : w.cell? p = some (.string name)) :
    Calls Tryz.prog 110 #[.agg #[.string nm, .int .i64 o, .int .i64 d, .string m, ks, .int .i64 t], .pointer (some p)] w fun e w' => e = .returned (.bool (nm.toList == name.toList)) ∧ Below w.heap.size w w' := by
  have hlt := World.block_lt_of_cell? w p hc
  have hne : p.block ≠ w.heap.size := by omega
  have hc2 : ∀ o, (w.alloc o).cell? p = some (.string name) := fun o => (Below.cell (below_alloc (Below.refl _ _) o) hlt).trans hc
  go_enter Tryz.func110, Tryz.ntmps110
  go_wp2
  go_ret
  exact ⟨rfl, below_alloc (Below.refl _ _) _⟩

theorem drop_rd49 {l : List S96} {i : Nat} (h : i < l.length) : l.drop i = rd_T96 l (i : Int) :: l.drop (i + 1) := by
  rw [List.drop_eq_getElem_cons h]
  simp [rd_T96, List.getElem?_eq_getElem h, List.getD_eq_getElem?_getD]
def isN (name : ByteArray) (x : S96) : Bool := x.f0.toList == name.toList

set_option maxHeartbeats 400000 in
theorem idxr_any (name : ByteArray) (A : Option Addr) (c : Nat) (l : List S96) (p : Addr) (w : World) (hr : Kd.C k96 w A l.length l) (hp : w.cell? p = some (.string name)) :
    Calls Tryz.prog 109 #[.slice A l.length c, .func (Fn.func 110) #[] #[.pointer (some p)]] w fun e w' => e = .returned (.int .i64 (ix (isN name) l 0)) ∧ Below w.heap.size w w' := by
  have hm : l.length ≤ 9223372036854775807 := hr.2.1
  go_enter Tryz.func109, Tryz.ntmps109
  go_wp2
  go_loopw [8] (fun v8 wr => ∃ k : Nat, k ≤ l.length ∧ v8 = .int .i64 k ∧ Aside0 (Below w.heap.size w wr) ∧ Aside0 (ix (isN name) l 0 = ix (isN name) (l.drop k) k)) (fun v8 _ => l.length - (intOf v8).toNat)
  case atStart => exact ⟨0, Nat.zero_le _, rfl, ⟨Below.refl _ _⟩, ⟨by rw [List.drop_zero]⟩⟩
  case round =>
    obtain ⟨k, hk, rfl, HB, HI⟩ := hrel
    by_cases hlt : k < l.length
    · obtain ⟨ad, A4, c4, e, h0, h1, h2, h3, h4, h5, _, _⟩ := at_T96 (Kd.C_below hr HB.out) (k : Int) (by omega) (by omega)
      subst e
      simp only [Int.toNat_natCast] at h0 h1 h2 h3 h4 h5
      have hd := drop_rd49 hlt
      have HI2 := Lib.hid (show ix (isN name) l 0 = if ((rd_T96 l (k : Int)).f0.toList == name.toList) = true then (k : Int) else ix (isN name) (l.drop (k + 1)) (k + 1) by rw [HI.out, hd]; rfl)
      clear hd
      generalize rd_T96 l (k : Int) = x at *
      by_cases ht : (x.f0.toList == name.toList) = true
      · have HT := Lib.hid ht
        go_wp2_with (go_at_call 110; refine (at1r_any x.f0 name _ _ _ _ _ p _ (below_cell HB.out hp)).mono ?_; rintro e w2 ⟨rfl, hb⟩; clear h0 h1 h2 h3 h4 h5)
        go_ret
        exact ⟨ret_i (by rw [HI2.out, if_pos HT.out]), below_tr HB.out hb⟩
      · have HT := Lib.hid ht
        have hf : (x.f0.toList == name.toList) = false := Bool.eq_false_iff.mpr ht
        clear ht
        go_wp2_with (go_at_call 110; refine (at1r_any x.f0 name _ _ _ _ _ p _ (below_cell HB.out hp)).mono ?_; rintro e w2 ⟨rfl, hb⟩; clear h0 h1 h2 h3 h4 h5)
        go_roundw
        case rel => exact ⟨k + 1, by omega, by go_num, ⟨below_tr HB.out hb⟩, ⟨by rw [HI2.out, if_neg HT.out]⟩⟩
        case measure => simp [intOf]; omega
    · have hk2 : k = l.length := by omega
      have HK := Lib.hid hk2
      clear hk2
      go_wp2
      go_ret
      exact ⟨ret_i (by rw [HI.out, HK.out, List.drop_of_length_le (Nat.le_refl _)]; rfl), HB.out⟩

set_option maxHeartbeats 8000000 in
set_option maxRecDepth 100000 in
theorem find_any (P0_ : Nat → Prop) (A0 : Option Addr) (c0 : Nat) (l0 : List S96) (a1 : ByteArray) (w : World) (hs0 : Kd.V k96 96 w w.heap.size (fun k_ => P0_ k_) (.slice A0 l0.length c0) l0) (x : S96) (b : Bool) (hx : (if 0 ≤ ix (isN a1) l0 0 then (rd_T96 l0 (ix (isN a1) l0 0), true) else if 0 ≤ ix (isN ⟨#[]⟩) l0 0 then (rd_T96 l0 (ix (isN ⟨#[]⟩) l0 0), true) else (z96, false)) = (x, b)) :
    Calls Tryz.prog 78 #[.slice A0 l0.length c0, .string a1] w fun e w' => ∃ v4_ : Value, e = .returned (.tuple #[.agg #[.string x.f0, .int .i64 x.f1.f0, .int .i64 x.f1.f1, .string x.f1.f2, v4_, .int .i64 x.f2], .bool b]) ∧ Kd.V k94 94 w' w.heap.size (fun k_ => (P0_ k_ ∨ w.heap.size ≤ k_)) v4_ x.f1.f3 ∧ Below w.heap.size w w' := by
  have hu49 := Tryz.underlying96
  have HX := Lib.hid hx
  clear hx
  have HO0 := Aside0.mk (show Kd.V k96 96 w w.heap.size (fun k_ => (P0_ k_ ∨ w.heap.size ≤ k_)) (.slice A0 l0.length c0) l0 from Kd.V_mono hs0 (fun k_ hk => .inl hk))
  go_enter Tryz.func78, Tryz.ntmps78
  go_wp2_with (first | ((with_reducible refine gate_dst (N := 4) rfl ?_); refine box_event ?hg (N := 4) ?hd (cs := #[.string (⟨#[]⟩ : ByteArray), .int .i64 0, .int .i64 0, .string (⟨#[]⟩ : ByteArray), .slice none 0 0, .int .i64 0]) (t := 96) ?hr ?_; (case hd => rfl); (case hg => rfl); (case hr => first | (go_simp; done) | (go_simp; rfl)); intro gb4 hggb4 wgb4 hbox hbgb4; have HVb := Lib.hid (Kd.V_below (Kd.V_elderB HO0.out gb4 (Nat.le_of_eq hggb4.symm)) hbgb4); have Hg4 := Lib.hid (show w.heap.size ≤ gb4 by omega); clear hggb4))
  have HV0 := Kd.V_alloc HVb.out (.cells #[.string a1, .string (⟨#[]⟩ : ByteArray)] 9)
  have hB0 := below_alloc hbgb4 (.cells #[.string a1, .string (⟨#[]⟩ : ByteArray)] 9)
  have hL0 : (wgb4.alloc (.cells #[.string a1, .string (⟨#[]⟩ : ByteArray)] 9)).cell? ⟨wgb4.heap.size, 0, none⟩ = some (.string a1) := by simp
  have hL1 : (wgb4.alloc (.cells #[.string a1, .string (⟨#[]⟩ : ByteArray)] 9)).cell? ⟨wgb4.heap.size, 1, none⟩ = some (.string (⟨#[]⟩ : ByteArray)) := by simp
  have hG : (wgb4.alloc (.cells #[.string a1, .string (⟨#[]⟩ : ByteArray)] 9)).heap[gb4]? = wgb4.heap[gb4]? := by
    rw [hbox]; exact blk_alloc hbox _
  rw [hbox] at hG
  generalize hwL : wgb4.alloc (.cells #[.string a1, .string (⟨#[]⟩ : ByteArray)] 9) = wL at *
  have hbL : wgb4.heap.size < wL.heap.size := World.block_lt_of_cell? wL _ hL0
  have h4L : gb4 < wL.heap.size := (Array.getElem?_eq_some_iff.1 hG).1
  have hsL : w.heap.size ≤ wL.heap.size := hB0.size
  have hg4 : w.heap.size ≤ gb4 := Hg4.out
  have hCL := (Kd.V_reads' HV0).2.2
  generalize wgb4.heap.size = bl at *
  clear hwL hbox hbgb4
  go_loopw [12] (fun v12 wr => ∃ k : Nat, k ≤ 2 ∧ v12 = .int .i64 k ∧ Aside0 (Below wL.heap.size wL wr) ∧ Aside0 (1 ≤ k → ¬ 0 ≤ ix (isN a1) l0 0) ∧ Aside0 (2 ≤ k → ¬ 0 ≤ ix (isN ⟨#[]⟩) l0 0)) (fun v12 _ => 2 - (intOf v12).toNat)
  case atStart => exact ⟨0, by omega, rfl, ⟨Below.refl _ _⟩, ⟨fun h => by omega⟩, ⟨fun h => by omega⟩⟩
  case round =>
    obtain ⟨k, hk, rfl, HB, HI1, HI2⟩ := hrel
    have hL0' := below_cell HB.out hL0
    have hL1' := below_cell HB.out hL1
    have hk3 : k = 0 ∨ k = 1 ∨ k = 2 := by omega
    rcases hk3 with rfl | rfl | rfl
    · have hi := ix_range (isN a1) l0 0
      have hcall := Lib.hid (idxr_any a1 A0 c0 l0 ⟨wr.heap.size, 0, none⟩ (wr.alloc (.cells #[.string a1] 9)) (Kd.C_below hCL (below_alloc HB.out _)) (by simp))
      generalize hiv : ix (isN a1) l0 0 = iv at hi hcall
      have HIV := Lib.hid hiv
      clear hiv
      by_cases h0 : 0 ≤ iv
      · have hge := Lib.hid (show 0 ≤ ix (isN a1) l0 0 by rw [HIV.out]; exact h0)
        have hilt : iv < l0.length := by omega
        have hb0 : decide (iv ≥ 0) = true := decide_eq_true h0
        have hxb := (by have hh := HX.out; rw [if_pos hge.out] at hh; exact hh)
        rw [HIV.out] at hxb
        obtain ⟨hx1, hx2⟩ := Prod.mk.inj hxb
        subst hx2
        clear hxb hi
        obtain ⟨ad, A4, c4, e, g0, g1, g2, g3, g4, g5, gl, _⟩ := at_T96 hCL iv (by omega) (by omega)
        subst e
        obtain ⟨ce, hce, hMe, hcc⟩ := Kd.V_get HV0 z96 iv (by omega) (by omega)
        obtain ⟨ua4, uc4, rfl, ul4, ge4⟩ := k96_openF hMe
        have hv4 := hcc 4 _ rfl
        rw [add_field _ _ 4 (by omega)] at hv4
        replace hv4 := Option.some.inj (hv4.symm.trans g4)
        injection hv4 with hva_ hvn_ hvc_
        rw [hva_] at ge4
        rw [hvc_] at ul4
        have HL := show Kd.V k94 94 wL w.heap.size _ _ ((rd_T96 l0 iv).f1.f3) from Kd.V_mk ul4 ge4
        clear hcc hce hva_ hvn_ hvc_ ge4 ul4
        rw [hx1] at g0 g1 g2 g3 g4 g5 HL
        clear hx1
        have HL := Lib.hid HL
        go_wp2_with (go_at_call 109; refine hcall.out.mono ?_; rintro e w2 ⟨rfl, hb⟩; have HB2 := Lib.hid (below_tr (below_alloc HB.out _) hb); have G4 := blk_below hG HB2.out; have g0 := below_cell HB2.out g0; have g1 := below_cell HB2.out g1; have g2 := below_cell HB2.out g2; have g3 := below_cell HB2.out g3; have g4 := below_cell HB2.out g4; have g5 := below_cell HB2.out g5; have q0 := (blk_cell G4 0).trans rfl; have q1 := (blk_cell G4 1).trans rfl; have q2 := (blk_cell G4 2).trans rfl; have q3 := (blk_cell G4 3).trans rfl; have q4 := (blk_cell G4 4).trans rfl; have q5 := (blk_cell G4 5).trans rfl; have z0 := blk_frozen G4 0; have z1 := blk_frozen G4 1; have z2 := blk_frozen G4 2; have z3 := blk_frozen G4 3; have z4 := blk_frozen G4 4; have z5 := blk_frozen G4 5)
        have HBw : Below w.heap.size w w2 := below_then hB0 hsL HB2.out
        refine bodyPost_ret (results_ct rfl _ _ gb4 96 #[.string x.f0, .int .i64 x.f1.f0, .int .i64 x.f1.f1, .string x.f1.f2, .slice A4 x.f1.f3.length c4, .int .i64 x.f2] (0, 0) _ rfl (by refine blk_put (cs := #[.string x.f0, .int .i64 x.f1.f0, .int .i64 x.f1.f1, .string x.f1.f2, .slice A4 x.f1.f3.length c4, .int .i64 0]) ?_ 5 _ rfl; refine blk_put (cs := #[.string x.f0, .int .i64 x.f1.f0, .int .i64 x.f1.f1, .string x.f1.f2, .slice none 0 0, .int .i64 0]) ?_ 4 _ rfl; refine blk_put (cs := #[.string x.f0, .int .i64 x.f1.f0, .int .i64 x.f1.f1, .string (⟨#[]⟩ : ByteArray), .slice none 0 0, .int .i64 0]) ?_ 3 _ rfl; refine blk_put (cs := #[.string x.f0, .int .i64 x.f1.f0, .int .i64 0, .string (⟨#[]⟩ : ByteArray), .slice none 0 0, .int .i64 0]) ?_ 2 _ rfl; refine blk_put (cs := #[.string x.f0, .int .i64 0, .int .i64 0, .string (⟨#[]⟩ : ByteArray), .slice none 0 0, .int .i64 0]) ?_ 1 _ rfl; refine blk_put (cs := #[.string (⟨#[]⟩ : ByteArray), .int .i64 0, .int .i64 0, .string (⟨#[]⟩ : ByteArray), .slice none 0 0, .int .i64 0]) ?_ 0 _ rfl; exact G4) Tryz.underlying96 rfl (by kernel_rfl)) rfl ?_
        exact ⟨_, rfl, Kd.V_mono (Kd.V_far (p := ⟨gb4, 5, none⟩) (Kd.V_far (p := ⟨gb4, 4, none⟩) (Kd.V_far (p := ⟨gb4, 3, none⟩) (Kd.V_far (p := ⟨gb4, 2, none⟩) (Kd.V_far (p := ⟨gb4, 1, none⟩) (Kd.V_far (p := ⟨gb4, 0, none⟩) (Kd.V_mono (Kd.V_below HL.out HB2.out) (fun k_ hk => (⟨hk, hk.2⟩ : _ ∧ k_ ≠ gb4))) (fun _ hk => hk.2) (.string x.f0)) (fun _ hk => hk.2) (.int .i64 x.f1.f0)) (fun _ hk => hk.2) (.int .i64 x.f1.f1)) (fun _ hk => hk.2) (.string x.f1.f2)) (fun _ hk => hk.2) (.slice A4 x.f1.f3.length c4)) (fun _ hk => hk.2) (.int .i64 x.f2)) (fun _ hk => hk.1.1), by (with_reducible refine below_set (below_set (below_set (below_set (below_set (below_set HBw hg4) hg4) hg4) hg4) hg4) hg4)⟩
      · have hlt := Lib.hid (show ¬ 0 ≤ ix (isN a1) l0 0 by rw [HIV.out]; exact h0)
        have hb0 : decide (iv ≥ 0) = false := decide_eq_false h0
        clear h0 hi
        go_wp2_with (go_at_call 109; refine hcall.out.mono ?_; rintro e w2 ⟨rfl, hb⟩; have HB2 := Lib.hid (below_tr (below_alloc HB.out _) hb))
        go_roundw
        case rel => exact ⟨1, by omega, by go_num, ⟨HB2.out⟩, ⟨by intro _; have h1 := hlt.out; have h2 := HIV.out; omega⟩, ⟨fun h => by omega⟩⟩
        case measure => simp [intOf]
    · have hi := ix_range (isN ⟨#[]⟩) l0 0
      have hcall := Lib.hid (idxr_any ⟨#[]⟩ A0 c0 l0 ⟨wr.heap.size, 0, none⟩ (wr.alloc (.cells #[.string ⟨#[]⟩] 9)) (Kd.C_below hCL (below_alloc HB.out _)) (by simp))
      generalize hiv : ix (isN ⟨#[]⟩) l0 0 = iv at hi hcall
      have HIV := Lib.hid hiv
      clear hiv
      by_cases h0 : 0 ≤ iv
      · have hge := Lib.hid (show 0 ≤ ix (isN ⟨#[]⟩) l0 0 by rw [HIV.out]; exact h0)
        have hilt : iv < l0.length := by omega
        have hb0 : decide (iv ≥ 0) = true := decide_eq_true h0
        have hxb := (by have hh := HX.out; rw [if_neg (HI1.out (by omega)), if_pos hge.out] at hh; exact hh)
        rw [HIV.out] at hxb
        obtain ⟨hx1, hx2⟩ := Prod.mk.inj hxb
        subst hx2
        clear hxb hi
        obtain ⟨ad, A4, c4, e, g0, g1, g2, g3, g4, g5, gl, _⟩ := at_T96 hCL iv (by omega) (by omega)
        subst e
        obtain ⟨ce, hce, hMe, hcc⟩ := Kd.V_get HV0 z96 iv (by omega) (by omega)
        obtain ⟨ua4, uc4, rfl, ul4, ge4⟩ := k96_openF hMe
        have hv4 := hcc 4 _ rfl
        rw [add_field _ _ 4 (by omega)] at hv4
        replace hv4 := Option.some.inj (hv4.symm.trans g4)
        injection hv4 with hva_ hvn_ hvc_
        rw [hva_] at ge4
        rw [hvc_] at ul4
        have HL := show Kd.V k94 94 wL w.heap.size _ _ ((rd_T96 l0 iv).f1.f3) from Kd.V_mk ul4 ge4
        clear hcc hce hva_ hvn_ hvc_ ge4 ul4
        rw [hx1] at g0 g1 g2 g3 g4 g5 HL
        clear hx1
        have HL := Lib.hid HL
        go_wp2_with (go_at_call 109; refine hcall.out.mono ?_; rintro e w2 ⟨rfl, hb⟩; have HB2 := Lib.hid (below_tr (below_alloc HB.out _) hb); have G4 := blk_below hG HB2.out; have g0 := below_cell HB2.out g0; have g1 := below_cell HB2.out g1; have g2 := below_cell HB2.out g2; have g3 := below_cell HB2.out g3; have g4 := below_cell HB2.out g4; have g5 := below_cell HB2.out g5; have q0 := (blk_cell G4 0).trans rfl; have q1 := (blk_cell G4 1).trans rfl; have q2 := (blk_cell G4 2).trans rfl; have q3 := (blk_cell G4 3).trans rfl; have q4 := (blk_cell G4 4).trans rfl; have q5 := (blk_cell G4 5).trans rfl; have z0 := blk_frozen G4 0; have z1 := blk_frozen G4 1; have z2 := blk_frozen G4 2; have z3 := blk_frozen G4 3; have z4 := blk_frozen G4 4; have z5 := blk_frozen G4 5)
        have HBw : Below w.heap.size w w2 := below_then hB0 hsL HB2.out
        refine bodyPost_ret (results_ct rfl _ _ gb4 96 #[.string x.f0, .int .i64 x.f1.f0, .int .i64 x.f1.f1, .string x.f1.f2, .slice A4 x.f1.f3.length c4, .int .i64 x.f2] (0, 0) _ rfl (by refine blk_put (cs := #[.string x.f0, .int .i64 x.f1.f0, .int .i64 x.f1.f1, .string x.f1.f2, .slice A4 x.f1.f3.length c4, .int .i64 0]) ?_ 5 _ rfl; refine blk_put (cs := #[.string x.f0, .int .i64 x.f1.f0, .int .i64 x.f1.f1, .string x.f1.f2, .slice none 0 0, .int .i64 0]) ?_ 4 _ rfl; refine blk_put (cs := #[.string x.f0, .int .i64 x.f1.f0, .int .i64 x.f1.f1, .string (⟨#[]⟩ : ByteArray), .slice none 0 0, .int .i64 0]) ?_ 3 _ rfl; refine blk_put (cs := #[.string x.f0, .int .i64 x.f1.f0, .int .i64 0, .string (⟨#[]⟩ : ByteArray), .slice none 0 0, .int .i64 0]) ?_ 2 _ rfl; refine blk_put (cs := #[.string x.f0, .int .i64 0, .int .i64 0, .string (⟨#[]⟩ : ByteArray), .slice none 0 0, .int .i64 0]) ?_ 1 _ rfl; refine blk_put (cs := #[.string (⟨#[]⟩ : ByteArray), .int .i64 0, .int .i64 0, .string (⟨#[]⟩ : ByteArray), .slice none 0 0, .int .i64 0]) ?_ 0 _ rfl; exact G4) Tryz.underlying96 rfl (by kernel_rfl)) rfl ?_
        exact ⟨_, rfl, Kd.V_mono (Kd.V_far (p := ⟨gb4, 5, none⟩) (Kd.V_far (p := ⟨gb4, 4, none⟩) (Kd.V_far (p := ⟨gb4, 3, none⟩) (Kd.V_far (p := ⟨gb4, 2, none⟩) (Kd.V_far (p := ⟨gb4, 1, none⟩) (Kd.V_far (p := ⟨gb4, 0, none⟩) (Kd.V_mono (Kd.V_below HL.out HB2.out) (fun k_ hk => (⟨hk, hk.2⟩ : _ ∧ k_ ≠ gb4))) (fun _ hk => hk.2) (.string x.f0)) (fun _ hk => hk.2) (.int .i64 x.f1.f0)) (fun _ hk => hk.2) (.int .i64 x.f1.f1)) (fun _ hk => hk.2) (.string x.f1.f2)) (fun _ hk => hk.2) (.slice A4 x.f1.f3.length c4)) (fun _ hk => hk.2) (.int .i64 x.f2)) (fun _ hk => hk.1.1), by (with_reducible refine below_set (below_set (below_set (below_set (below_set (below_set HBw hg4) hg4) hg4) hg4) hg4) hg4)⟩
      · have hlt := Lib.hid (show ¬ 0 ≤ ix (isN ⟨#[]⟩) l0 0 by rw [HIV.out]; exact h0)
        have hb0 : decide (iv ≥ 0) = false := decide_eq_false h0
        clear h0 hi
        go_wp2_with (go_at_call 109; refine hcall.out.mono ?_; rintro e w2 ⟨rfl, hb⟩; have HB2 := Lib.hid (below_tr (below_alloc HB.out _) hb))
        go_roundw
        case rel => exact ⟨2, by omega, by go_num, ⟨HB2.out⟩, ⟨by intro _; have h1 := HI1.out (by omega); omega⟩, ⟨by intro _; have h1 := hlt.out; have h2 := HIV.out; omega⟩⟩
        case measure => simp [intOf]
    · have hxb := (by have hh := HX.out; rw [if_neg (HI1.out (by omega)), if_neg (HI2.out (by omega))] at hh; exact hh : (z96, false) = (x, b))
      obtain ⟨hx1, hx2⟩ := Prod.mk.inj hxb
      subst hx1 hx2
      have G4 := blk_below hG HB.out
      have q0 := (blk_cell G4 0).trans rfl; have q1 := (blk_cell G4 1).trans rfl; have q2 := (blk_cell G4 2).trans rfl; have q3 := (blk_cell G4 3).trans rfl; have q4 := (blk_cell G4 4).trans rfl; have q5 := (blk_cell G4 5).trans rfl; have z0 := blk_frozen G4 0; have z1 := blk_frozen G4 1; have z2 := blk_frozen G4 2; have z3 := blk_frozen G4 3; have z4 := blk_frozen G4 4; have z5 := blk_frozen G4 5
      go_wp2
      have HBw : Below w.heap.size w wr := below_then hB0 hsL HB.out
      refine bodyPost_ret (results_ct rfl _ _ gb4 96 #[.string (⟨#[]⟩ : ByteArray), .int .i64 0, .int .i64 0, .string (⟨#[]⟩ : ByteArray), .slice none 0 0, .int .i64 0] (0, 0) _ rfl (by refine blk_put (cs := #[.string (⟨#[]⟩ : ByteArray), .int .i64 0, .int .i64 0, .string (⟨#[]⟩ : ByteArray), .slice none 0 0, .int .i64 0]) ?_ 5 _ rfl; refine blk_put (cs := #[.string (⟨#[]⟩ : ByteArray), .int .i64 0, .int .i64 0, .string (⟨#[]⟩ : ByteArray), .slice none 0 0, .int .i64 0]) ?_ 4 _ rfl; refine blk_put (cs := #[.string (⟨#[]⟩ : ByteArray), .int .i64 0, .int .i64 0, .string (⟨#[]⟩ : ByteArray), .slice none 0 0, .int .i64 0]) ?_ 3 _ rfl; refine blk_put (cs := #[.string (⟨#[]⟩ : ByteArray), .int .i64 0, .int .i64 0, .string (⟨#[]⟩ : ByteArray), .slice none 0 0, .int .i64 0]) ?_ 2 _ rfl; refine blk_put (cs := #[.string (⟨#[]⟩ : ByteArray), .int .i64 0, .int .i64 0, .string (⟨#[]⟩ : ByteArray), .slice none 0 0, .int .i64 0]) ?_ 1 _ rfl; refine blk_put (cs := #[.string (⟨#[]⟩ : ByteArray), .int .i64 0, .int .i64 0, .string (⟨#[]⟩ : ByteArray), .slice none 0 0, .int .i64 0]) ?_ 0 _ rfl; exact G4) Tryz.underlying96 rfl (by kernel_rfl)) rfl ?_
      exact ⟨_, rfl, Kd.V_nil _ _ _ _ _, by (with_reducible refine below_set (below_set (below_set (below_set (below_set (below_set HBw hg4) hg4) hg4) hg4) hg4) hg4)⟩

def find2 (l0 : List S96) (a1 : ByteArray) : S96 × Bool := if 0 ≤ ix (isN a1) l0 0 then (rd_T96 l0 (ix (isN a1) l0 0), true) else if 0 ≤ ix (isN ⟨#[]⟩) l0 0 then (rd_T96 l0 (ix (isN ⟨#[]⟩) l0 0), true) else (z96, false)
def rule_Find.f (l0 : List S96) (a1 : ByteArray) : Option (ByteArray × Int × Int × ByteArray × (List (S94)) × Int × Bool) :=
  some ((find2 l0 a1).1.f0, (find2 l0 a1).1.f1.f0, (find2 l0 a1).1.f1.f1, (find2 l0 a1).1.f1.f2, (find2 l0 a1).1.f1.f3, (find2 l0 a1).1.f2, (find2 l0 a1).2)
theorem rule_Find.calls (P0_ : Nat → Prop) (A0 : Option Addr) (c0 : Nat) (l0 : List (S96)) (a1 : ByteArray) (r1 : ByteArray) (r2 : Int) (r3 : Int) (r4 : ByteArray) (r5 : List (S94)) (r6 : Int) (r7 : Bool) (w : World) (hs0 : Kd.V k96 96 w w.heap.size (fun k_ => P0_ k_) (.slice A0 l0.length c0) l0) (h : rule_Find.f l0 a1 = some (r1, r2, r3, r4, r5, r6, r7)) :
    Calls Tryz.prog 78 #[.slice A0 l0.length c0, .string a1] w fun e w' => ∃ v4_ : Value, e = .returned (.tuple #[.agg #[.string r1, .int .i64 r2, .int .i64 r3, .string r4, v4_, .int .i64 r6], .bool r7]) ∧ Kd.V k94 94 w' w.heap.size (fun k_ => (P0_ k_ ∨ w.heap.size ≤ k_)) v4_ r5 ∧ Below w.heap.size w w' := by
  unfold rule_Find.f at h
  simp only [Option.some.injEq, Prod.mk.injEq] at h
  obtain ⟨rfl, rfl, rfl, rfl, rfl, rfl, rfl⟩ := h
  exact find_any P0_ A0 c0 l0 a1 w hs0 _ _ rfl
end Go.Proofs.YtafigkikblpbnaaGreatDoor.PG
namespace Go.Proofs.YtafigkikblpbnaaGreatDoor.PG
open Go.RowKit Go.Proofs.YtafigkikblpbnaaGreatDoorW.PrintWords Go.Proofs.YtafigkikblpbnaaGreatDoorW.PrintLast Go.Proofs.YtafigkikblpbnaaGreatDoorW.PrintMore
set_option linter.unusedVariables false
set_option linter.unusedSimpArgs false
set_option maxRecDepth 100000
def aft (a b : Int) : Int × Bool := if a < 0 then (0, false) else if a > 1099511627776 then (0, false) else if b < 0 then (0, false) else if b > 1048576 then (0, false) else if a + b > 1099511627776 then (0, false) else (a + b, true)
def fnd (nm : ByteArray) : List S126 → Option Int
  | [] => none
  | x :: xs => if x.f0.toList = nm.toList then some x.f1 else fnd nm xs
def fndB (nm : ByteArray) (l : List S126) : Int × Bool := match fnd nm l with | none => (0, false) | some t => (t, true)
/-! least and greatest -/
def mnl : List Int → Int
  | [] => 0
  | x :: xs => xs.foldl mn x
def mxl : List Int → Int
  | [] => 0
  | x :: xs => xs.foldl mx x
/-! what a condition says -/
def knw (l : List (Int × Bool)) : List Int := (l.filter (·.2)).map (·.1)
def comb (op : Int) (l : List (Int × Bool)) : Int × Bool :=
  if knw l = [] then (0, false) else if op = 2 then (mnl (knw l), true) else if op = 3 then (if (knw l).length = l.length then (mxl (knw l), true) else (0, false)) else (0, false)
mutual
def wh (m : List S126) : S94 → Int × Bool
  | ⟨op, d, n, kids⟩ => if op = 1 then (if (fndB n m).2 = true then aft (fndB n m).1 d else (0, false)) else comb op (ks m kids)
def ks (m : List S126) : List S94 → List (Int × Bool)
  | [] => []
  | x :: xs => wh m x :: ks m xs
end
/-- A condition of so many levels at most, none with more than 60 kids. -/
def lim : Nat → S94 → Prop
  | 0, _ => False
  | d + 1, x => x.f3.length ≤ 60 ∧ ∀ y ∈ x.f3, lim d y
end Go.Proofs.YtafigkikblpbnaaGreatDoor.PG
