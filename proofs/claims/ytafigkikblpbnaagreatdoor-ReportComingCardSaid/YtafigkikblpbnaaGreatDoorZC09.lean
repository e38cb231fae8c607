/- A tally as text: four numbers, a blank between; no condition beyond each theorem its own. -/
import Derived.Test.YtafigkikblpbnaaGreatDoorZC07
import Derived.Test.YtafigkikblpbnaaGreatDoorZC03
import Derived.Test.YtafigkikblpbnaaGreatDoorZC04
import Derived.Test.YtafigkikblpbnaaGreatDoorZC08
namespace Go.Proofs.YtafigkikblpbnaaGreatDoor.PG
open Go.RowKit Go.Proofs.YtafigkikblpbnaaGreatDoorW.PrintWords Go.Proofs.YtafigkikblpbnaaGreatDoorW.PrintLast Go.Proofs.YtafigkikblpbnaaGreatDoorW.PrintMore
set_option linter.unusedVariables false
set_option linter.unusedSimpArgs false
set_option maxRecDepth 100000

theorem dec_tell : (List.range 100).all (fun i => decide ((tellS i).data.toList = Lib.decDigits i)) = true := by decide +kernel
theorem tell_dec {i : Nat} (h : i < 100) : (⟨(Lib.decDigits i).toArray⟩ : ByteArray) = tellS i := by
  have h1 := List.all_eq_true.1 dec_tell i (List.mem_range.2 h)
  rw [← of_decide_eq_true h1]
theorem join4 (a b c d s : ByteArray) : (⟨(Lib.join ([a, b, c, d].map (·.data.toList)) s.data.toList).toArray⟩ : ByteArray) = a ++ s ++ b ++ s ++ c ++ s ++ d := by
  apply ByteArray.ext
  apply Array.toList_inj.1
  simp [Lib.join]
/-- strconv.Itoa of a small number: as the document tells it. -/
theorem Itoa_eq (i : Nat) (h : i < 100) (w : World) : Calls Tryz.prog 36 #[.int .i64 i] w fun e w' => e = .returned (.string (tellS i)) ∧ w' = w :=
  (Tryz.strconv_Itoa_small i h w).mono (by rintro e w' ⟨h1, h2⟩; exact ⟨by rw [h1, tell_dec h], h2⟩)
theorem value_seq {P : Program} {ops : Array Oper} {rest : List Oper} {o : Oper} {a : Act} {Q : Exit → Act → World → Prop} {w : World} {v : Value} (hg : o.guard = none) (hrun : Sem.run P (execOp a.eval o) w = .ok (.value v) w) (h : wpList P ops Q rest (a.put o.dst v) w) : wpList P ops Q (o :: rest) a w := by
  refine wpList_plain hg fun K hK => ?_
  unfold Oper.wp
  rw [hrun]
  exact hK _ _ h
theorem idx65 {ρ : Operand → Value} {o : Oper} {x y : Operand} {v0 v1 v2 v3 : Value} {w : World} (k : Nat) (hk : k < 4) (ho : o.op = .index 65 x y) (hx : ρ x = .agg #[v0, v1, v2, v3]) (hy : ρ y = .int .i64 k) :
    Sem.run Tryz.prog (execOp ρ o) w = .ok (.value (#[v0, v1, v2, v3][k]'hk)) w := by
  unfold execOp
  rw [ho]
  simp only [hx, hy]
  obtain rfl | rfl | rfl | rfl : k = 0 ∨ k = 1 ∨ k = 2 ∨ k = 3 := by omega
  · go_simp
    kernel_rfl
  · go_simp
    kernel_rfl
  · go_simp
    kernel_rfl
  · go_simp
    kernel_rfl

set_option maxHeartbeats 2000000 in
theorem text_eq (a1 a2 a3 a4 : Nat) (h1 : a1 < 100) (h2 : a2 < 100) (h3 : a3 < 100) (h4 : a4 < 100) (W : World) :
    Calls Tryz.prog 30 #[.agg #[.int .i64 (a1 : Nat), .int .i64 (a2 : Nat), .int .i64 (a3 : Nat), .int .i64 (a4 : Nat)]] W fun e w' => e = .returned (.string (tellS a1 ++ ⟨#[32]⟩ ++ tellS a2 ++ ⟨#[32]⟩ ++ tellS a3 ++ ⟨#[32]⟩ ++ tellS a4)) ∧ Below W.heap.size W w' := by
  have HB := Lib.hid (show Below W.heap.size W (W.alloc (.cells #[.int .i64 a1, .int .i64 a2, .int .i64 a3, .int .i64 a4] 65 (0, 0))) from below_alloc (Below.refl _ _) _)
  have HI1 := fun w => Itoa_eq a1 h1 w
  have HI2 := fun w => Itoa_eq a2 h2 w
  have HI3 := fun w => Itoa_eq a3 h3 w
  have HI4 := fun w => Itoa_eq a4 h4 w
  have z1 := tellS_size a1
  have z2 := tellS_size a2
  have z3 := tellS_size a3
  have z4 := tellS_size a4
  generalize tellS a1 = t0 at *
  generalize tellS a2 = t1 at *
  generalize tellS a3 = t2 at *
  generalize tellS a4 = t3 at *
  have HJ := Lib.hid (join4 t0 t1 t2 t3 ⟨#[32]⟩)
  have HZ := Lib.hid (And.intro z1 (And.intro z2 (And.intro z3 z4)))
  have HI1 := Lib.hid HI1
  have HI2 := Lib.hid HI2
  have HI3 := Lib.hid HI3
  have HI4 := Lib.hid HI4
  clear z1 z2 z3 z4 h1 h2 h3 h4
  have HC := Lib.hid (new_blk W (.cells #[.int .i64 a1, .int .i64 a2, .int .i64 a3, .int .i64 a4] 65 (0, 0)))
  have q0 : (W.alloc (.cells #[.int .i64 a1, .int .i64 a2, .int .i64 a3, .int .i64 a4] 65 (0, 0))).cell? ⟨W.heap.size, 0, none⟩ = some (.int .i64 a1) := (blk_cell HC.out 0).trans rfl
  have q1 : (W.alloc (.cells #[.int .i64 a1, .int .i64 a2, .int .i64 a3, .int .i64 a4] 65 (0, 0))).cell? ⟨W.heap.size, 1, none⟩ = some (.int .i64 a2) := (blk_cell HC.out 1).trans rfl
  have q2 : (W.alloc (.cells #[.int .i64 a1, .int .i64 a2, .int .i64 a3, .int .i64 a4] 65 (0, 0))).cell? ⟨W.heap.size, 2, none⟩ = some (.int .i64 a3) := (blk_cell HC.out 2).trans rfl
  have q3 : (W.alloc (.cells #[.int .i64 a1, .int .i64 a2, .int .i64 a3, .int .i64 a4] 65 (0, 0))).cell? ⟨W.heap.size, 3, none⟩ = some (.int .i64 a4) := (blk_cell HC.out 3).trans rfl
  go_enter Tryz.func30, Tryz.ntmps30
  go_wp2
  clear q0 q1 q2 q3
  generalize W.alloc (.cells #[.int .i64 a1, .int .i64 a2, .int .i64 a3, .int .i64 a4] 65 (0, 0)) = W1 at *
  obtain ⟨L, hL⟩ : ∃ L : List ByteArray, L = [t0, t1, t2, t3] := ⟨_, rfl⟩
  have HL := Lib.hid hL
  clear hL
  go_loopw [3, 7] (fun v3 v7 wr => ∃ (k : Nat) (u : Value), v3 = u ∧ v7 = .int .i64 k ∧ k ≤ 4 ∧ Aside0 (Kd.R Kd.string 9 wr W1.heap.size (fun _ => True) u (L.take k)) ∧ Aside0 (Below W1.heap.size W1 wr)) (fun _ v7 _ => 4 - (intOf v7).toNat)
  case atStart => exact ⟨0, _, rfl, rfl, Nat.zero_le _, ⟨Kd.R_nil _ _ _ _ _⟩, ⟨Below.refl _ _⟩⟩
  case round =>
    obtain ⟨k, u, rfl, rfl, hk, HO, HB2⟩ := hrel
    obtain rfl | rfl | rfl | rfl | rfl : k = 0 ∨ k = 1 ∨ k = 2 ∨ k = 3 ∨ k = 4 := by omega
    · go_wp2_with (first | ((with_reducible refine gate_dst (N := 9) rfl ?_); refine value_seq rfl (idx65 (x := .tmp 6) (y := .tmp 7) 0 (by omega) rfl rfl rfl) ?_) | (go_at_call 36; refine (HI1.out _).mono ?_; rintro e w2 ⟨rfl, rfl⟩) | ((with_reducible refine gate_builtin (b := .append) (xs := #[.tmp 10, .tmp 13]) rfl ?_); at_builtin; refine Kd.R_append Kd.string (w0 := W1) W1.heap.size rfl (.tmp 10) (.tmp 13) 34 9 (.string ⟨#[]⟩) 16 rfl Tryz.underlying34 info9 rfl (by decide) (by omega) u3 (L.take 0) t0 [.string t0] (fun _ => True) (fun _ => False) rfl rfl rfl (fun _ hk => hk.elim) (fun _ _ => trivial) HO.out HB2.out HB2.out.size (by rw [List.length_take]; omega) ?_; intro v9 w4 ho hb hg hat; clear hg hat))
      go_roundw
      case rel => exact ⟨1, v9, rfl, by go_num, by omega, ⟨by rw [HL.out] at ho ⊢; exact ho⟩, ⟨hb⟩⟩
      case measure => simp [intOf]
    · go_wp2_with (first | ((with_reducible refine gate_dst (N := 9) rfl ?_); refine value_seq rfl (idx65 (x := .tmp 6) (y := .tmp 7) 1 (by omega) rfl rfl rfl) ?_) | (go_at_call 36; refine (HI2.out _).mono ?_; rintro e w2 ⟨rfl, rfl⟩) | ((with_reducible refine gate_builtin (b := .append) (xs := #[.tmp 10, .tmp 13]) rfl ?_); at_builtin; refine Kd.R_append Kd.string (w0 := W1) W1.heap.size rfl (.tmp 10) (.tmp 13) 34 9 (.string ⟨#[]⟩) 16 rfl Tryz.underlying34 info9 rfl (by decide) (by omega) u3 (L.take 1) t1 [.string t1] (fun _ => True) (fun _ => False) rfl rfl rfl (fun _ hk => hk.elim) (fun _ _ => trivial) HO.out HB2.out HB2.out.size (by rw [List.length_take]; omega) ?_; intro v9 w4 ho hb hg hat; clear hg hat))
      go_roundw
      case rel => exact ⟨2, v9, rfl, by go_num, by omega, ⟨by rw [HL.out] at ho ⊢; exact ho⟩, ⟨hb⟩⟩
      case measure => simp [intOf]
    · go_wp2_with (first | ((with_reducible refine gate_dst (N := 9) rfl ?_); refine value_seq rfl (idx65 (x := .tmp 6) (y := .tmp 7) 2 (by omega) rfl rfl rfl) ?_) | (go_at_call 36; refine (HI3.out _).mono ?_; rintro e w2 ⟨rfl, rfl⟩) | ((with_reducible refine gate_builtin (b := .append) (xs := #[.tmp 10, .tmp 13]) rfl ?_); at_builtin; refine Kd.R_append Kd.string (w0 := W1) W1.heap.size rfl (.tmp 10) (.tmp 13) 34 9 (.string ⟨#[]⟩) 16 rfl Tryz.underlying34 info9 rfl (by decide) (by omega) u3 (L.take 2) t2 [.string t2] (fun _ => True) (fun _ => False) rfl rfl rfl (fun _ hk => hk.elim) (fun _ _ => trivial) HO.out HB2.out HB2.out.size (by rw [List.length_take]; omega) ?_; intro v9 w4 ho hb hg hat; clear hg hat))
      go_roundw
      case rel => exact ⟨3, v9, rfl, by go_num, by omega, ⟨by rw [HL.out] at ho ⊢; exact ho⟩, ⟨hb⟩⟩
      case measure => simp [intOf]
    · go_wp2_with (first | ((with_reducible refine gate_dst (N := 9) rfl ?_); refine value_seq rfl (idx65 (x := .tmp 6) (y := .tmp 7) 3 (by omega) rfl rfl rfl) ?_) | (go_at_call 36; refine (HI4.out _).mono ?_; rintro e w2 ⟨rfl, rfl⟩) | ((with_reducible refine gate_builtin (b := .append) (xs := #[.tmp 10, .tmp 13]) rfl ?_); at_builtin; refine Kd.R_append Kd.string (w0 := W1) W1.heap.size rfl (.tmp 10) (.tmp 13) 34 9 (.string ⟨#[]⟩) 16 rfl Tryz.underlying34 info9 rfl (by decide) (by omega) u3 (L.take 3) t3 [.string t3] (fun _ => True) (fun _ => False) rfl rfl rfl (fun _ hk => hk.elim) (fun _ _ => trivial) HO.out HB2.out HB2.out.size (by rw [List.length_take]; omega) ?_; intro v9 w4 ho hb hg hat; clear hg hat))
      go_roundw
      case rel => exact ⟨4, v9, rfl, by go_num, by omega, ⟨by rw [HL.out] at ho ⊢; exact ho⟩, ⟨hb⟩⟩
      case measure => simp [intOf]
    · rw [show L.take 4 = L by rw [HL.out]; rfl] at HO
      have hlen : L.length = 4 := by rw [HL.out]; rfl
      obtain ⟨g, cap, rfl, hg1, hg2, _⟩ := Kd.R_form HO.out (by omega)
      have hR := Kd.R_reads' HO.out
      have hJN := Lib.hid (Tryz.strings_Join g 0 cap L ⟨#[32]⟩ wr (fun j x hx => by
        have hj : j < L.length := (List.getElem?_eq_some_iff.1 hx).1
        have h := (Kd.R_cell ByteArray.empty HO.out (j : Int) (by omega) (by omega)).1
        rw [Int.toNat_natCast] at h
        rw [Nat.zero_add, h]
        unfold rdOf
        rw [Int.toNat_natCast, List.getD_eq_getElem?_getD, hx]
        rfl) hg2 (by omega) hR.2.1 (by
        rw [HL.out]
        have h := congrArg ByteArray.size HJ.out
        have hz := HZ.out
        have zsp : (⟨#[32]⟩ : ByteArray).size = 1 := rfl
        simp only [ByteArray.size_append, zsp] at h
        have h2 : (Lib.join ([t0, t1, t2, t3].map (·.data.toList)) (⟨#[32]⟩ : ByteArray).data.toList).length = t0.size + 1 + t1.size + 1 + t2.size + 1 + t3.size := by rw [← h]; rfl
        rw [h2]
        omega))
      rw [hlen] at hJN
      have HJ2 := Lib.hid (show (⟨(Lib.join (L.map (·.data.toList)) (⟨#[32]⟩ : ByteArray).data.toList).toArray⟩ : ByteArray) = t0 ++ ⟨#[32]⟩ ++ t1 ++ ⟨#[32]⟩ ++ t2 ++ ⟨#[32]⟩ ++ t3 by rw [HL.out]; exact HJ.out)
      rw [hlen]
      clear hR
      go_wp2_with (go_at_call 56; refine hJN.out.mono ?_; rintro e w2 ⟨rfl, hb⟩)
      go_ret
      exact ⟨congrArg (fun x => Ending.returned (.string x)) HJ2.out, below_tr HB.out (below_tr HB2.out hb)⟩
end Go.Proofs.YtafigkikblpbnaaGreatDoor.PG
