/- Contracts of the package stamp's functions, next part: the least of several rows. -/
import Derived.Test.YtdpcfamgmicboadStampF
namespace Go.Proofs.Ytdpcfamgmicboad
open Go.RowKit Go.Flt Go.Proofs.YtdpcfamgmicboadW.PrintWords
attribute [local go_sem] run_neg_float run_store_complex run_store_float
def rowOf (zss : List (List CX)) (i : Nat) : List CX := zss.getD i []
/-- The place of the least row of those up to n, the first of them. -/
def leastAt (zss : List (List CX)) : Nat → Nat
  | 0 => 0
  | n + 1 => if cmpL (rowOf zss (n + 1)) (rowOf zss (leastAt zss n)) < 0 then n + 1 else leastAt zss n
theorem leastAt_le (zss : List (List CX)) : ∀ n, leastAt zss n ≤ n
  | 0 => Nat.le_refl _
  | n + 1 => by
    have := leastAt_le zss n
    unfold leastAt
    split
    · exact Nat.le_refl _
    · omega
/-- A row of rows, as the code reads it: each stands at its cell. -/
def Ways (w : World) (g : Nat) (zss : List (List CX)) (at' : Nat → Value) : Prop :=
  ∀ i, i < zss.length → w.cell? ⟨g, i, none⟩ = some (at' i) ∧ ∃ A c bs, at' i = .slice A (rowOf zss i).length c ∧ Kd.C kb w A (rowOf zss i).length bs ∧ Rels bs (rowOf zss i) ∧ (rowOf zss i).length ≤ 1000000 ∧ ∀ z ∈ rowOf zss i, sm 1000000000000 z
set_option maxHeartbeats 4000000 in
theorem minfunc_any (g c : Nat) (zss : List (List CX)) (at' : Nat → Value) (w : World) (h : Ways w g zss at') (h0 : 0 < zss.length) (hl : zss.length ≤ 1000) :
    Calls Try.prog 32 #[.slice (some ⟨g, 0, none⟩) zss.length c, .func (Fn.func 33) #[] #[]] w fun e w' => e = .returned (at' (leastAt zss (zss.length - 1))) ∧ Below w.heap.size w w' := by
  have hlt0 : ¬ (zss.length : Int) < 1 := by omega
  have hz0 := (h 0 h0).1
  obtain ⟨A0, c0, bs0, e0, _, _, _, _⟩ := (h 0 h0).2
  have H := Lib.hid h
  clear h
  have E0 := Lib.hid e0
  rw [e0] at hz0
  clear e0
  generalize hR : at' (leastAt zss (zss.length - 1)) = R
  have HR := Lib.hid hR
  clear hR
  go_enter Try.func32, Try.ntmps32
  go_wp2
  go_loopw [5, 6] (fun v5 v6 wr => ∃ (n : Nat) (A : Option Addr) (len c : Nat), n + 1 ≤ zss.length ∧ v6 = .int .i64 ((n : Int) + 1) ∧ v5 = .slice A len c ∧ Aside0 (.slice A len c = at' (leastAt zss n)) ∧ Aside0 (Below w.heap.size w wr)) (fun _ v6 _ => zss.length + 1 - (intOf v6).toNat)
  case atStart => exact ⟨0, _, _, _, by omega, rfl, rfl, ⟨E0.out.symm⟩, ⟨Below.refl _ _⟩⟩
  case round =>
    obtain ⟨n, A, len, cc, hn, rfl, rfl, HV, HB⟩ := hrel
    by_cases hlt : n + 1 < zss.length
    · have hm : leastAt zss n < zss.length := by have := leastAt_le zss n; omega
      obtain ⟨Am, cm, bsm, em, hCm, hRm, hlm, hsm⟩ := (H.out _ hm).2
      have he := HV.out
      rw [em] at he
      injection he with he1 he2 he3
      subst he1 he2 he3
      have hcell := below_cell HB.out (H.out (n + 1) hlt).1
      obtain ⟨A1, c1, bs1, e1, hC1, hR1, hl1, hs1⟩ := (H.out (n + 1) hlt).2
      rw [e1] at hcell
      have HCALL := Lib.hid (normal1_any A1 c1 bs1 (rowOf zss (n + 1)) A cc bsm (rowOf zss (leastAt zss n)) _ hs1 (Kd.C_below hC1 HB.out) hR1 hsm (Kd.C_below hCm HB.out) hRm hl1 hlm)
      have HS := Lib.hid (show leastAt zss (n + 1) = if cmpL (rowOf zss (n + 1)) (rowOf zss (leastAt zss n)) < 0 then n + 1 else leastAt zss n from rfl)
      have HE1 := Lib.hid e1
      have HEM := Lib.hid em
      have hlt' : (n : Int) + 1 < zss.length := by omega
      clear hC1 hR1 hs1 hl1 hCm hRm hsm hlm e1 em hm
      generalize cmpL (rowOf zss (n + 1)) (rowOf zss (leastAt zss n)) = q at *
      generalize (rowOf zss (n + 1)).length = l1 at *
      generalize (rowOf zss (leastAt zss n)).length = lm at *
      by_cases hq : q < 0
      · have HQ := Lib.hid hq
        have hq1 : decide (q < 0) = true := decide_eq_true hq
        clear hq
        go_wp2_with (go_at_call 33; refine HCALL.out.mono ?_; rintro e w2 ⟨rfl, hb⟩; have hcell := below_cell hb hcell)
        go_roundw
        case rel => exact ⟨n + 1, A1, l1, c1, by omega, by go_num, rfl, ⟨by rw [HS.out, if_pos HQ.out, HE1.out]⟩, ⟨below_tr HB.out hb⟩⟩
        case measure => simp [intOf]; omega
      · have HQ := Lib.hid hq
        have hq1 : decide (q < 0) = false := decide_eq_false hq
        clear hq
        go_wp2_with (go_at_call 33; refine HCALL.out.mono ?_; rintro e w2 ⟨rfl, hb⟩)
        go_roundw
        case rel => exact ⟨n + 1, _, _, _, by omega, by go_num, rfl, ⟨by rw [HS.out, if_neg (by have := HQ.out; omega), HEM.out]⟩, ⟨below_tr HB.out hb⟩⟩
        case measure => simp [intOf]; omega
    · have hnn : zss.length - 1 = n := by omega
      have HN := Lib.hid hnn
      clear hnn
      have hlt' : ¬ (n : Int) + 1 < zss.length := by omega
      go_wp2
      go_ret
      exact ⟨by show Ending.returned (Value.slice A len cc) = Ending.returned R; rw [HV.out, ← HR.out, HN.out], HB.out⟩
end Go.Proofs.Ytdpcfamgmicboad
