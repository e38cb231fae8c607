/- Contracts of the package stamp's functions, next part: corner. -/
import Derived.Test.YtdpcfamgmicboadStampC
namespace Go.Proofs.Ytdpcfamgmicboad
open Go.RowKit Go.Flt Go.Proofs.YtdpcfamgmicboadW.PrintWords
attribute [local go_sem] run_neg_float run_store_complex run_store_float
theorem min_rel {x y : Nat} {a b : Int} (h : F x a) (g : F y b) (ha : a.natAbs < 2 ^ 53) (hb : b.natAbs < 2 ^ 53) :
    ∃ r, (∀ w, (Builtin.min_ #[36, 36] 36 #[.float .f64 x, .float .f64 y]).run Try.prog w = .ok (.float .f64 r) w) ∧ F r (if b < a then b else a) := by
  have ho := order_rel h g ha hb
  have hc : compare a b = (if a < b then .lt else if a = b then .eq else .gt) := rfl
  rw [hc] at ho
  by_cases h1 : a < b
  · rw [if_pos h1] at ho
    exact ⟨x, fun w => by simp [Builtin.min_, Builtin.min2, ho], by rw [if_neg (by omega)]; exact h⟩
  · rw [if_neg h1] at ho
    by_cases h2 : a = b
    · rw [if_pos h2] at ho
      subst h2
      refine ⟨if (FloatKind.f64.decode x).neg then x else y, fun w => by simp [Builtin.min_, Builtin.min2, ho], ?_⟩
      have e : (if a < a then a else a) = a := by split <;> rfl
      rw [e]
      by_cases hn : (FloatKind.f64.decode x).neg = true
      · rw [if_pos hn]; exact h
      · rw [if_neg hn]; exact g
    · rw [if_neg h2] at ho
      exact ⟨y, fun w => by simp [Builtin.min_, Builtin.min2, ho], by rw [if_pos (by omega)]; exact g⟩
/-- The least first parts, the least second parts, of the first so many points. -/
def lowR (zs : List CX) : Nat → Int
  | 0 => (zs.getD 0 cxZero).re
  | i + 1 => if (zs.getD i cxZero).re < lowR zs i then (zs.getD i cxZero).re else lowR zs i
def lowI (zs : List CX) : Nat → Int
  | 0 => (zs.getD 0 cxZero).im
  | i + 1 => if (zs.getD i cxZero).im < lowI zs i then (zs.getD i cxZero).im else lowI zs i
theorem low_bd {zs : List CX} (h : ∀ z ∈ zs, sm 1000000 z) : ∀ i, (lowR zs i).natAbs ≤ 1000000 ∧ (lowI zs i).natAbs ≤ 1000000
  | 0 => getD_sm h 0
  | i + 1 => by
    have h1 := low_bd h i
    have h2 := getD_sm h i
    unfold lowR lowI
    constructor
    · split
      · exact h2.1
      · exact h1.1
    · split
      · exact h2.2
      · exact h1.2
def cornerZ (zs : List CX) : List CX := zs.map fun z => addz z ⟨-lowR zs zs.length, -lowI zs zs.length⟩
theorem run_neg_complex (P : Program) (a b : Nat) (w : World) : Sem.run P (Op.unary UnOp.neg (Value.complex FloatKind.f64 a b)) w = .ok (.complex .f64 (Op.negFloat .f64 a) (Op.negFloat .f64 b)) w := rfl
attribute [local go_sem] run_neg_complex
set_option maxHeartbeats 4000000 in
theorem corner_any (A : Option Addr) (c : Nat) (bs : List (Nat × Nat)) (zs : List CX) (w : World) (hsm : ∀ z ∈ zs, sm 1000000 z) (hr : Kd.C kb w A zs.length bs) (t : Rels bs zs) (hlen : zs.length ≤ 1000) (h0 : 0 < zs.length) :
    Calls Try.prog 31 #[.slice A zs.length c] w fun e w' => ∃ v, e = .returned v ∧ Row w w' v (cornerZ zs) ∧ Below w.heap.size w w' := by
  have hz : ¬ (zs.length : Int) = 0 := by omega
  obtain ⟨ad, e, h00⟩ := at_kb hr 0 (by omega) (by omega)
  subst e
  have hrl := t.2 0 h0
  have hrd : rdOf (0, 0) bs 0 = bs.getD 0 (0, 0) := rfl
  rw [hrd] at h00
  have h00' : w.cell? ad = some (encB (bs.getD 0 (0, 0))) := h00
  clear h00 hrd
  have HRL := Lib.hid hrl
  clear hrl
  generalize hbb : bs.getD 0 (0, 0) = b at *
  clear hbb
  go_enter Try.func31, Try.ntmps31
  go_wp2
  go_quiet (fail)
  go_wp2
  go_loop [3, 4, 20] (fun v3 v4 v20 => ∃ (i fr fi : Nat), i ≤ zs.length ∧ v20 = .int .i64 i ∧ v3 = .float .f64 fr ∧ v4 = .float .f64 fi ∧ F fr (lowR zs i) ∧ F fi (lowI zs i)) (fun _ _ v20 => zs.length - (intOf v20).toNat)
  case atStart => exact ⟨0, _, _, Nat.zero_le _, rfl, rfl, rfl, HRL.out.1, HRL.out.2⟩
  case round =>
    obtain ⟨i, fr, fi, hi, rfl, rfl, rfl, hfr, hfi⟩ := hrel
    have hlb := low_bd hsm i
    by_cases hlt : i < zs.length
    · obtain ⟨ad', e, h1⟩ := at_kb hr (i : Int) (by omega) (by omega)
      cases e
      have hri := t.2 i hlt
      have hrd : rdOf (0, 0) bs (i : Int) = bs.getD i (0, 0) := rfl
      rw [hrd] at h1
      clear hrd
      simp only [Int.toNat_natCast] at h1
      have hzb := getD_sm hsm i
      obtain ⟨r1, m1, f1⟩ := min_rel hfr hri.1 (by have := hlb.1; omega) (by have := hzb.1; omega)
      obtain ⟨r2, m2, f2⟩ := min_rel hfi hri.2 (by have := hlb.2; omega) (by have := hzb.2; omega)
      have F1 := Lib.hid f1
      have F2 := Lib.hid f2
      clear f1 f2 hri hfr hfi hlb hzb
      generalize bs.getD i (0, 0) = b0 at *
      go_wp2
      exact ⟨⟨i + 1, r1, r2, by omega, by go_num, rfl, rfl, F1.out, F2.out⟩, by simp [intOf]; omega⟩
    · have he : i = zs.length := by omega
      have hq : rel (Op.negFloat .f64 fr, Op.negFloat .f64 fi) ⟨-lowR zs zs.length, -lowI zs zs.length⟩ := by
        subst he
        exact ⟨Flt.neg hfr (by have := hlb.1; omega), Flt.neg hfi (by have := hlb.2; omega)⟩
      have hqs : sm 1000000 ⟨-lowR zs zs.length, -lowI zs zs.length⟩ := by
        subst he
        refine ⟨?_, ?_⟩
        · have := hlb.1; simp only; omega
        · have := hlb.2; simp only; omega
      have HQ := Lib.hid (And.intro hq hqs)
      clear hq hqs hfr hfi hlb he
      go_wp2_with fail
      refine (shift_any _ c bs zs _ _ HQ.out.1 HQ.out.2 _ hsm (Kd.C_drewN hr _) t hlen).mono ?_
      rintro e w3 ⟨v, rfl, hR, hb⟩
      have H := Lib.hid (And.intro hR hb)
      clear hR hb
      go_wp2
      go_ret
      exact ⟨v, rfl, H.out.1, below_tr (pw_below_drewN (Below.refl _ _) _) H.out.2⟩
end Go.Proofs.Ytdpcfamgmicboad
