/- A complex number of a row, read and held against another. -/
import Derived.Test.YtdpcfamgmicboadStampF
namespace Go.Proofs.Ytdpcfamgmicboad
open Go.RowKit Go.Flt Go.Proofs.YtdpcfamgmicboadW.PrintWords
/-! a number of a row, read and held against another -/
def zokN (z : CX) : Int := if z.re.natAbs < 2 ^ 53 ∧ z.im.natAbs < 2 ^ 53 then 1 else 0
def cneqN (x y : CX) : Int := if x = y then 0 else 1
theorem zok_of {z : CX} (h : zokN z = 1) : zok z := by
  unfold zokN at h
  split at h
  · assumption
  · cases h
theorem at_cx {w : World} {A : Option Addr} {n : Nat} {zs : List CX} (h : Kd.C Kd.cx w A n zs) (i : Int) (h0 : 0 ≤ i) (h1 : i < n) : ∃ ad b, A = some ad ∧ w.cell? (ad.add i.toNat) = some (encB b) ∧ (zokN (rdOf cxZero zs i) = 1 → rel b (rdOf cxZero zs i)) := by
  obtain ⟨hl, hn, hc⟩ := h
  obtain ⟨ad, rfl, hc2⟩ := hc (by omega)
  have hj : i.toNat < zs.length := by omega
  obtain ⟨c, _, ⟨b, rfl, hr⟩, hcell⟩ := hc2 i.toNat _ (List.getElem?_eq_getElem hj)
  refine ⟨ad, b, rfl, ?_, ?_⟩
  · have := hcell 0 _ rfl
    simpa [Kd.cx] using this
  · intro hz
    have e : rdOf cxZero zs i = zs[i.toNat] := by
      show zs.getD i.toNat cxZero = _
      rw [List.getD_eq_getElem?_getD, List.getElem?_eq_getElem hj]; rfl
    rw [e] at hz ⊢
    exact hr (zok_of hz)
theorem cx_same {b c : Nat × Nat} {x y : CX} (hb : zokN x = 1 → rel b x) (hc : zokN y = 1 → rel c y) (h1 : zokN x = 1) (h2 : zokN y = 1) (h : (cneqN x y == 1) = false) :
    (FloatKind.f64.format.order b.1 c.1 == some Ordering.eq) = true ∧ (FloatKind.f64.format.order b.2 c.2 == some Ordering.eq) = true := by
  have e : x = y := by
    unfold cneqN at h
    by_cases e : x = y
    · exact e
    · rw [if_neg e] at h; exact absurd h (by decide)
  obtain ⟨z1, z2⟩ := zok_of h1
  obtain ⟨z3, z4⟩ := zok_of h2
  rw [eq_rel (hb h1).1 (hc h2).1 z1 z3, eq_rel (hb h1).2 (hc h2).2 z2 z4, e]
  simp
end Go.Proofs.Ytdpcfamgmicboad
