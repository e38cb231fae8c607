/- Complex numbers with whole parts, as the elements of slices: a number of a row is told by its whole parts; which zero stands there isn't told. -/
import Derived.Test.YtdpcfamgmicboadFlt
import Derived.Laws.ComplexArith
import Derived.Test.YtdpcfamgmicboadWWords
import Derived.Test.YtdpcfamgmicboadWFoot
import Derived.Test.YtdpcfamgmicboadWMore
namespace Go.Proofs.Ytdpcfamgmicboad
open Go.RowKit Go.Flt Go.Proofs.YtdpcfamgmicboadW.PrintWords

structure CX where
  re : Int
  im : Int
deriving DecidableEq
def enc (n : Int) : Nat := FloatKind.f64.nearest n
abbrev CX.a (z : CX) : Nat := floatOfInt .f64 z.re
abbrev CX.b (z : CX) : Nat := floatOfInt .f64 z.im
def cxZero : CX := ⟨0, 0⟩
theorem enc_F (n : Int) (h : n.natAbs < 2 ^ 53) : F (enc n) n := Flt.F_ofInt n h
/-- Bits that stand for a number. -/
def rel (b : Nat × Nat) (z : CX) : Prop := F b.1 z.re ∧ F b.2 z.im
abbrev encB (b : Nat × Nat) : Value := .complex .f64 b.1 b.2
abbrev kb : Kd (Nat × Nat) := Kd.scalar encB (fun _ => rfl)
/-- Parts that are told exactly. -/
def zok (z : CX) : Prop := z.re.natAbs < 2 ^ 53 ∧ z.im.natAbs < 2 ^ 53
def Kd.cx : Kd CX where
  sz := 1
  E := []
  K := fun _ x cs => ∃ b, cs = [encB b] ∧ (zok x → rel b x)
  M := fun _ _ _ x cs => ∃ b, cs = [encB b] ∧ (zok x → rel b x)
  K_len := fun h => by obtain ⟨b, rfl, _⟩ := h; rfl
  K_one := fun h u hu => by obtain ⟨b, rfl, _⟩ := h; rw [List.mem_singleton.1 hu]; rfl
  K_below := fun _ h => h
  K_of_M := fun h => h
  M_mono := fun _ h => h
  M_bound := fun h => h
  M_move := fun _ h => h
  M_lower := fun _ h => h
theorem Kd.cx_M (w : World) (base : Nat) (ok : Nat → Prop) (z : CX) : Kd.cx.M w base ok z [.complex .f64 (CX.a z) (CX.b z)] :=
  ⟨(CX.a z, CX.b z), rfl, fun h => ⟨enc_F _ h.1, enc_F _ h.2⟩⟩
theorem Kd.heap_cx : Kd.Heap Kd.cx := ⟨fun _ h => h⟩
/-- Rows of bits that stand for rows of numbers. -/
def Rels (bs : List (Nat × Nat)) (zs : List CX) : Prop := bs.length = zs.length ∧ ∀ i : Nat, i < zs.length → rel (bs.getD i (0, 0)) (zs.getD i cxZero)
theorem Rels.nil : Rels [] [] := ⟨rfl, fun i h => by cases h⟩
theorem Rels.cons {b : Nat × Nat} {z : CX} {bs : List (Nat × Nat)} {zs : List CX} (h : rel b z) (t : Rels bs zs) : Rels (b :: bs) (z :: zs) := by
  refine ⟨by simp [t.1], fun i hi => ?_⟩
  cases i with
  | zero => exact h
  | succ i => have := t.2 i (by simpa using hi); simpa using this
theorem Rels.snoc {b : Nat × Nat} {z : CX} {bs : List (Nat × Nat)} {zs : List CX} (t : Rels bs zs) (h : rel b z) : Rels (bs ++ [b]) (zs ++ [z]) := by
  refine ⟨by simp [t.1], fun i hi => ?_⟩
  have hl := t.1
  simp only [List.length_append, List.length_singleton] at hi
  by_cases hlt : i < zs.length
  · have := t.2 i hlt
    rwa [List.getD_eq_getElem?_getD, List.getElem?_append_left (by omega), ← List.getD_eq_getElem?_getD, List.getD_eq_getElem?_getD (l := zs ++ [z]), List.getElem?_append_left hlt, ← List.getD_eq_getElem?_getD]
  · obtain rfl : i = zs.length := by omega
    rw [List.getD_eq_getElem?_getD, List.getElem?_append_right (by omega), List.getD_eq_getElem?_getD (l := zs ++ [z]), List.getElem?_append_right (by omega), hl]
    simpa using h
theorem cx_C {w : World} {A : Option Addr} {n : Nat} {zs : List CX} (h : Kd.C Kd.cx w A n zs) (hok : ∀ z ∈ zs, zok z) : ∃ bs, Kd.C kb w A n bs ∧ Rels bs zs := by
  obtain ⟨hl, hn, hc⟩ := h
  by_cases h0 : 0 < n
  · obtain ⟨ad, rfl, hc2⟩ := hc h0
    have key : ∀ j, j < n → ∃ b : Nat × Nat, rel b (zs.getD j cxZero) ∧ w.cell? (ad.add j) = some (encB b) := fun j hj => by
      have hj' : j < zs.length := by omega
      obtain ⟨c, _, ⟨b, rfl, hr⟩, hcell⟩ := hc2 j _ (List.getElem?_eq_getElem hj')
      refine ⟨b, by rw [List.getD_eq_getElem?_getD, List.getElem?_eq_getElem hj']; exact hr (hok _ (List.getElem_mem hj')), ?_⟩
      have := hcell 0 _ rfl
      simpa [Kd.cx] using this
    let g : Nat → Nat × Nat := fun j => if hj : j < n then Classical.choose (key j hj) else (0, 0)
    have hg : ∀ j (hj : j < n), g j = Classical.choose (key j hj) := fun j hj => dif_pos hj
    refine ⟨(List.range n).map g, ⟨by simp, hn, fun _ => ⟨ad, rfl, fun j p hj => ?_⟩⟩, by simp [hl], fun i hi => ?_⟩
    · have hjn : j < n := by have := (List.getElem?_eq_some_iff.1 hj).1; simpa using this
      have hp : p = g j := by simpa [hjn] using hj.symm
      subst hp
      refine ⟨[encB (g j)], rfl, rfl, fun i u hu => ?_⟩
      cases i with
      | zero =>
        obtain rfl : encB (g j) = u := by simpa using hu
        rw [hg j hjn]
        show w.cell? (ad.add (j * 1 + 0)) = _
        rw [Nat.mul_one, Nat.add_zero]
        exact (Classical.choose_spec (key j hjn)).2
      | succ i => simp at hu
    · have hin : i < n := by omega
      have : ((List.range n).map g).getD i (0, 0) = g i := by simp [List.getD_eq_getElem?_getD, hin]
      rw [this, hg i hin]
      exact (Classical.choose_spec (key i hin)).1
  · have : zs = [] := List.eq_nil_of_length_eq_zero (by omega)
    subst this
    exact ⟨[], ⟨by simpa using hl, hn, fun h => absurd h h0⟩, Rels.nil⟩
theorem cx_R {e : Nat} {w : World} {base : Nat} {ok : Nat → Prop} {v : Value} {bs : List (Nat × Nat)} {zs : List CX} (h : Kd.R kb e w base ok v bs) (t : Rels bs zs) : Kd.R Kd.cx e w base ok v zs := by
  obtain ⟨h0, inner, ho, hr⟩ := h
  refine ⟨h0, inner, by rw [← t.1]; exact ho, ⟨by rw [hr.1, t.1]; rfl, fun j p hj => ?_⟩⟩
  have hj' := (List.getElem?_eq_some_iff.1 hj).1
  have hb := hr.2 j _ (List.getElem?_eq_getElem (show j < bs.length by rw [t.1]; exact hj'))
  refine ⟨bs.getD j (0, 0), ?_, fun _ => ?_⟩
  · rw [List.getD_eq_getElem?_getD, List.getElem?_eq_getElem (show j < bs.length by rw [t.1]; exact hj')]
    exact hb
  · have := t.2 j hj'
    rw [List.getD_eq_getElem?_getD (l := zs), hj] at this
    exact this
end Go.Proofs.Ytdpcfamgmicboad
