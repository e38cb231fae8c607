/- The queue's map of names, told as a set; no condition beyond each theorem its own. -/
import Derived.Test.YtdpcfamgmicboaeProg
import Derived.Maps.OwnSet
import Derived.WalkKit
import Derived.KernelRfl
import Derived.Lib.Hide
namespace Go.Proofs.Ytdpcfamgmicboae
open Go.RowKit Go.Maps Go.WideMaps
theorem lawS : Keyed Try.prog 9 := string_keyed Try.underlying9
theorem zeroB (w : World) : (zeroValue 4).run Try.prog w = .ok (.bool false) w := by kernel_rfl
/-- Block b is a map of at most so many names: those that S says. -/
def HasMap (w : World) (b cnt : Nat) (S : ByteArray → Bool) : Prop :=
  ∃ D : DataW Unit, w.ownsMap Try.prog 9 (plainElem Try.prog 4) b cnt D ∧ ∀ s : ByteArray, s.size ≤ maxLen → D.atKey (.string s.data.toList) (.lit (.bool false)) = .lit (.bool (S s))
theorem plainB_inv {v : Value} {c : Bool} {ps : List MemPlace} (h : plainElem (H := Unit) Try.prog 4 v = some (.lit (.bool c), ps)) : v = .bool c := by
  unfold plainElem at h
  rw [Try.underlying4] at h
  cases v <;> simp at h
  rename_i b
  first | (obtain ⟨h1, _⟩ := h; rw [h1]) | (rw [h.1]) | (cases h; rfl)
theorem lit_ne {s t : ByteArray} (h : t ≠ s) : (Lit.string t.data.toList) ≠ Lit.string s.data.toList := by
  intro e
  injection e with e
  apply h
  obtain ⟨a⟩ := s
  obtain ⟨b⟩ := t
  have : b = a := Array.toList_inj.1 e
  rw [this]
theorem HasMap.made (w : World) : HasMap (w.alloc (.map #[] 0)) w.heap.size 0 (fun _ => false) :=
  ⟨_, World.ownsMap_made _ _ _ _, fun _ _ => rfl⟩
theorem HasMap.lookup {w : World} {b cnt : Nat} {S : ByteArray → Bool} (h : HasMap w b cnt S) (s : ByteArray) (hs : s.size ≤ maxLen) : (Instr.lookup 43 (.map (some b)) (.string s) false).run Try.prog w = .ok (.bool (S s)) w := by
  obtain ⟨D, hD, hS⟩ := h
  obtain ⟨v, ps, hrun, hv⟩ := hD.lookup lawS Try.underlying43 (zeroB w) (plainElem_bool Try.underlying4 false) (keyOf_string_mk Try.underlying9 hs)
  rw [hS s hs] at hv
  rw [hrun, plainB_inv hv]
theorem HasMap.put {w : World} {b cnt : Nat} {S : ByteArray → Bool} (h : HasMap w b cnt S) (hn : cnt < maxLen) (s : ByteArray) (hs : s.size ≤ maxLen) :
    ∃ w', (Instr.mapUpdate 43 (.map (some b)) (.string s) (.bool true)).run Try.prog w = .ok () w' ∧ HasMap w' b (cnt + 1) (fun t => decide (t = s) || S t) ∧ w.grownBy w' (some b) := by
  obtain ⟨D, hD, hS⟩ := h
  obtain ⟨w', hrun, h1, h2⟩ := hD.update lawS Try.underlying43 hn (keyOf_string_mk Try.underlying9 hs) (plainElem_bool Try.underlying4 true)
  refine ⟨w', hrun, ⟨_, h1, fun t ht => ?_⟩, h2⟩
  by_cases e : t = s
  · subst e
    rw [atKey_put_same hD.isMap (show WideAt.IsKeyLit (.string _) from trivial)]
    simp
  · rw [atKey_put_other (lit_ne e), hS t ht]
    simp [e]
theorem HasMap.del {w : World} {b cnt : Nat} {S : ByteArray → Bool} (h : HasMap w b cnt S) (s : ByteArray) (hs : s.size ≤ maxLen) (ty : TypeId) :
    ∃ w', (Builtin.delete_ #[43, 9] ty #[.map (some b), .string s]).run Try.prog w = .ok (.tuple #[]) w' ∧ HasMap w' b cnt (fun t => !decide (t = s) && S t) ∧ w.grownBy w' (some b) := by
  obtain ⟨D, hD, hS⟩ := h
  obtain ⟨w', hrun, h1, h2⟩ := hD.drop lawS Try.underlying43 (keyOf_string_mk Try.underlying9 hs) ty
  refine ⟨w', hrun, ⟨_, h1, fun t ht => ?_⟩, ?_⟩
  · by_cases e : t = s
    · subst e
      rw [atKey_del_same]
      simp
    · rw [atKey_del_other (lit_ne e), hS t ht]
      simp [e]
  · exact h2.grown
theorem HasMap.kept {w w' : World} {b cnt : Nat} {S : ByteArray → Bool} {row : Option Nat} (h : HasMap w b cnt S) (hg : w.grownBy w' row) (hne : some b ≠ row) : HasMap w' b cnt S := by
  obtain ⟨D, hD, hS⟩ := h
  exact ⟨D, hD.kept hg hne, hS⟩
end Go.Proofs.Ytdpcfamgmicboae
