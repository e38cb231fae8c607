/- A string that is greater than another: as the other being less; no condition beyond each theorem its own. -/
import Derived.Laws.Strings
namespace Go.Proofs.YtafigkikblpbnaaGreatDoor
theorem bytes_gtr : ∀ a b : List UInt8, (!(Op.bytesLess a b || a == b)) = Op.bytesLess b a
  | [], [] => by simp [Op.bytesLess]
  | [], _ :: _ => by simp [Op.bytesLess]
  | _ :: _, [] => by simp [Op.bytesLess]
  | x :: xs, y :: ys => by
    have ih := bytes_gtr xs ys
    simp only [Op.bytesLess, List.cons_beq_cons]
    rcases Nat.lt_trichotomy x.toNat y.toNat with h | h | h
    · have h1 : x < y := h
      have h2 : ¬ y < x := fun g => absurd (show y.toNat < x.toNat from g) (by omega)
      have h3 : (y == x) = false := by rw [beq_eq_false_iff_ne]; rintro rfl; omega
      simp [h1, h2, h3]
    · have e : x = y := UInt8.toNat_inj.1 h
      subst e
      have h2 : ¬ x < x := fun g => absurd (show x.toNat < x.toNat from g) (by omega)
      simp only [h2, decide_false, Bool.false_or, beq_self_eq_true, Bool.true_and]
      exact ih
    · have h1 : ¬ x < y := fun g => absurd (show x.toNat < y.toNat from g) (by omega)
      have h2 : y < x := h
      have h3 : (x == y) = false := by rw [beq_eq_false_iff_ne]; rintro rfl; omega
      simp [h1, h2, h3]
theorem binOp_string_gtr_q (t : TypeId) (a b : ByteArray) : binOp .gtr t (.string a) (.string b) = pure (.bool (Op.bytesLess b.toList a.toList)) := by
  rw [← bytes_gtr]; simp [binOp, Op.stringOp]
end Go.Proofs.YtafigkikblpbnaaGreatDoor
