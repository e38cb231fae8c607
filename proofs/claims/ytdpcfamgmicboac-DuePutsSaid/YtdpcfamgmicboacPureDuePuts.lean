import Derived.Test.YtdpcfamgmicboacStatDuePuts
import Derived.Test.YtdpcfamgmicboacDueP
set_option linter.unusedSimpArgs false
namespace Go.Proofs.Ytdpcfamgmicboac.Pure
open Go.RowKit Go.Proofs.Ytdpcfamgmicboac.PDue Go.Proofs.YtdpcfamgmicboacW.PrintWords Go.Proofs.YtdpcfamgmicboacW.PrintMore

theorem w01 : wrap64 (0 + 1) = 1 := by unfold wrap64; omega
theorem w12 : wrap64 (1 + 1) = 2 := by unfold wrap64; omega
theorem grow0 (n : Int) (h0 : 0 ≤ n) (h1 : n ≤ 1000000) : api_Mile_32.f [] n = some [] := by unfold api_Mile_32.f; rw [if_pos ⟨rfl, h0, h1⟩]
theorem concat2 (a b : List S33) (ha : a.length ≤ 50) (hb : b.length ≤ 50) : Ev (fun k => api_Mile_26.f k [a, b]) (a ++ b) := by
  unfold api_Mile_26.f
  simp only [List.length_cons, List.length_nil]
  have r0 : rd_L4 [a, b] 0 = a := rfl
  have r1 : rd_L4 [a, b] 1 = b := rfl
  refine Ev.step (f := fun k => _) (fun k => by unfold api_Mile_26.l0; rfl) ?_
  simp only [List.length_cons, List.length_nil, r0, if_pos (show (0 : Int) < ((0 + 1 + 1 : Nat) : Int) by decide), if_pos (show (0 : Int) ≤ 0 by decide), w64 (n := 0 + (a.length : Int)) (by omega) (by omega), if_neg (show ¬ 0 + (a.length : Int) < 0 by omega), w01]
  refine Ev.step (f := fun k => _) (fun k => by unfold api_Mile_26.l0; rfl) ?_
  simp only [List.length_cons, List.length_nil, r1, if_pos (show (1 : Int) < ((0 + 1 + 1 : Nat) : Int) by decide), if_pos (show (0 : Int) ≤ 1 by decide), w64 (n := 0 + (a.length : Int) + (b.length : Int)) (by omega) (by omega), if_neg (show ¬ 0 + (a.length : Int) + (b.length : Int) < 0 by omega), w12]
  refine Ev.step (f := fun k => _) (fun k => by unfold api_Mile_26.l0; rfl) ?_
  simp only [List.length_cons, List.length_nil, if_neg (show ¬ (2 : Int) < ((0 + 1 + 1 : Nat) : Int) by decide)]
  simp only [grow0 (0 + (a.length : Int) + (b.length : Int)) (by omega) (by omega), Option.bind_some]
  refine Ev.step (f := fun k => _) (fun k => by unfold api_Mile_26.l1; rfl) ?_
  simp only [List.length_cons, List.length_nil, r0, if_pos (show (0 : Int) < ((0 + 1 + 1 : Nat) : Int) by decide), if_pos (show (0 : Int) ≤ 0 by decide), if_pos (show 0 + a.length < 5864062014805 by omega), w01, List.nil_append]
  refine Ev.step (f := fun k => _) (fun k => by unfold api_Mile_26.l1; rfl) ?_
  simp only [List.length_cons, List.length_nil, r1, if_pos (show (1 : Int) < ((0 + 1 + 1 : Nat) : Int) by decide), if_pos (show (0 : Int) ≤ 1 by decide), if_pos (show a.length + b.length < 5864062014805 by omega), w12]
  refine Ev.step (f := fun k => _) (fun k => by unfold api_Mile_26.l1; rfl) ?_
  simp only [List.length_cons, List.length_nil, if_neg (show ¬ (2 : Int) < ((0 + 1 + 1 : Nat) : Int) by decide)]
  exact Ev.now _
theorem same_l (l : List S33) (hl : l.length ≤ 1000000) : ∀ j i, l.length - i = j → i ≤ l.length → Ev (fun k => hanaperref19_SameMiles.l0 k l l (i : Int)) true
  | 0, i, hj, hi => by
    refine Ev.step (f := fun k => _) (fun k => by unfold hanaperref19_SameMiles.l0; rfl) ?_
    simp only [if_neg (show ¬ (i : Int) < l.length by omega)]
    exact Ev.now _
  | j + 1, i, hj, hi => by
    refine Ev.step (f := fun k => _) (fun k => by unfold hanaperref19_SameMiles.l0; rfl) ?_
    simp only [if_pos (show (i : Int) < l.length by omega), if_pos (show 0 ≤ (i : Int) by omega), beq_self_eq_true, Bool.not_true, Bool.or_false, Bool.false_eq_true, if_false, w64 (n := (i : Int) + 1) (by omega) (by omega)]
    exact same_l l hl j (i + 1) (by omega) (by omega)
theorem same_ev (l : List S33) (hl : l.length ≤ 1000000) : Ev (fun k => hanaperref19_SameMiles.f k l l) true := by
  unfold hanaperref19_SameMiles.f
  simp only [if_true]
  exact same_l l hl l.length 0 (by omega) (by omega)
/-- What comes of one milestone more. -/
def putM (l : List S33) (n : ByteArray) (t : Int) : List S33 × Bool := if l.length ≥ 8 then ([], false) else if (fndB n l).2 = true then ([], false) else (l ++ [⟨n, t⟩], true)
theorem put_prog (l : List S33) (hl : l.length ≤ 50) (n : ByteArray) (t : Int) : Ev (fun k => due_Put.f k l n t) (putM l n t) := by
  unfold due_Put.f putM
  simp only [at_f, Option.bind_some]
  by_cases h1 : (fndB n l).2 = true
  · simp only [if_pos h1, ite_self]; exact Ev.now _
  · simp only [if_neg h1]
    by_cases h2 : l.length ≥ 8
    · simp only [if_pos h2, if_pos (show (l.length : Int) ≥ 8 by omega)]; exact Ev.now _
    · simp only [if_neg h2, if_neg (show ¬ (l.length : Int) ≥ 8 by omega)]
      exact Ev.bind (f := fun k t => _) (concat2 l [⟨n, t⟩] hl (by simp)) (Ev.now _)
theorem put_l (l : List S33) (hl : l.length ≤ 50) (n : ByteArray) (t : Int) : ∀ j i, l.length - i = j → i ≤ l.length → Ev (fun k => hanaperref19_Put.l0 k l (i : Int) n t) (if (fndB n (l.drop i)).2 = true then ([], false) else (l ++ [⟨n, t⟩], true))
  | 0, i, hj, hi => by
    refine Ev.step (f := fun k => _) (fun k => by unfold hanaperref19_Put.l0; rfl) ?_
    simp only [if_neg (show ¬ (i : Int) < l.length by omega), List.drop_of_length_le (show l.length ≤ i by omega), Option.bind_some, List.nil_append, List.length_nil, List.length_singleton, if_pos (show 0 + l.length < 5864062014805 by omega), if_pos (show l.length + 1 < 5864062014805 by omega)]
    exact Ev.now _
  | j + 1, i, hj, hi => by
    have hlt : i < l.length := by omega
    have hd := drop_rd hlt
    refine Ev.step (f := fun k => _) (fun k => by unfold hanaperref19_Put.l0; rfl) ?_
    simp only [if_pos (show (i : Int) < l.length by omega), if_pos (show 0 ≤ (i : Int) by omega), hd]
    by_cases hn : (rd_T33 l (i : Int)).f0.toList = n.toList
    · have : (fndB n (rd_T33 l (i : Int) :: l.drop (i + 1))).2 = true := by unfold fndB fnd; rw [if_pos hn]
      simp only [if_pos hn, if_pos this]; exact Ev.now _
    · have : fndB n (rd_T33 l (i : Int) :: l.drop (i + 1)) = fndB n (l.drop (i + 1)) := by unfold fndB; conv => lhs; unfold fnd; rw [if_neg hn]
      simp only [if_neg hn, this, w64 (n := (i : Int) + 1) (by omega) (by omega)]
      exact put_l l hl n t j (i + 1) (by omega) (by omega)
theorem put_ref (l : List S33) (hl : l.length ≤ 50) (n : ByteArray) (t : Int) : Ev (fun k => hanaperref19_Put.f k l n t) (putM l n t) := by
  unfold hanaperref19_Put.f putM
  by_cases h2 : l.length ≥ 8
  · simp only [if_pos h2, if_pos (show (l.length : Int) ≥ 8 by omega)]; exact Ev.now _
  · simp only [if_neg h2, if_neg (show ¬ (l.length : Int) ≥ 8 by omega)]
    simpa using put_l l hl n t l.length 0 (by omega) (by omega)
theorem putM_len (l : List S33) (hl : l.length ≤ 50) (n : ByteArray) (t : Int) : (putM l n t).1.length ≤ 1000000 := by
  unfold putM; split
  · simp
  · split
    · simp
    · simp; omega
theorem DuePuts : hanaperlaw19_DuePuts.Pure := by
  intro l x hl hx
  have live := Ev.at live_f
  refine Ev.rounds (g := fun k => hanaperlaw19_DuePuts.f k l x.f0 x.f1) ?_
  unfold hanaperlaw19_DuePuts.f
  by_cases h : (l.length : Int) > 50
  · simp only [if_pos h]
    exact Ev.bind (f := fun k t => _) live (Ev.now _)
  · simp only [if_neg h]
    refine Ev.bind (f := fun k t => _) (put_prog l (by omega) _ _) ?_
    refine Ev.bind (f := fun k t => _) (put_ref l (by omega) _ _) ?_
    refine Ev.bind (f := fun k t => _) (same_ev _ (putM_len l (by omega) _ _)) ?_
    simp only [if_true, beq_self_eq_true]
    exact Ev.bind (f := fun k t => _) live (Ev.now _)

end Go.Proofs.Ytdpcfamgmicboac.Pure
