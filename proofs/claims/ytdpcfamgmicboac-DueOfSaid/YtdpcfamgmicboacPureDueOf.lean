import Derived.Test.YtdpcfamgmicboacStatDueOf
import Derived.Test.YtdpcfamgmicboacDuePOf
set_option linter.unusedSimpArgs false
namespace Go.Proofs.Ytdpcfamgmicboac.Pure
open Go.RowKit Go.Proofs.Ytdpcfamgmicboac.PDueOf Go.Proofs.YtdpcfamgmicboacW.PrintWords Go.Proofs.YtdpcfamgmicboacW.PrintMore

theorem miles_prog (a b c d : ByteArray) (t u : Int) (e : ByteArray) (m : List S33) (hm : m.length ≤ 50) : Ev (fun k => due_Miles.f k a b c d t u e m) (ms t m) := by
  unfold due_Miles.f
  exact Ev.bind (f := fun k t => _) (concat2 _ m (by simp) hm) (Ev.now _)
theorem miles_ref (a b c d : ByteArray) (t u : Int) (e : ByteArray) (m : List S33) (hm : m.length ≤ 50) : hanaperref19_Miles.f a b c d t u e m = some (ms t m) := by
  unfold hanaperref19_Miles.f
  rw [Option.bind_some, if_pos (by simp; omega)]; rfl
theorem ms_len (t : Int) (m : List S33) (hm : m.length ≤ 50) : (ms t m).length ≤ 1000000 := by simp [ms]; omega
theorem of_prog (l : List S49) (hl : ∀ x ∈ l, lim 100 x.f1) (a b c d : ByteArray) (t u : Int) (e : ByteArray) (m : List S33) (hm : m.length ≤ 50) : Ev (fun k => due_Of.f k l a b c d t u e m) (ofM l d t m) := by
  unfold due_Of.f ofM rule_Find.f
  simp only [Option.bind_some]
  by_cases h : (find2 l d).2 = true
  · simp only [if_pos h]
    have hlim := hl _ (find2_mem l d h)
    refine Ev.bind (f := fun k t => _) (miles_prog a b c d t u e m hm) ?_
    refine Ev.bind (f := fun k t => _) (Ev.at (When_f (ms t m) _ hlim)) ?_
    by_cases h2 : (wh (ms t m) (find2 l d).1.f1).2 = true
    · simp only [if_pos h2]; exact Ev.now _
    · simp only [if_neg h2]; exact Ev.now _
  · simp only [if_neg h]; exact Ev.now _
theorem of_ref (l : List S49) (h20 : l.length ≤ 20) (hl : ∀ x ∈ l, lim 100 x.f1) (a b c d : ByteArray) (t u : Int) (e : ByteArray) (m : List S33) (hm : m.length ≤ 50) : Ev (fun k => hanaperref19_Of.f k l a b c d t u e m) (ofM l d t m) := by
  unfold hanaperref19_Of.f ofM
  refine Ev.bind (f := fun k t => _) (find_ref l h20 d) ?_
  by_cases h : (find2 l d).2 = true
  · simp only [if_pos h, miles_ref a b c d t u e m hm, Option.bind_some]
    have hlim := hl _ (find2_mem l d h)
    refine Ev.bind (f := fun k t => _) (ref_When (ms t m) (ms_len t m hm) 100 _ hlim) ?_
    by_cases h2 : (wh (ms t m) (find2 l d).1.f1).2 = true
    · simp only [if_pos h2]; exact Ev.now _
    · simp only [if_neg h2]; exact Ev.now _
  · simp only [if_neg h]; exact Ev.now _
theorem DueOf : hanaperlaw19_DueOf.Pure := by
  intro l r c hl hr hc
  obtain ⟨b, eb, hb⟩ := Small_ev l
  have live := Ev.at live_f
  refine Ev.rounds (g := fun k => hanaperlaw19_DueOf.f k l r.f0 r.f1 r.f2 r.f3 r.f4 r.f5 c.f0 c.f1) ?_
  unfold hanaperlaw19_DueOf.f
  refine Ev.bind (f := fun k t => _) eb ?_
  have out : Ev (fun k => hanaperlaw19_DueOf.j0 k l true r.f0 r.f1 r.f2 r.f3 r.f4 r.f5 c.f0 c.f1) true := by
    refine Ev.step (f := fun k => _) (fun k => by unfold hanaperlaw19_DueOf.j0; rfl) ?_
    simp only [if_true]
    exact Ev.bind (f := fun k t => _) live (Ev.now _)
  cases b
  · simp only [Bool.false_eq_true, if_false]; exact out
  · simp only [if_true]
    obtain ⟨h20, hlim⟩ := hb rfl
    by_cases h : (c.f1.length : Int) > 50
    · simp only [decide_eq_true h]; exact out
    · simp only [decide_eq_false h]
      have hm : c.f1.length ≤ 50 := by omega
      refine Ev.step (f := fun k => _) (fun k => by unfold hanaperlaw19_DueOf.j0; rfl) ?_
      simp only [Bool.false_eq_true, if_false]
      refine Ev.bind (f := fun k t => _) (of_prog l hlim _ _ _ _ _ _ _ _ hm) ?_
      refine Ev.bind (f := fun k t => _) (of_ref l h20 hlim _ _ _ _ _ _ _ _ hm) ?_
      simp only [beq_self_eq_true, if_true]
      refine Ev.bind (f := fun k t => _) (miles_prog _ _ _ _ _ _ _ _ hm) ?_
      simp only [miles_ref _ _ _ _ _ _ _ _ hm, Option.bind_some]
      refine Ev.bind (f := fun k t => _) (same_ev _ (ms_len _ _ hm)) ?_
      simp only [if_true]
      exact Ev.bind (f := fun k t => _) live (Ev.now _)

end Go.Proofs.Ytdpcfamgmicboac.Pure
