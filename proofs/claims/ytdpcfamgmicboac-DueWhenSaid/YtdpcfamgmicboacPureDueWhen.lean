import Derived.Test.YtdpcfamgmicboacStatDueWhen
import Derived.Test.YtdpcfamgmicboacDueP
namespace Go.Proofs.Ytdpcfamgmicboac.Pure
open Go.RowKit Go.Proofs.Ytdpcfamgmicboac.PDue Go.Proofs.YtdpcfamgmicboacW.PrintWords

theorem DueWhen : hanaperlaw19_DueWhen.Pure := by
  intro x m hx hm
  obtain ⟨b, eb, hb⟩ := small_ev x
  have live := Ev.at live_f
  refine Ev.rounds (g := fun k => hanaperlaw19_DueWhen.f k x.f0 x.f1 x.f2 x.f3 m) ?_
  unfold hanaperlaw19_DueWhen.f
  refine Ev.bind (f := fun k t => _) eb ?_
  have out : Ev (fun k => hanaperlaw19_DueWhen.j0 k m true x.f0 x.f1 x.f2 x.f3) true := by
    refine Ev.step (f := fun k => _) (fun k => by unfold hanaperlaw19_DueWhen.j0; rfl) ?_
    simp only [if_true]
    exact Ev.bind (f := fun k t => _) live (Ev.now _)
  cases b
  · simp only [Bool.false_eq_true, if_false]; exact out
  · simp only [if_true]
    by_cases h : (m.length : Int) > 50
    · simp only [decide_eq_true h]; exact out
    · simp only [decide_eq_false h]
      refine Ev.step (f := fun k => _) (fun k => by unfold hanaperlaw19_DueWhen.j0; rfl) ?_
      simp only [Bool.false_eq_true, if_false]
      refine Ev.bind (f := fun k t => _) (Ev.at (When_f m x (hb rfl))) ?_
      refine Ev.bind (f := fun k t => _) (ref_When m (by omega) 100 x (hb rfl)) ?_
      simp only [beq_self_eq_true, if_true]
      exact Ev.bind (f := fun k t => _) live (Ev.now _)

end Go.Proofs.Ytdpcfamgmicboac.Pure
