import Derived.Test.YtdpcfamgmicboacStatDueGrows
import Derived.Test.YtdpcfamgmicboacDueP
set_option linter.unusedSimpArgs false
namespace Go.Proofs.Ytdpcfamgmicboac.Pure
open Go.RowKit Go.Proofs.Ytdpcfamgmicboac.PDue Go.Proofs.YtdpcfamgmicboacW.PrintWords Go.Proofs.YtdpcfamgmicboacW.PrintMore

/-- Is there no condition of the kind 3 in it? -/
def pl : S24 → Bool
  | ⟨op, _, _, kids⟩ => kids.attach.all (fun y => pl y.1) && (op != 3)
decreasing_by
  have := List.sizeOf_lt_of_mem y.2
  simp only [S24.mk.sizeOf_spec]
  omega
theorem pl_eq (op d : Int) (n : ByteArray) (kids : List S24) : pl ⟨op, d, n, kids⟩ = (kids.all pl && (op != 3)) := by
  rw [pl]; congr 1
  conv => rhs; rw [← List.attach_map_subtype_val kids]
  rw [List.all_map]; rfl
theorem plain_ev : ∀ d x, lim d x → Ev (fun k => hanaperlaw19_plain.f k x.f0 x.f1 x.f2 x.f3) (pl x)
  | 0, x, h => h.elim
  | d + 1, ⟨op, dd, n, l⟩, h => by
    have hl : l.length ≤ 60 := h.1
    have kids : ∀ j i, l.length - i = j → i ≤ l.length → Ev (fun k => hanaperlaw19_plain.l0 k (i : Int) op dd n l) ((l.drop i).all pl && (op != 3)) := by
      intro j
      induction j with
      | zero =>
        intro i hj hi
        refine Ev.step (f := fun k => _) (fun k => by unfold hanaperlaw19_plain.l0; rfl) ?_
        simp only [if_neg (show ¬ (i : Int) < l.length by omega), List.drop_of_length_le (show l.length ≤ i by omega)]
        exact Ev.now _
      | succ j ih =>
        intro i hj hi
        have hlt : i < l.length := by omega
        have hd := drop_rd24 hlt
        have hm : rd_T24 l (i : Int) ∈ l := List.drop_subset i l (by rw [hd]; exact List.mem_cons_self)
        refine Ev.step (f := fun k => _) (fun k => by unfold hanaperlaw19_plain.l0; rfl) ?_
        simp only [if_pos (show (i : Int) < l.length by omega), if_pos (show 0 ≤ (i : Int) by omega), hd, List.all_cons]
        refine Ev.bind (f := fun k t => _) (plain_ev d _ (h.2 _ hm)) ?_
        by_cases hp : pl (rd_T24 l (i : Int)) = true
        · simp only [if_pos hp, hp, Bool.true_and, w64 (n := (i : Int) + 1) (by omega) (by omega)]
          exact ih (i + 1) (by omega) (by omega)
        · simp only [if_neg hp, Bool.eq_false_iff.mpr hp, Bool.false_and]
          exact Ev.now _
    refine Ev.step (f := fun k => _) (fun k => by unfold hanaperlaw19_plain.f; rfl) ?_
    rw [pl_eq]
    simpa using kids l.length 0 (by omega) (by omega)

theorem fnd_app (nm : ByteArray) (m m2 : List S33) : ∀ t, fnd nm m = some t → fnd nm (m ++ m2) = some t := by
  induction m with
  | nil => intro t h; cases h
  | cons x xs ih =>
    intro t h
    rw [List.cons_append]
    unfold fnd at h ⊢
    split
    · rw [if_pos ‹_›] at h; exact h
    · rw [if_neg ‹_›] at h; exact ih t h
theorem mn_le (a b : Int) : mn a b ≤ a ∧ mn a b ≤ b := by unfold mn; split <;> omega
theorem fold_mn_le : ∀ (l : List Int) (a : Int), l.foldl mn a ≤ a ∧ ∀ y ∈ l, l.foldl mn a ≤ y
  | [], a => ⟨Int.le_refl _, fun _ h => by cases h⟩
  | x :: xs, a => by
    obtain ⟨h1, h2⟩ := fold_mn_le xs (mn a x)
    have := mn_le a x
    refine ⟨by rw [List.foldl_cons]; omega, fun y hy => ?_⟩
    rw [List.foldl_cons]
    rcases List.mem_cons.1 hy with rfl | hy
    · omega
    · exact h2 y hy
theorem fold_mn_mem : ∀ (l : List Int) (a : Int), l.foldl mn a = a ∨ l.foldl mn a ∈ l
  | [], a => .inl rfl
  | x :: xs, a => by
    rw [List.foldl_cons]
    rcases fold_mn_mem xs (mn a x) with h | h
    · rw [h]; unfold mn; split
      · exact .inr List.mem_cons_self
      · exact .inl rfl
    · exact .inr (List.mem_cons_of_mem _ h)
theorem mnl_le (l : List Int) : ∀ y ∈ l, mnl l ≤ y := by
  cases l with
  | nil => exact fun _ h => by cases h
  | cons x xs =>
    intro y hy
    obtain ⟨h1, h2⟩ := fold_mn_le xs x
    rcases List.mem_cons.1 hy with rfl | hy
    · exact h1
    · exact h2 y hy
theorem mnl_mem (l : List Int) (h : l ≠ []) : mnl l ∈ l := by
  cases l with
  | nil => exact absurd rfl h
  | cons x xs =>
    rcases fold_mn_mem xs x with h | h
    · show xs.foldl mn x ∈ _
      rw [h]; exact List.mem_cons_self
    · exact List.mem_cons_of_mem _ h
theorem knw_mem {l : List (Int × Bool)} {t : Int} : t ∈ knw l ↔ (t, true) ∈ l := by
  unfold knw
  simp only [List.mem_map, List.mem_filter]
  constructor
  · rintro ⟨⟨a, b⟩, ⟨h1, h2⟩, rfl⟩
    simp only at h2; subst h2; exact h1
  · intro h; exact ⟨(t, true), ⟨h, rfl⟩, rfl⟩
theorem knw_all {l : List (Int × Bool)} : (knw l).length = l.length ↔ ∀ x ∈ l, x.2 = true := by
  unfold knw
  rw [List.length_map, List.length_filter_eq_length_iff]
theorem aft_known (a b : Int) : (aft a b).2 = true ∨ aft a b = (0, false) := by
  unfold aft
  repeat (split; exact .inr rfl)
  exact .inl rfl
theorem grows (m m2 : List S33) : ∀ x : S24, (wh m x).2 = true → (wh (m ++ m2) x).2 = true ∧ (pl x = true → (wh (m ++ m2) x).1 ≤ (wh m x).1)
  | ⟨op, d, n, kids⟩ => by
    intro hk
    have ih : ∀ y ∈ kids, (wh m y).2 = true → (wh (m ++ m2) y).2 = true ∧ (pl y = true → (wh (m ++ m2) y).1 ≤ (wh m y).1) := fun y hy => grows m m2 y
    rw [wh_eq] at hk
    rw [wh_eq, wh_eq, pl_eq]
    by_cases h1 : op = 1
    · rw [if_pos h1] at hk
      rw [if_pos h1, if_pos h1]
      by_cases h2 : (fndB n m).2 = true
      · rw [if_pos h2] at hk
        have : fndB n (m ++ m2) = fndB n m := by
          unfold fndB at h2 ⊢
          cases hf : fnd n m with
          | none => rw [hf] at h2; cases h2
          | some t => rw [fnd_app n m m2 t hf]
        rw [this, if_pos h2]
        exact ⟨hk, fun _ => Int.le_refl _⟩
      · rw [if_neg h2] at hk; cases hk
    · rw [if_neg h1] at hk
      rw [if_neg h1, if_neg h1]
      have up : ∀ t, t ∈ knw (kids.map (wh m)) → ∃ u, u ∈ knw (kids.map (wh (m ++ m2))) ∧ (kids.all pl = true → u ≤ t) := by
        intro t ht
        obtain ⟨y, hy, e⟩ := List.mem_map.1 (knw_mem.1 ht)
        have hy2 : (wh m y).2 = true := by rw [e]
        obtain ⟨g1, g2⟩ := ih y hy hy2
        refine ⟨(wh (m ++ m2) y).1, knw_mem.2 (List.mem_map.2 ⟨y, hy, by rw [← g1]⟩), fun hp => ?_⟩
        have := g2 (List.all_eq_true.1 hp y hy)
        rw [e] at this; exact this
      unfold comb at hk ⊢
      by_cases h2 : knw (kids.map (wh m)) = []
      · rw [if_pos h2] at hk; cases hk
      · rw [if_neg h2] at hk
        rw [if_neg h2]
        have hmem := mnl_mem _ h2
        obtain ⟨u, hu, hle⟩ := up _ hmem
        have h2' : knw (kids.map (wh (m ++ m2))) ≠ [] := fun h => by rw [h] at hu; cases hu
        rw [if_neg h2']
        by_cases h3 : op = 2
        · rw [if_pos h3, if_pos h3]
          refine ⟨rfl, fun hp => ?_⟩
          have hp1 := (Bool.and_eq_true_iff.1 hp).1
          exact Int.le_trans (mnl_le _ u hu) (hle hp1)
        · rw [if_neg h3] at hk
          rw [if_neg h3, if_neg h3]
          by_cases h4 : op = 3
          · rw [if_pos h4] at hk
            rw [if_pos h4, if_pos h4]
            by_cases h5 : (knw (kids.map (wh m))).length = (kids.map (wh m)).length
            · rw [if_pos h5]
              have hall := knw_all.1 h5
              have : (knw (kids.map (wh (m ++ m2)))).length = (kids.map (wh (m ++ m2))).length := knw_all.2 (by
                intro x hx
                obtain ⟨y, hy, rfl⟩ := List.mem_map.1 hx
                exact (ih y hy (hall _ (List.mem_map.2 ⟨y, hy, rfl⟩))).1)
              rw [if_pos this]
              exact ⟨rfl, fun hp => by have := (Bool.and_eq_true_iff.1 hp).2; rw [h4] at this; cases this⟩
            · rw [if_neg h5] at hk; cases hk
          · rw [if_neg h4] at hk; cases hk
decreasing_by
  have := List.sizeOf_lt_of_mem hy
  simp only [S24.mk.sizeOf_spec]
  omega

theorem DueGrows : hanaperlaw19_DueGrows.Pure := by
  intro x m m2 hx hm hm2
  obtain ⟨b, eb, hb⟩ := small_ev x
  have live := Ev.at live_f
  refine Ev.rounds (g := fun k => hanaperlaw19_DueGrows.f k x.f0 x.f1 x.f2 x.f3 m m2) ?_
  unfold hanaperlaw19_DueGrows.f
  refine Ev.bind (f := fun k t => _) eb ?_
  have out : Ev (fun k => hanaperlaw19_DueGrows.j0 k m m2 true x.f0 x.f1 x.f2 x.f3) true := by
    refine Ev.step (f := fun k => _) (fun k => by unfold hanaperlaw19_DueGrows.j0; rfl) ?_
    simp only [if_true]
    exact Ev.bind (f := fun k t => _) live (Ev.now _)
  cases b
  · simp only [Bool.false_eq_true, if_false]; exact out
  · simp only [if_true]
    by_cases h : (m.length : Int) > 50
    · simp only [if_pos h]; exact out
    · simp only [if_neg h]
      by_cases h' : (m2.length : Int) > 50
      · simp only [decide_eq_true h']; exact out
      · simp only [decide_eq_false h']
        refine Ev.step (f := fun k => _) (fun k => by unfold hanaperlaw19_DueGrows.j0; rfl) ?_
        simp only [Bool.false_eq_true, if_false, Option.bind_some, List.nil_append, List.length_nil, if_pos (show 0 + m.length < 5864062014805 by omega), if_pos (show m.length + m2.length < 5864062014805 by omega)]
        refine Ev.bind (f := fun k t => _) (Ev.at (When_f m x (hb rfl))) ?_
        refine Ev.bind (f := fun k t => _) (Ev.at (When_f (m ++ m2) x (hb rfl))) ?_
        have hg := grows m m2 x
        by_cases hk : (wh m x).2 = true
        · obtain ⟨g1, g2⟩ := hg hk
          simp only [if_pos hk, if_pos g1]
          refine Ev.bind (f := fun k t => _) (plain_ev 100 x (hb rfl)) ?_
          by_cases hp : pl x = true
          · simp only [if_pos hp, if_pos (g2 hp)]
            exact Ev.bind (f := fun k t => _) live (Ev.now _)
          · simp only [if_neg hp]
            exact Ev.bind (f := fun k t => _) live (Ev.now _)
        · simp only [if_neg hk]
          exact Ev.bind (f := fun k t => _) live (Ev.now _)

end Go.Proofs.Ytdpcfamgmicboac.Pure
