/- What an argument reads as, as a kind of the print's words: integers, bools, strings, slices, structs, structs nested in themselves.; no condition beyond each theorem its own. -/
import Derived.Test.YtafigkikblpbnaaGreatDoorZC01
import Derived.ChangeArms
import Derived.SizedLaws
import Derived.ChangeSlices
namespace Go.Proofs.YtafigkikblpbnaaGreatDoor.Open
open Go.RowKit Go.Proofs.YtafigkikblpbnaaGreatDoorW.PrintWords

section
variable {H : Type} (enc : TypeId × Value → H) (P : Program) (W : World) (sp : Nat → Bool)

/-- Whatever reads as a datum of type t, with so much fuel, is a value of the kind d. -/
def OpAt {α : Type} (t : TypeId) (d : Kd α) (ok : α → Prop) (f : Nat) : Prop :=
  ∀ cs D ps, DataW.trod enc P W 0 sp true f t cs = some (D, ps) → (∀ x ∈ DataW.weights P t D, x ≤ reachBytes) → ∃ x, d.K W x cs ∧ ok x
variable {enc P W sp}

theorem op_int {t : TypeId} {k : IntKind} (hu : P.underlying t = some (.int k)) (f : Nat) : OpAt enc P W sp t (Kd.int k) (fun n => (Lit.int k n).wf = true) f := by
  intro cs D ps h _
  obtain ⟨n, rfl, _, hw⟩ := DataW.trod_int hu h
  exact ⟨n, rfl, hw⟩
theorem op_bool {t : TypeId} (hu : P.underlying t = some .bool) (f : Nat) : OpAt enc P W sp t Kd.bool (fun _ => True) f := by
  intro cs D ps h _
  obtain ⟨b, rfl, _⟩ := DataW.trod_bool hu h
  exact ⟨b, rfl, trivial⟩
theorem op_string {t : TypeId} (hu : P.underlying t = some .string) (f : Nat) : OpAt enc P W sp t Kd.string (fun s => s.size ≤ 140737488351232) f := by
  intro cs D ps h hw
  obtain ⟨s, rfl, e, _⟩ := DataW.trod_string hu h
  cases e
  refine ⟨s, rfl, ?_⟩
  have := hw s.data.toList.length (by simp [DataW.weights])
  simpa [reachBytes] using this
theorem op_iso {α β : Type} {t : TypeId} {d : Kd α} {ok : α → Prop} {f : Nat} (h : OpAt enc P W sp t d ok f) (g : β → α) (ok' : β → Prop) (hg : ∀ y, ok y → ∃ x, g x = y ∧ ok' x) : OpAt enc P W sp t (Kd.iso d g) ok' f := by
  intro cs D ps hr hw
  obtain ⟨y, hk, ho⟩ := h cs D ps hr hw
  obtain ⟨x, rfl, hx⟩ := hg y ho
  exact ⟨x, hk, hx⟩

theorem listed {α : Type} {p : Nat → α → Prop} : ∀ n, (∀ i, i < n → ∃ x, p i x) → ∃ xs : List α, xs.length = n ∧ ∀ i x, xs[i]? = some x → p i x
  | 0, _ => ⟨[], rfl, fun i x h => by simp at h⟩
  | n + 1, h => by
    obtain ⟨xs, hl, hx⟩ := listed n (fun i hi => h i (by omega))
    obtain ⟨x, hp⟩ := h n (by omega)
    refine ⟨xs ++ [x], by simp [hl], fun i y hy => ?_⟩
    rcases Nat.lt_trichotomy i n with hi | hi | hi
    · rw [List.getElem?_append_left (by omega)] at hy
      exact hx i y hy
    · subst hi
      rw [List.getElem?_append_right (by omega), hl, Nat.sub_self] at hy
      simp at hy
      subst hy
      exact hp
    · rw [List.getElem?_eq_none (by simp; omega)] at hy
      cases hy

theorem add_add' (a : Addr) (n m : Nat) : (a.add n).add m = a.add (n + m) := by
  unfold Addr.add
  repeat' split
  all_goals simp_all
  all_goals omega

theorem cells_get {base : Nat} {a : Addr} {n : Nat} {c : List Value} (h : W.cells? base a n = some c) : c.length = n ∧ ∀ i u, c[i]? = some u → W.cell? (a.add i) = some u := by
  unfold World.cells? at h
  split at h
  · have hl : c.length = n := by simpa using mapM_some_length h
    refine ⟨hl, fun i u hu => ?_⟩
    have hi : i < n := by
      have := (List.getElem?_eq_some_iff.1 hu).1
      omega
    have := mapM_some_get h i i (by simp [hi])
    rw [this, hu]
  · cases h

theorem weights_all {e : TypeId} {l : List (DataW H)} {x : Nat} {d : DataW H} (hd : d ∈ l) (hx : x ∈ DataW.weights P e d) : x ∈ DataW.weightsAll P e l := by
  induction l with
  | nil => cases hd
  | cons y l ih =>
    simp only [DataW.weightsAll, List.mem_append]
    rcases List.mem_cons.1 hd with rfl | hd
    · exact .inl hx
    · exact .inr (ih hd)

theorem op_slice {α : Type} {t e : TypeId} {d : Kd α} {ok : α → Prop} {f : Nat} {B : Nat} (hu : P.underlying t = some (.slice e)) (hc : P.cellsOf e = d.sz) (hB : P.bytesOf e = B) (q : Nat) (h : ∀ g, g < f → OpAt enc P W sp e d ok g) :
    OpAt enc P W sp t (Kd.slice q d) (fun xs => xs.length * B ≤ 140737488351232 ∧ xs.length ≤ maxLen ∧ ∀ x ∈ xs, ok x) f := by
  intro cs D ps hr hw
  rcases DataW.trod_slice hu hr with ⟨rfl, hx⟩ | ⟨a, len, cap, elems, rest, n, hn, rfl, hx, _, hl, hm, hel, hget, _, _⟩
  · exact ⟨[], ⟨none, 0, rfl, Nat.le_refl _, rfl, by simp, fun hp => absurd hp (by simp)⟩, by simp, by simp [maxLen], fun x hx => by cases hx⟩
  · have hx1 : D = .slice (elems.map (·.1)) (rest.map (·.1)) := congrArg Prod.fst hx
    have h := h n (by omega)
    subst hx1
    have hone : ∀ i, i < len → ∃ x : α, (∃ c, c.length = d.sz ∧ d.K W x c ∧ ∀ j u, c[j]? = some u → W.cell? (a.add (i * d.sz + j)) = some u) ∧ ok x := by
      intro i hi
      have hg := hget i hi
      have hs : elems[i]? = some (elems[i]'(by omega)) := List.getElem?_eq_getElem (by omega)
      rw [hs] at hg
      obtain ⟨c, hc1, hc2⟩ := Option.bind_eq_some_iff.1 hg
      obtain ⟨x, hk, ho⟩ := h c _ _ hc2 (fun y hy => hw y (by
        simp only [DataW.weights, hu, List.mem_cons, List.mem_append]
        exact .inr (.inl (weights_all (List.mem_map.2 ⟨_, List.getElem_mem (by omega), rfl⟩) hy))))
      obtain ⟨hl1, hl2⟩ := cells_get hc1
      rw [hc] at hl1 hl2
      exact ⟨x, ⟨c, hl1, hk, fun j u hj => by rw [← add_add']; exact hl2 j u hj⟩, ho⟩
    obtain ⟨xs, hxl, hxp⟩ := listed len hone
    have hwt := hw ((elems.length + rest.length) * P.bytesOf e) (by simp [DataW.weights, hu])
    have hwt' : (elems.length + rest.length) * B ≤ 140737488351232 := by rw [← hB]; simpa [reachBytes] using hwt
    have hm' : cap ≤ 9223372036854775807 := by simpa [maxLen] using hm
    refine ⟨xs, ⟨some a, cap, by rw [hxl], by omega, rfl, by omega, fun _ => ⟨a, rfl, fun j p hp => (hxp j p hp).1⟩⟩, ?_, ?_, fun x hx => ?_⟩
    · exact Nat.le_trans (Nat.mul_le_mul_right B (by omega)) hwt'
    · rw [hxl]; exact Nat.le_trans hl hm
    · obtain ⟨i, hi, rfl⟩ := List.mem_iff_getElem.1 hx
      exact (hxp i _ (List.getElem?_eq_getElem hi)).2

variable (enc P W sp)
/-- The fields of a struct, from one on. -/
def OpF {α : Type} (fs : List Field) (off : Nat) (d : Kd α) (ok : α → Prop) (f : Nat) : Prop :=
  ∀ (cs : List Value) (xs : List (DataW H × List MemPlace)), xs.length = fs.length → (∀ (i : Nat) (x : Field), fs[i]? = some x → DataW.trod enc P W 0 sp true f x.type ((cs.drop x.offset).take (P.cellsOf x.type)) = xs[i]?) →
    (∀ x ∈ DataW.weightsEach P (fs.map (·.type)) (xs.map (·.1)), x ≤ reachBytes) → ∃ x, d.K W x ((cs.drop off).take d.sz) ∧ ok x
variable {enc P W sp}
theorem opf_one {α : Type} {x : Field} {off : Nat} {d : Kd α} {ok : α → Prop} {f : Nat} (ho : x.offset = off) (hc : P.cellsOf x.type = d.sz) (h : OpAt enc P W sp x.type d ok f) : OpF enc P W sp [x] off d ok f := by
  intro cs xs hl hg hw
  match xs, hl with
  | [y], _ =>
    have g := hg 0 x rfl
    rw [ho, hc] at g
    exact h _ y.1 y.2 g (fun z hz => hw z (by simp only [List.map_cons, List.map_nil, DataW.weightsEach, List.append_nil]; exact hz))
theorem opf_pair {α β : Type} {x : Field} {fs : List Field} {off off' : Nat} {a : Kd α} {b : Kd β} {ok : α → Prop} {ok' : β → Prop} {f : Nat} (ho : x.offset = off) (hc : P.cellsOf x.type = a.sz) (ho' : off' = off + a.sz)
    (h : OpAt enc P W sp x.type a ok f) (h' : OpF enc P W sp fs off' b ok' f) : OpF enc P W sp (x :: fs) off (Kd.pair a b) (fun y => ok y.1 ∧ ok' y.2) f := by
  intro cs xs hl hg hw
  match xs, hl with
  | y :: ys, hl =>
    have g := hg 0 x rfl
    rw [ho, hc] at g
    obtain ⟨u, hu, hou⟩ := h _ y.1 y.2 g (fun z hz => hw z (by simp only [List.map_cons, DataW.weightsEach, List.mem_append]; exact .inl hz))
    obtain ⟨v, hv, hov⟩ := h' cs ys (by simpa using hl) (fun i z hz => hg (i + 1) z hz) (fun z hz => hw z (by simp only [List.map_cons, DataW.weightsEach, List.mem_append]; exact .inr hz))
    refine ⟨(u, v), ⟨_, _, ?_, hu, hv⟩, hou, hov⟩
    subst ho'
    show List.take (a.sz + b.sz) (cs.drop off) = _
    rw [List.take_add, List.drop_drop]
theorem op_struct {α : Type} {t : TypeId} {fs : Array Field} {d : Kd α} {ok : α → Prop} {f : Nat} (hu : P.underlying t = some (.struct fs)) (hc : P.cellsOf t = d.sz) (h : OpF enc P W sp fs.toList 0 d ok f) : OpAt enc P W sp t d ok (f + 1) := by
  intro cs D ps hr hw
  obtain ⟨xs, n, hn, hx, hl, hxl, hg⟩ := DataW.trod_struct hu hr
  obtain rfl : f = n := by omega
  have hx1 : D = .agg (xs.map (·.1)) := congrArg Prod.fst hx
  subst hx1
  obtain ⟨x, hk, ho⟩ := h cs xs (by simpa using hxl) (fun i y hy => hg i y (by simpa using hy)) (fun z hz => hw z (by simp only [DataW.weights, hu]; exact hz))
  rw [List.drop_zero, List.take_of_length_le (by omega)] at hk
  exact ⟨x, hk, ho⟩

theorem op_zero {α : Type} {t : TypeId} {d : Kd α} {ok : α → Prop} : OpAt enc P W sp t d ok 0 := by
  intro cs D ps h _
  simp [DataW.trod] at h
/-- With all fuels: by steps of one. -/
theorem op_all {α : Type} {t : TypeId} {d : Kd α} {ok : α → Prop} (h : ∀ f, OpAt enc P W sp t d ok (f + 1)) : ∀ f, OpAt enc P W sp t d ok f
  | 0 => op_zero
  | f + 1 => h f
/-- A struct that is nested in itself. -/
theorem op_fix {α : Type} {t : TypeId} {F : Kd α → Kd α} {sz : Nat} {E : List Nat} {hs : ∀ n, (Kd.upto F sz E n).sz = sz} {hE : ∀ n q, q ∈ (Kd.upto F sz E n).E → q ∈ E} {ok : α → Prop} (hm : Kd.Mono F)
    (hF : ∀ (d : Kd α) (f : Nat), d.sz = sz → (∀ g, g ≤ f → OpAt enc P W sp t d ok g) → OpAt enc P W sp t (F d) ok (f + 1)) : ∀ f, OpAt enc P W sp t (Kd.fix F sz E hs hE) ok f := by
  have key : ∀ f, ∀ g, g ≤ f → OpAt enc P W sp t (Kd.upto F sz E f) ok g := by
    intro f
    induction f with
    | zero =>
      intro g hg
      obtain rfl : g = 0 := by omega
      exact op_zero
    | succ f ih =>
      intro g hg
      by_cases hgf : g ≤ f
      · intro cs D ps hr hw
        obtain ⟨x, hk, ho⟩ := ih g hgf cs D ps hr hw
        exact ⟨x, Kd.upto_K hm hs f hk, ho⟩
      · obtain rfl : g = f + 1 := by omega
        exact hF _ f (hs f) ih
  intro f cs D ps hr hw
  obtain ⟨x, hk, ho⟩ := key f f (Nat.le_refl _) cs D ps hr hw
  exact ⟨x, ⟨f, hk⟩, ho⟩
end

/-- An argument. -/
theorem opened {H : Type} {enc : TypeId × Value → H} {P : Program} {W : World} {sp : Nat → Bool} {α : Type} {t : TypeId} {d : Kd α} {ok : α → Prop} {v : Value} {D : DataW H} {ps : List MemPlace} {ts : List TypeId} {ds : List (DataW H)} {j : Nat}
    (h : ∀ f, OpAt enc P W sp t d ok f) (hr : DataW.Trod enc P W 0 sp true t v D ps) (hsz : (DataW.weightsEach P ts ds).all (· ≤ reachBytes) = true) (ht : ts[j]? = some t) (hd : ds[j]? = some D) : ∃ x, d.K W x v.cells.toList ∧ ok x := by
  obtain ⟨f, hf⟩ := hr
  refine h f _ _ _ hf fun x hx => ?_
  have := List.all_eq_true.1 hsz _ (DataW.weights_mem_each ht hd x hx)
  simpa using this
end Go.Proofs.YtafigkikblpbnaaGreatDoor.Open
