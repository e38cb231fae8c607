/- How a short array reads, and that it is laid as a list of its elements; no condition beyond each theorem its own. -/
import Derived.Test.YtdpcfamgmicboadOpen
import Derived.OpenShut
import Derived.WideShapes
namespace Go.Proofs.Ytdpcfamgmicboad.Open
open Go.RowKit Go.Proofs.YtdpcfamgmicboadW.PrintWords
section
variable {P : Program} {H : Type} {enc : TypeId × Value → H} {W : World} {sp : Nat → Bool}
/-- Elements as the fields of a struct of n fields of one cell each. -/
def arrF (e : TypeId) : Nat → Nat → List Field
  | _, 0 => []
  | off, n + 1 => ⟨"", e, off, false, "", "", 0⟩ :: arrF e (off + 1) n
theorem arrF_len (e : TypeId) : ∀ n off, (arrF e off n).length = n
  | 0, _ => rfl
  | n + 1, off => by unfold arrF; rw [List.length_cons, arrF_len e n]
theorem arrF_get (e : TypeId) : ∀ n off i x, (arrF e off n)[i]? = some x → x.type = e ∧ x.offset = off + i ∧ i < n
  | 0, _, i, x, h => by simp [arrF] at h
  | n + 1, off, 0, x, h => by
    obtain rfl := Option.some.inj (show some _ = some x from h)
    exact ⟨rfl, rfl, by omega⟩
  | n + 1, off, i + 1, x, h => by
    obtain ⟨h1, h2, h3⟩ := arrF_get e n (off + 1) i x h
    exact ⟨h1, by omega, by omega⟩
theorem arrF_w (e : TypeId) : ∀ n off (ds : List (DataW H)) z, z ∈ DataW.weightsEach P ((arrF e off n).map (·.type)) ds → z ∈ DataW.weightsAll P e ds
  | 0, off, ds, z, h => by
    unfold arrF at h
    cases ds <;> simp [DataW.weightsEach] at h
  | n + 1, off, [], z, h => by simp [arrF, DataW.weightsEach] at h
  | n + 1, off, d :: ds, z, h => by
    unfold arrF at h
    simp only [List.map_cons, DataW.weightsEach, List.mem_append] at h
    simp only [DataW.weightsAll, List.mem_append]
    rcases h with h | h
    · exact .inl h
    · exact .inr (arrF_w e n (off + 1) ds z h)
theorem op_arr {α : Type} {t e : TypeId} {n : Nat} {d : Kd α} {ok : α → Prop} {f : Nat} (hu : P.underlying t = some (.array n e)) (he : P.cellsOf e = 1) (hc : P.cellsOf t = d.sz) (h : OpF enc P W sp (arrF e 0 n) 0 d ok f) : OpAt enc P W sp t d ok (f + 1) := by
  intro cs D ps hr hw
  obtain ⟨xs, m, hm, hx, hl, hxl, hg⟩ := DataW.trod_array hu hr
  obtain rfl : f = m := by omega
  have hx1 : D = .agg (xs.map (·.1)) := congrArg Prod.fst hx
  subst hx1
  obtain ⟨x, hk, ho⟩ := h cs xs (by rw [arrF_len]; exact hxl) (fun i y hy => by
    obtain ⟨h1, h2, h3⟩ := arrF_get e n 0 i y hy
    have := hg i h3
    rw [he, Nat.mul_one] at this
    rw [h1, h2, he, Nat.zero_add]
    exact this) (fun z hz => hw z (by simp only [DataW.weights, hu]; exact arrF_w e n 0 _ z hz))
  rw [List.drop_zero, List.take_of_length_le (by omega)] at hk
  exact ⟨x, hk, ho⟩
theorem okWide_arr {w : World} {r : Reach} {base : Nat} {t e : TypeId} {n : Nat} {v : Value} (ht : P.underlying t = some (.array n e)) (h : Value.okWide P w r base t v) : ∃ cs, v = .agg cs ∧ cs.size = P.cellsOf t := by
  simp only [Value.okWide, ht] at h
  obtain ⟨cs, h1, h2, _⟩ := h
  exact ⟨cs, h1, h2⟩
end
end Go.Proofs.Ytdpcfamgmicboad.Open
