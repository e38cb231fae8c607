/- Names in order, and what the walk over the records keeps; no condition beyond each theorem its own. -/
import Derived.Sort.OwnSorted
import Derived.Test.YtafigkikblpbnaaGreatDoorZC17
import Derived.Test.YtafigkikblpbnaaGreatDoorZC08
namespace Go.Proofs.YtafigkikblpbnaaGreatDoor.PG
open Go.RowKit Go.Proofs.YtafigkikblpbnaaGreatDoorW.PrintWords Go.Proofs.YtafigkikblpbnaaGreatDoorW.PrintLast Go.Proofs.YtafigkikblpbnaaGreatDoorW.PrintMore
set_option linter.unusedVariables false
set_option linter.unusedSimpArgs false
set_option maxRecDepth 100000
theorem toList_inj {a b : ByteArray} (h : a.toList = b.toList) : a = b := by
  rw [ByteArray.toList_eq, ByteArray.toList_eq] at h
  obtain ⟨a⟩ := a
  obtain ⟨b⟩ := b
  have h2 : a = b := Array.toList_inj.1 h
  rw [h2]
/-- Names in order. -/
def ordN (l : List ByteArray) : List ByteArray := ((l.map (·.data.toList)).mergeSort fun x y => decide (x ≤ y)).map (fun x => ⟨x.toArray⟩)
theorem ordN_perm (l : List ByteArray) : (ordN l).Perm l := by
  have h := (List.mergeSort_perm (l.map (·.data.toList)) (fun x y => decide (x ≤ y))).map (fun x => (⟨x.toArray⟩ : ByteArray))
  rw [List.map_map] at h
  exact h.trans (List.Perm.of_eq (by rw [show ((fun x => (⟨x.toArray⟩ : ByteArray)) ∘ fun x : ByteArray => x.data.toList) = id from rfl, List.map_id]))
/-- The classes that occur, each once, as they come. -/
noncomputable def nms (s : S31) : Nat → List ByteArray
  | 0 => []
  | n + 1 => @ite _ ((rd_T48 s.f5 (n : Int)).f3 ∈ nms s n) (Classical.propDecidable _) (nms s n) (nms s n ++ [(rd_T48 s.f5 (n : Int)).f3])
theorem nms_old {s : S31} {n : Nat} (h : (rd_T48 s.f5 (n : Int)).f3 ∈ nms s n) : nms s (n + 1) = nms s n := if_pos h
theorem nms_new {s : S31} {n : Nat} (h : (rd_T48 s.f5 (n : Int)).f3 ∉ nms s n) : nms s (n + 1) = nms s n ++ [(rd_T48 s.f5 (n : Int)).f3] := if_neg h
theorem nms_len (s : S31) : ∀ n, (nms s n).length ≤ n
  | 0 => Nat.le_refl _
  | n + 1 => by
    have := nms_len s n
    unfold nms
    split
    · omega
    · rw [List.length_append]; simp; omega
theorem nms_mem (s : S31) : ∀ n, n ≤ s.f5.length → ∀ c ∈ nms s n, ∃ r ∈ s.f5, r.f3 = c
  | 0, _, c, h => absurd h List.not_mem_nil
  | n + 1, hn, c, h => by
    by_cases hc : (rd_T48 s.f5 (n : Int)).f3 ∈ nms s n
    · rw [nms_old hc] at h
      exact nms_mem s n (by omega) c h
    · rw [nms_new hc, List.mem_append] at h
      rcases h with h | h
      · exact nms_mem s n (by omega) c h
      · rw [List.mem_singleton] at h
        refine ⟨rd_T48 s.f5 (n : Int), ?_, h.symm⟩
        have : rd_T48 s.f5 (n : Int) = s.f5[n] := by unfold rd_T48; rw [Int.toNat_natCast, List.getD_eq_getElem?_getD, List.getElem?_eq_getElem (by omega)]; rfl
        rw [this]
        exact List.getElem_mem _
theorem rd_mem48 {l : List S48} {k : Nat} (h : k < l.length) : rd_T48 l (k : Int) ∈ l := by
  have : rd_T48 l (k : Int) = l[k] := by unfold rd_T48; rw [Int.toNat_natCast, List.getD_eq_getElem?_getD, List.getElem?_eq_getElem h]; rfl
  rw [this]
  exact List.getElem_mem h
/-- The cells of a tally. -/
abbrev tal (f : Int → Nat) : Obj := .cells #[.int .i64 (f 1 : Nat), .int .i64 (f 2 : Nat), .int .i64 (f 3 : Nat), .int .i64 (f 4 : Nat)] 65 (0, 0)
theorem stN_all (s : S31) (k : Nat) (hk : k < s.f5.length) (c : ByteArray) : stN (cls true c) (s.f5.take (k + 1)) = bump (stN (cls true c) (s.f5.take k)) (rd_T48 s.f5 (k : Int)).f5 := by
  funext j
  rw [take_rd48 hk, stN_snoc]
  unfold bump cls
  by_cases h : (rd_T48 s.f5 (k : Int)).f5 = j
  · simp [h]
  · simp [h, Ne.symm h]
theorem stN_own (s : S31) (k : Nat) (hk : k < s.f5.length) : stN (cls false (rd_T48 s.f5 (k : Int)).f3) (s.f5.take (k + 1)) = bump (stN (cls false (rd_T48 s.f5 (k : Int)).f3) (s.f5.take k)) (rd_T48 s.f5 (k : Int)).f5 := by
  funext j
  rw [take_rd48 hk, stN_snoc]
  unfold bump cls
  by_cases h : (rd_T48 s.f5 (k : Int)).f5 = j
  · simp [h]
  · simp [h, Ne.symm h]
theorem stN_other (s : S31) (k : Nat) (hk : k < s.f5.length) (c : ByteArray) (hc : (rd_T48 s.f5 (k : Int)).f3 ≠ c) : stN (cls false c) (s.f5.take (k + 1)) = stN (cls false c) (s.f5.take k) := by
  funext j
  rw [take_rd48 hk, stN_snoc]
  have : ((rd_T48 s.f5 (k : Int)).f3.toList == c.toList) = false := by rw [beq_eq_false_iff_ne]; exact fun e => hc (toList_inj e)
  simp [cls, this]
theorem stN_fresh (s : S31) : ∀ (k : Nat), k ≤ s.f5.length → ∀ c, c ∉ nms s k → stN (cls false c) (s.f5.take k) = fun _ => 0
  | 0, _, c, _ => by funext j; simp [stN]
  | k + 1, hk, c, hc => by
    by_cases h : (rd_T48 s.f5 (k : Int)).f3 ∈ nms s k
    · rw [nms_old h] at hc
      rw [stN_other s k (by omega) c (fun e => hc (e ▸ h))]
      exact stN_fresh s k (by omega) c hc
    · rw [nms_new h, List.mem_append, List.mem_singleton] at hc
      rw [stN_other s k (by omega) c (fun e => hc (.inr e.symm))]
      exact stN_fresh s k (by omega) c (fun e => hc (.inl e))
/-- For each class there is a tally of its own, that holds what was counted. -/
structure TL (s : S31) (w : World) (lo k : Nat) (T : ByteArray → Option Nat) : Prop where
  no : ∀ c, c ∉ nms s k → T c = none
  yes : ∀ c ∈ nms s k, ∃ g, T c = some g ∧ lo ≤ g ∧ w.heap[g]? = some (tal (stN (cls false c) (s.f5.take k)))
  inj : ∀ c c' g, T c = some g → T c' = some g → c = c'
theorem TL.none_ (s : S31) (w : World) (lo : Nat) : TL s w lo 0 (fun _ => none) := ⟨fun _ _ => rfl, fun c h => absurd h List.not_mem_nil, fun _ _ _ h => by cases h⟩
theorem TL.some_ {s : S31} {w : World} {lo k : Nat} {T : ByteArray → Option Nat} (h : TL s w lo k T) {c : ByteArray} {g : Nat} (hg : T c = some g) : c ∈ nms s k ∧ lo ≤ g ∧ w.heap[g]? = some (tal (stN (cls false c) (s.f5.take k))) := by
  by_cases hc : c ∈ nms s k
  · obtain ⟨g', h1, h2, h3⟩ := h.yes c hc
    rw [h1] at hg
    injection hg with hg
    subst hg
    exact ⟨hc, h2, h3⟩
  · rw [h.no c hc] at hg
    cases hg
/-- Blocks that are not touched. -/
theorem TL.move {s : S31} {w w1 : World} {lo k : Nat} {T : ByteArray → Option Nat} (h : TL s w lo k T) (hm : ∀ g f, lo ≤ g → w.heap[g]? = some (tal f) → w1.heap[g]? = w.heap[g]?) : TL s w1 lo k T :=
  ⟨h.no, fun c hc => by obtain ⟨g, h1, h2, h3⟩ := h.yes c hc; exact ⟨g, h1, h2, (hm g _ h2 h3).trans h3⟩, h.inj⟩
/-- A record of a class that occurs. -/
theorem TL.add {s : S31} {w w1 : World} {lo k : Nat} {T : ByteArray → Option Nat} (h : TL s w lo k T) (hk : k < s.f5.length) {g : Nat} (hg : T (rd_T48 s.f5 (k : Int)).f3 = some g)
    (hn : w1.heap[g]? = some (tal (bump (stN (cls false (rd_T48 s.f5 (k : Int)).f3) (s.f5.take k)) (rd_T48 s.f5 (k : Int)).f5))) (hm : ∀ b f, lo ≤ b → b ≠ g → w.heap[b]? = some (tal f) → w1.heap[b]? = w.heap[b]?) : TL s w1 lo (k + 1) T := by
  have hs := h.some_ hg
  refine ⟨fun c hc => h.no c (by rwa [nms_old hs.1] at hc), fun c hc => ?_, h.inj⟩
  rw [nms_old hs.1] at hc
  obtain ⟨b, h1, h2, h3⟩ := h.yes c hc
  by_cases e : (rd_T48 s.f5 (k : Int)).f3 = c
  · subst e
    rw [hg] at h1
    injection h1 with h1
    subst h1
    exact ⟨g, hg, h2, by rw [stN_own s k hk]; exact hn⟩
  · refine ⟨b, h1, h2, ?_⟩
    rw [stN_other s k hk c e, hm b _ h2 (fun eb => e ?_) h3]
    · exact h3
    · subst eb
      exact h.inj _ _ _ hg h1
/-- A class that is new. -/
theorem TL.new {s : S31} {w w1 : World} {lo k : Nat} {T : ByteArray → Option Nat} (h : TL s w lo k T) (hk : k < s.f5.length) (hc : (rd_T48 s.f5 (k : Int)).f3 ∉ nms s k) {g : Nat} (hlo : lo ≤ g) (hw : w.heap.size ≤ g)
    (hn : w1.heap[g]? = some (tal (bump (fun _ => 0) (rd_T48 s.f5 (k : Int)).f5))) (hm : ∀ b f, lo ≤ b → b ≠ g → w.heap[b]? = some (tal f) → w1.heap[b]? = w.heap[b]?) : TL s w1 lo (k + 1) (fun t => if t = (rd_T48 s.f5 (k : Int)).f3 then some g else T t) := by
  have hlt : ∀ {c b}, T c = some b → b < g := fun {c b} e => by
    have := blk_lt (h.some_ e).2.2
    omega
  refine ⟨fun c h1 => ?_, fun c h1 => ?_, fun c c' b h1 h2 => ?_⟩
  · rw [nms_new hc, List.mem_append, List.mem_singleton] at h1
    show (if _ then _ else _) = _
    rw [if_neg (fun e => h1 (.inr e))]
    exact h.no c (fun e => h1 (.inl e))
  · by_cases e : c = (rd_T48 s.f5 (k : Int)).f3
    · subst e
      refine ⟨g, if_pos rfl, hlo, ?_⟩
      rw [stN_own s k hk, stN_fresh s k (by omega) _ hc]
      exact hn
    · rw [nms_new hc, List.mem_append, List.mem_singleton] at h1
      obtain ⟨b, g1, g2, g3⟩ := h.yes c (h1.resolve_right e)
      refine ⟨b, (if_neg e).trans g1, g2, ?_⟩
      rw [stN_other s k hk c (Ne.symm e), hm b _ g2 (fun eb => by have := hlt g1; omega) g3]
      exact g3
  · by_cases e : c = (rd_T48 s.f5 (k : Int)).f3
    · rw [if_pos e] at h1
      injection h1 with h1
      by_cases e' : c' = (rd_T48 s.f5 (k : Int)).f3
      · rw [e, e']
      · rw [if_neg e'] at h2
        have := hlt h2
        omega
    · rw [if_neg e] at h1
      by_cases e' : c' = (rd_T48 s.f5 (k : Int)).f3
      · rw [if_pos e'] at h2
        injection h2 with h2
        have := hlt h1
        omega
      · rw [if_neg e'] at h2
        exact h.inj _ _ _ h1 h2
/-- A line of a class. -/
def lnC (s : S31) (c : ByteArray) : ByteArray := (⟨#[99, 108, 97, 115, 115, 32]⟩ : ByteArray) ++ c ++ (⟨#[32]⟩ : ByteArray) ++ tx4 (stN (cls false c) s.f5)
/-- What is told of a state: class by class, and of all. -/
noncomputable def lnL (s : S31) : List ByteArray := (ordN (nms s s.f5.length)).map (lnC s) ++ [(⟨#[97, 108, 108, 32]⟩ : ByteArray) ++ tx4 (stN (cls true ⟨#[]⟩) s.f5)]
theorem ordN_len (l : List ByteArray) : (ordN l).length = l.length := (ordN_perm l).length_eq
theorem ordN_nil : ordN [] = [] := List.length_eq_zero_iff.1 (ordN_len [])
theorem tx4_size (f : Int → Nat) : (tx4 f).size ≤ 83 := by
  have h1 := tellS_size (f 1)
  have h2 := tellS_size (f 2)
  have h3 := tellS_size (f 3)
  have h4 := tellS_size (f 4)
  have zs : (⟨#[32]⟩ : ByteArray).size = 1 := rfl
  unfold tx4
  simp only [ByteArray.size_append, zs]
  omega
theorem stN_le2 (P : S48 → Bool) (l : List S48) (j : Int) (n : Nat) (h : l.length ≤ n) : stN P l j ≤ n := Nat.le_trans (stN_le P l j) h
/-- A new world that only has more: grown by nothing. -/
theorem grown_of_below {w w' : World} (h : Below w.heap.size w w') (row : Option Nat) : w.grownBy w' row := ⟨h.os, h.tape, h.output, h.size, fun k hk _ => h.block k hk⟩
/-- slices.Sort over a row of names of the call's own. -/
theorem sort_any {w : World} {base : Nat} {ok : Nat → Prop} {v : Value} {l : List ByteArray} (h : Kd.R Kd.string 9 w base ok v l) (hl : l.length ≤ 1000000) :
    Calls Tryz.prog 29 #[v] w fun e w' => e = .returned (.tuple #[]) ∧ Kd.R Kd.string 9 w' base ok v (ordN l) ∧ w.grownBy w' v.ownBlock := by
  rcases Nat.eq_zero_or_pos l.length with h0 | hp
  · obtain ⟨A, c, rfl⟩ := Kd.R_slice h
    have hn : l = [] := List.length_eq_zero_iff.1 h0
    subst hn
    refine (Tryz.slices_Sort_string_none A c w).mono ?_
    rintro e w' ⟨rfl, rfl⟩
    exact ⟨rfl, by rw [ordN_nil]; exact h, grown_of_below (Below.refl _ _) _⟩
  · obtain ⟨g, cap, rfl, _, hlt, _⟩ := Kd.R_form h hp
    have ho := Kd.own_of_R h
    rcases ho.2 with ⟨hnil, _⟩ | ⟨g', cap', cur, hv, hbase, hb, h1, h2, h3, h4⟩
    · cases hnil
    cases hv
    have hm : encs Value.string l = (l.map (·.data.toList)).map encStr := by
      unfold encs
      rw [List.map_map]
      rfl
    have hlm : (l.map (·.data.toList)).length = l.length := List.length_map _
    have hH := holds_of_block (ss := l.map (·.data.toList)) hb (by rw [hlm, ← hm]; simpa using h4)
    have hS := Tryz.slices_Sort_string g 0 cap (l.map (·.data.toList)) w hH hlt (by rw [hlm]; omega)
    rw [hlm] at hS
    refine hS.mono ?_
    rintro e w' ⟨rfl, n, os, rfl⟩
    refine ⟨rfl, ?_, grownBy_sorted _⟩
    have hts : ((l.map (·.data.toList)).mergeSort fun x y => decide (x ≤ y)).length = (l.map (·.data.toList)).length := by simp
    have hw := ownsRow_sorted (n := n) (os := os) hts hbase hb (by rw [hlm]; exact h1) h2 h3
    rw [hlm] at hw
    have he : (((l.map (·.data.toList)).mergeSort fun x y => decide (x ≤ y)).map encStr) = encs Value.string (ordN l) := by
      unfold encs ordN
      rw [List.map_map]
      rfl
    rw [he] at hw
    have hr := Kd.R_of_own (h1 := fun _ => rfl) (ok := ok) (xs := ordN l) (by rw [ordN_len]; exact hw) h.1
    exact hr
/-- What the walk over the records keeps. -/
structure LRel (s : S31) (W1 : World) (B k : Nat) (T : ByteArray → Option Nat) (v : Value) (w : World) : Prop where
  names : Kd.R Kd.string 9 w B (fun k_ => B + 2 ≤ k_) v (nms s k)
  map : HasP w (B + 1) (nms s k).length T
  tl : TL s w (B + 2) k T
  all : w.heap[B]? = some (tal (stN (cls true ⟨#[]⟩) (s.f5.take k)))
  below : Below B W1 w
  size : B + 2 ≤ w.heap.size
theorem R_past {w w1 : World} {base : Nat} {ok : Nat → Prop} {v : Value} {xs : List ByteArray} {g : Nat} {cs : Array Value} (h : Kd.R Kd.string 9 w base ok v xs) (hb : w.heap[g]? = some (.cells cs 65 (0, 0))) (hg : w.grownBy w1 (some g)) : Kd.R Kd.string 9 w1 base ok v xs :=
  Kd.R_over' (v := .slice (some ⟨g, 0, none⟩) 0 0) (e' := 65) h (fun k hk => ⟨cs, by
    have : g = k := by simpa [Value.ownBlock] using hk
    rw [← this]; exact hb⟩) (fun q hq => by
    have : q = 9 := by simpa [Kd.string, Kd.scalar] using hq
    subst this; decide) hg
theorem LRel.old {s : S31} {W1 w w3 w4 w5 : World} {B k g : Nat} {T : ByteArray → Option Nat} {v : Value} {c : ByteArray} {j : Int} (h : LRel s W1 B k T v w) (hk : k < s.f5.length) (hc : (rd_T48 s.f5 (k : Int)).f3 = c) (hj : (rd_T48 s.f5 (k : Int)).f5 = j) (hT : T c = some g) (h3 : Below w.heap.size w w3)
    (h4 : w3.grownBy w4 (some g)) (n4 : w4.heap[g]? = some (tal (bump (stN (cls false c) (s.f5.take k)) j))) (h5 : w4.grownBy w5 (some B)) (n5 : w5.heap[B]? = some (tal (bump (stN (cls true ⟨#[]⟩) (s.f5.take k)) j))) : LRel s W1 B (k + 1) T v w5 := by
  subst hc
  subst hj
  obtain ⟨hm, hlo, hgb⟩ := h.tl.some_ hT
  have hgl := blk_lt hgb
  have hBl := blk_lt h.all
  have g3 : w3.heap[g]? = _ := (h3.block g hgl).trans hgb
  have b3 : w3.heap[B]? = _ := (h3.block B hBl).trans h.all
  have b4 : w4.heap[B]? = _ := (h4.block B (blk_lt b3) (by simp; omega)).trans b3
  have s3 := h3.size
  have s4 := h4.size
  have s5 := h5.size
  refine ⟨?_, ?_, ?_, ?_, ?_, ?_⟩
  · rw [nms_old hm]
    exact R_past (R_past (Kd.R_below h.names h3) g3 h4) b4 h5
  · rw [nms_old hm]
    exact ((h.map.kept (grown_of_below h3 none) (by simp)).kept h4 (by simp; omega)).kept h5 (by simp)
  · refine h.tl.add hk hT ?_ (fun b f hb hne hbb => ?_)
    · exact (h5.block g (by omega) (by simp; omega)).trans n4
    · have hbl := blk_lt hbb
      rw [h5.block b (by omega) (by simp; omega), h4.block b (by omega) (by simpa using hne), h3.block b hbl]
  · rw [stN_all s k hk]
    exact n5
  · refine ⟨h5.os.trans (h4.os.trans (h3.os.trans h.below.os)), h5.tape.trans (h4.tape.trans (h3.tape.trans h.below.tape)), h5.output.trans (h4.output.trans (h3.output.trans h.below.output)), by have := h.below.size; omega, fun b hb => ?_⟩
    rw [h5.block b (by omega) (by simp; omega), h4.block b (by omega) (by simp; omega), h3.block b (by omega)]
    exact h.below.block b hb
  · have := h.size
    omega
theorem LRel.mid {s : S31} {W1 w w4 w5 : World} {B k : Nat} {T : ByteArray → Option Nat} {v : Value} (h : LRel s W1 B k T v w) (h4 : Below w.heap.size w w4) (h5 : w4.grownBy w5 (some (B + 1))) :
    Kd.R Kd.string 9 w5 B (fun k_ => B + 2 ≤ k_) v (nms s k) ∧ Below B W1 w5 ∧ B + 2 ≤ w5.heap.size := by
  have hs := h.size
  have s4 := h4.size
  have s5 := h5.size
  refine ⟨Kd.R_grown (Kd.R_below h.names h4) h5 (fun k hk => by simp; omega), ⟨h5.os.trans (h4.os.trans h.below.os), h5.tape.trans (h4.tape.trans h.below.tape), h5.output.trans (h4.output.trans h.below.output), by have := h.below.size; omega, fun b hb => ?_⟩, by omega⟩
  rw [h5.block b (by omega) (by simp; omega), h4.block b (by omega)]
  exact h.below.block b hb
/-- A block of before, behind the map's turn and the names' growth. -/
theorem LRel.kept {s : S31} {W1 w w4 w5 w6 : World} {B k : Nat} {T : ByteArray → Option Nat} {v : Value} (h : LRel s W1 B k T v w) (h4 : w.heap.size ≤ w4.heap.size) (h5 : w4.grownBy w5 (some (B + 1))) (h6 : w5.grownBy w6 v.ownBlock) {b : Nat} {o : Obj} (hb : w.heap.size ≤ b) (ho : w4.heap[b]? = some o) : w6.heap[b]? = some o := by
  have hs := h.size
  have hl := blk_lt ho
  have s5 := h5.size
  rw [h6.block b (by omega) (fun e => by have := Kd.R_lt h.names b e.symm; omega), h5.block b hl (by simp; omega)]
  exact ho
theorem LRel.new {s : S31} {W1 w w4 w5 w6 w7 w8 : World} {B k g : Nat} {T : ByteArray → Option Nat} {v v6 : Value} {c : ByteArray} {j : Int} (h : LRel s W1 B k T v w) (hk : k < s.f5.length) (hc : (rd_T48 s.f5 (k : Int)).f3 = c) (hj : (rd_T48 s.f5 (k : Int)).f5 = j) (hT : T c = none) (h4 : Below w.heap.size w w4) (hg : w.heap.size ≤ g) (hgl : g < w4.heap.size)
    (h5 : w4.grownBy w5 (some (B + 1))) (m5 : HasP w5 (B + 1) ((nms s k).length + 1) (fun t => if t = c then some g else T t)) (h6 : w5.grownBy w6 v.ownBlock) (b6 : Below B W1 w6) (r6 : Kd.R Kd.string 9 w6 B (fun k_ => B + 2 ≤ k_) v6 (nms s k ++ [c])) {f6 : Int → Nat} (g6 : w6.heap[g]? = some (tal f6))
    (h7 : w6.grownBy w7 (some g)) (n7 : w7.heap[g]? = some (tal (bump (fun _ => 0) j))) (h8 : w7.grownBy w8 (some B)) (n8 : w8.heap[B]? = some (tal (bump (stN (cls true ⟨#[]⟩) (s.f5.take k)) j))) : LRel s W1 B (k + 1) (fun t => if t = c then some g else T t) v6 w8 := by
  subst hc
  subst hj
  have hm : (rd_T48 s.f5 (k : Int)).f3 ∉ nms s k := fun hm => by
    obtain ⟨g', e, _⟩ := h.tl.yes _ hm
    rw [hT] at e
    cases e
  have hs := h.size
  have hBl := blk_lt h.all
  have s4 := h4.size
  have s5 := h5.size
  have s6 := h6.size
  have s7 := h7.size
  have s8 := h8.size
  have hown : ∀ b, v.ownBlock = some b → B + 2 ≤ b ∧ b < w.heap.size := fun b e => ⟨h.names.1 b e, Kd.R_lt h.names b e⟩
  have b6' : w6.heap[B]? = some (tal (stN (cls true ⟨#[]⟩) (s.f5.take k))) := by
    rw [h6.block B (by omega) (fun e => by have := hown B e.symm; omega), h5.block B (by omega) (by simp), h4.block B hBl]
    exact h.all
  have b7 : w7.heap[B]? = _ := (h7.block B (by omega) (by simp; omega)).trans b6'
  refine ⟨?_, ?_, ?_, ?_, ?_, ?_⟩
  · rw [nms_new hm]
    exact R_past (R_past r6 g6 h7) b7 h8
  · rw [nms_new hm, List.length_append]
    exact ((m5.kept h6 (fun e => by have := hown _ e.symm; omega)).kept h7 (by simp; omega)).kept h8 (by simp)
  · refine h.tl.new hk hm (by omega) hg ?_ (fun b f hb hne hbb => ?_)
    · exact (h8.block g (by omega) (by simp; omega)).trans n7
    · have hbl := blk_lt hbb
      rw [h8.block b (by omega) (by simp; omega), h7.block b (by omega) (by simpa using hne), h6.block b (by omega) (fun e => ?_), h5.block b (by omega) (by simp; omega), h4.block b hbl]
      exact Kd.R_ne h.names hbb (by decide) e
  · rw [stN_all s k hk]
    exact n8
  · refine ⟨h8.os.trans (h7.os.trans b6.os), h8.tape.trans (h7.tape.trans b6.tape), h8.output.trans (h7.output.trans b6.output), by have := b6.size; omega, fun b hb => ?_⟩
    rw [h8.block b (by omega) (by simp; omega), h7.block b (by omega) (by simp; omega)]
    exact b6.block b hb
  · omega
end Go.Proofs.YtafigkikblpbnaaGreatDoor.PG
