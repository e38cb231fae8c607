/- Contracts of the package stamp's functions, next part: Normal. -/
import Derived.Test.YtdpcfamgmicboadStampG
namespace Go.Proofs.Ytdpcfamgmicboad
open Go.RowKit Go.Flt Go.Proofs.YtdpcfamgmicboadW.PrintWords
attribute [local go_sem] run_neg_float run_store_complex run_store_float
set_option maxHeartbeats 4000000 in
theorem corner_nil (A : Option Addr) (c : Nat) (w : World) :
    Calls Try.prog 31 #[.slice A 0 c] w fun e w' => e = .returned (.slice none 0 0) ∧ w = w' := by
  go_enter Try.func31, Try.ntmps31
  go_wp2
  go_ret
  exact ⟨rfl, rfl⟩
theorem corner_all (A : Option Addr) (c : Nat) (bs : List (Nat × Nat)) (zs : List CX) (w : World) (hsm : ∀ z ∈ zs, sm 1000000 z) (hr : Kd.C kb w A zs.length bs) (t : Rels bs zs) (hlen : zs.length ≤ 1000) :
    Calls Try.prog 31 #[.slice A zs.length c] w fun e w' => ∃ v, e = .returned v ∧ Row w w' v (cornerZ zs) ∧ Below w.heap.size w w' := by
  by_cases h0 : 0 < zs.length
  · exact corner_any A c bs zs w hsm hr t hlen h0
  · obtain rfl : zs = [] := List.eq_nil_of_length_eq_zero (by omega)
    refine (corner_nil A c w).mono ?_
    rintro e w' ⟨rfl, rfl⟩
    exact ⟨_, rfl, ⟨[], Kd.R_nil _ _ _ _ _, Rels.nil⟩, Below.refl _ _⟩

/-! the ways -/
abbrev Hdr := Option Addr × Nat × Nat
abbrev encH (p : Hdr) : Value := .slice p.1 p.2.1 p.2.2
abbrev ks : Kd Hdr := Kd.scalar encH (fun _ => rfl)
/-- The row at place j: turned by j / 2 right angles, every second one seen from behind. -/
def wayZ (zs : List CX) (j : Nat) : List CX := cornerZ ((if j % 2 = 0 then zs else zs.map conjz).map fun z => mulz z (qn (j / 2)))
/-- So many ways are laid: their headers hs, the row of headers v. -/
def Laid (w : World) (base : Nat) (v : Value) (hs : List Hdr) (zs : List CX) (n : Nat) : Prop :=
  hs.length = n ∧ Kd.R ks 27 w base (fun _ => True) v hs ∧ ∀ j, j < n → ∃ bs, (hs.getD j (none, 0, 0)).2.1 = (wayZ zs j).length ∧ Kd.R kb 35 w base (fun q => some q ≠ v.ownBlock) (encH (hs.getD j (none, 0, 0))) bs ∧ Rels bs (wayZ zs j)
theorem Laid.below {w w1 : World} {base : Nat} {v : Value} {hs : List Hdr} {zs : List CX} {n : Nat} (h : Laid w base v hs zs n) (hb : Below w.heap.size w w1) : Laid w1 base v hs zs n :=
  ⟨h.1, Kd.R_below h.2.1 hb, fun j hj => by obtain ⟨bs, h1, h2, h3⟩ := h.2.2 j hj; exact ⟨bs, h1, Kd.R_below h2 hb, h3⟩⟩
/-- A row that a call made, behind what was laid before. -/
theorem row_hdr {w w' : World} {base : Nat} {v u : Value} {hs : List Hdr} {zs : List CX} {n : Nat} {ws : List CX} (hl : Laid w base v hs zs n) (hb : base ≤ w.heap.size) (h : Row w w' u ws) :
    ∃ (p : Hdr) (bs : List (Nat × Nat)), u = encH p ∧ p.2.1 = ws.length ∧ Kd.R kb 35 w' base (fun q => some q ≠ v.ownBlock ∧ w.heap.size ≤ q) u bs ∧ Rels bs ws := by
  obtain ⟨rs, hR, hrs⟩ := h
  obtain ⟨inner, ho⟩ := Kd.R_own hR
  obtain ⟨A, c, rfl⟩ := own_slice ho
  refine ⟨(A, rs.length, c), rs, rfl, hrs.1, ?_, hrs⟩
  refine Kd.R_lower (Kd.R_mono (Kd.R_bound hR) (fun q hq => ⟨fun e => ?_, hq.2.1⟩)) hb
  have := Kd.R_lt hl.2.1 q e.symm
  have := hq.2.1
  omega

theorem turn_sm {B : Nat} {z : CX} (h : sm B z) (n : Nat) : sm (2 * B) (mulz z (qn n)) := by
  obtain ⟨h1, h2⟩ := h
  have key : ∀ n : Nat, (qn n).re = 0 ∧ ((qn n).im = 1 ∨ (qn n).im = -1) ∨ (qn n).im = 0 ∧ ((qn n).re = 1 ∨ (qn n).re = -1) := fun n => by
    induction n with
    | zero => exact .inr ⟨rfl, .inl rfl⟩
    | succ n ih =>
      unfold qn mulz
      simp only [Int.mul_zero, Int.mul_one]
      omega
  unfold mulz sm
  simp only
  rcases key n with ⟨e1, e2 | e2⟩ | ⟨e1, e2 | e2⟩ <;> rw [e1, e2] <;> simp <;> omega
theorem map_sm {B C : Nat} {zs : List CX} (f : CX → CX) (h : ∀ z ∈ zs, sm B z) (hf : ∀ z, sm B z → sm C (f z)) : ∀ z ∈ zs.map f, sm C z := by
  intro z hz
  obtain ⟨y, hy, rfl⟩ := List.mem_map.1 hz
  exact hf y (h y hy)

theorem row_open {w w' : World} {u : Value} {ws : List CX} (h : Row w w' u ws) : ∃ A c bs, u = .slice A ws.length c ∧ Kd.C kb w' A ws.length bs ∧ Rels bs ws := by
  obtain ⟨rs, hR, hrs⟩ := h
  obtain ⟨inner, ho⟩ := Kd.R_own hR
  obtain ⟨A, c, rfl⟩ := own_slice ho
  have h2 := (Kd.R_reads' hR).2.2
  rw [hrs.1] at h2
  exact ⟨A, c, rs, by rw [hrs.1], h2, hrs⟩

theorem row_n {w w' : World} {u : Value} {ws : List CX} (h : Row w w' u ws) (n : Nat) (hn : ws.length = n) : ∃ A c bs, u = .slice A n c ∧ Kd.C kb w' A n bs ∧ Rels bs ws := by subst hn; exact row_open h
theorem corner_n (n : Nat) (A : Option Addr) (c : Nat) (bs : List (Nat × Nat)) (zs : List CX) (hn : zs.length = n) (w : World) (hsm : ∀ z ∈ zs, sm 1000000 z) (hr : Kd.C kb w A n bs) (t : Rels bs zs) (hlen : n ≤ 1000) :
    Calls Try.prog 31 #[.slice A n c] w fun e w' => ∃ v, e = .returned v ∧ Row w w' v (cornerZ zs) ∧ Below w.heap.size w w' := by subst hn; exact corner_all A c bs zs w hsm hr t hlen
theorem turn_n (n : Nat) (A : Option Addr) (c : Nat) (bs : List (Nat × Nat)) (zs : List CX) (hn : zs.length = n) (k : Nat) (hk : k < 4) (w : World) (hsm : ∀ z ∈ zs, sm 1000000 z) (hr : Kd.C kb w A n bs) (t : Rels bs zs) (hlen : n ≤ 1000) :
    Calls Try.prog 11 #[.slice A n c, .int .i64 k] w fun e w' => ∃ v, e = .returned v ∧ Row w w' v (zs.map fun z => mulz z (qn k)) ∧ Below w.heap.size w w' := by
  subst hn
  have h := turn_any A c bs zs k w hsm hr t hlen
  rwa [show ((k : Int) % 4).toNat = k by omega] at h
theorem mirror_n (n : Nat) (A : Option Addr) (c : Nat) (bs : List (Nat × Nat)) (zs : List CX) (hn : zs.length = n) (w : World) (hsm : ∀ z ∈ zs, sm 1000000 z) (hr : Kd.C kb w A n bs) (t : Rels bs zs) (hlen : n ≤ 1000) :
    Calls Try.prog 13 #[.slice A n c] w fun e w' => ∃ v, e = .returned v ∧ Row w w' v (zs.map conjz) ∧ Below w.heap.size w w' := by subst hn; exact mirror_any A c bs zs w hsm hr t hlen
end Go.Proofs.Ytdpcfamgmicboad
