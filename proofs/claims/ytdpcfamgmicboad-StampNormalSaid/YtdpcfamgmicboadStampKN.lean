/- The law's page examples, and the contracts in the print's own form. -/
import Derived.Test.YtdpcfamgmicboadStampJN
namespace Go.Proofs.Ytdpcfamgmicboad
open Go.RowKit Go.Flt Go.Proofs.YtdpcfamgmicboadW.PrintWords
attribute [local go_sem] run_neg_float run_store_complex run_store_float
set_option linter.unusedVariables false
theorem lit_C (w : World) (bs : List (Nat × Nat)) (n : Nat) (hn : bs.length = n) (h0 : n ≤ 1000) (xs : Array Value) (hx : xs.toList = bs.map encB) : Kd.C kb (w.alloc (.cells xs 35)) (some ⟨w.heap.size, 0, none⟩) n bs := by
  refine ⟨hn, by omega, fun _ => ⟨_, rfl, fun j x hj => ?_⟩⟩
  refine ⟨[encB x], rfl, rfl, fun i u hu => ?_⟩
  cases i with
  | succ i => simp at hu
  | zero =>
    obtain rfl : encB x = u := by simpa using hu
    have e : (Addr.mk w.heap.size 0 none).add (j * kb.sz + 0) = ⟨w.heap.size, j, none⟩ := by
      show Addr.add _ (j * 1 + 0) = _
      rw [Nat.mul_one, Nat.add_zero]
      unfold Addr.add
      by_cases h0 : j = 0 <;> simp [h0]
    rw [e]
    have e2 : (w.alloc (.cells xs 35)).heap[w.heap.size]? = some (.cells xs 35) := by
      show (w.heap.push _)[w.heap.size]? = _
      simp
    unfold World.cell?
    simp only [e2]
    rw [← Array.getElem?_toList, hx, List.getElem?_map, hj]
    rfl
theorem sm_list {B : Nat} {zs : List CX} (h : zs.all (fun z => decide (z.re.natAbs ≤ B ∧ z.im.natAbs ≤ B)) = true) : ∀ z ∈ zs, sm B z := by
  intro z hz
  have := List.all_eq_true.1 h z hz
  exact (of_decide_eq_true this : z.re.natAbs ≤ B ∧ z.im.natAbs ≤ B)
abbrev b1 : Nat := 4607182418800017408
abbrev b5 : Nat := 4617315517961601024
abbrev b6 : Nat := 4618441417868443648
theorem F5 : F b5 5 := ⟨false, by decide +kernel, fun _ => by decide⟩
theorem F6 : F b6 6 := ⟨false, by decide +kernel, fun _ => by decide⟩
abbrev sq : List CX := [⟨0, 0⟩, ⟨1, 0⟩, ⟨1, 1⟩, ⟨0, 1⟩]
abbrev sqb : List (Nat × Nat) := [(0, 0), (b1, 0), (b1, b1), (0, b1)]
theorem sq_rel : Rels sqb sq := .cons ⟨F.zero, F.zero⟩ (.cons ⟨F.one, F.zero⟩ (.cons ⟨F.one, F.one⟩ (.cons ⟨F.zero, F.one⟩ .nil)))
theorem sq_area : areaN sq 4 = 2 := by decide +kernel
abbrev pr : List CX := [⟨5, 0⟩, ⟨6, 0⟩]
abbrev prb : List (Nat × Nat) := [(b5, 0), (b6, 0)]
theorem pr_rel : Rels prb pr := .cons ⟨F5, F.zero⟩ (.cons ⟨F6, F.zero⟩ .nil)
theorem pr_norm : normZ pr = [⟨0, 0⟩, ⟨0, 1⟩] := by decide +kernel
abbrev prn : List Pt := [⟨0, 0⟩, ⟨0, 1⟩]
theorem prn_C (w : World) : Kd.C PStampN.k24 (w.alloc (.cells #[.int .i64 0, .int .i64 0, .int .i64 0, .int .i64 1] 24)) (some ⟨w.heap.size, 0, none⟩) 2 prn := by
  refine ⟨rfl, by decide, fun _ => ⟨_, rfl, fun j x hj => ?_⟩⟩
  refine ⟨[.int .i64 x.f0, .int .i64 x.f1], rfl, PStampN.k24_mk _ x, fun i u hu => ?_⟩
  have e2 : (w.alloc (.cells #[.int .i64 0, .int .i64 0, .int .i64 0, .int .i64 1] 24)).heap[w.heap.size]? = some (.cells #[.int .i64 0, .int .i64 0, .int .i64 0, .int .i64 1] 24) := by
    show (w.heap.push _)[w.heap.size]? = _
    simp
  have key : ∀ m : Nat, (w.alloc (.cells #[.int .i64 0, .int .i64 0, .int .i64 0, .int .i64 1] 24)).cell? ((Addr.mk w.heap.size 0 none).add m) = (#[.int .i64 0, .int .i64 0, .int .i64 0, .int .i64 1] : Array Value)[m]? := fun m => by
    have e : (Addr.mk w.heap.size 0 none).add m = ⟨w.heap.size, m, none⟩ := by
      unfold Addr.add
      by_cases h0 : m = 0 <;> simp [h0]
    rw [e]
    unfold World.cell?
    simp only [e2]
    rfl
  rw [key]
  have hsz : PStampN.k24.sz = 2 := rfl
  rw [hsz]
  match j, hj with
  | 0, hj =>
    obtain rfl : (⟨0, 0⟩ : Pt) = x := by simpa using hj
    match i, hu with
    | 0, hu => simpa using hu
    | 1, hu => simpa using hu
    | i + 2, hu => simp at hu
  | 1, hj =>
    obtain rfl : (⟨0, 1⟩ : Pt) = x := by simpa using hj
    match i, hu with
    | 0, hu => simpa using hu
    | 1, hu => simpa using hu
    | i + 2, hu => simp at hu
  | j + 2, hj => simp at hj
theorem info22e : (Try.prog.info? 24).map (fun i => (i.zero, i.size, i.bytes)) = some (some (.agg #[.int .i64 0, .int .i64 0]), 2, 16) := by kernel_rfl
set_option maxHeartbeats 8000000 in
theorem live_any (w : World) : Calls Try.prog 8 #[] w fun e w' => e = .returned (.bool true) ∧ Below w.heap.size w w' := by
  go_enter Try.func8, Try.ntmps8
  go_wp2_with fail
  refine (area_any _ _ sqb sq _ (sm_list (by decide)) (lit_C w sqb 4 rfl (by omega) _ rfl) sq_rel (by decide)).mono ?_
  rintro e w1 ⟨he, hw1⟩
  obtain rfl : e = .returned (.int .i64 2) := by rw [he]; exact ret_i sq_area
  have B1 := Lib.hid (show Below w.heap.size w w1 by rw [← hw1]; exact below_alloc (Below.refl _ _) _)
  clear he hw1
  go_wp2_with fail
  refine (normal_any _ _ prb pr _ (sm_list (by decide)) (lit_C w1 prb 2 rfl (by omega) _ rfl) pr_rel (by decide)).mono ?_
  rintro e w2 ⟨u2, rfl, hR2, hb2⟩
  obtain ⟨A2, c2, bs2, rfl, hC2, hr2⟩ := row_n hR2 2 (by rw [pr_norm]; rfl)
  have B2 := Lib.hid (below_tr B1.out (below_tr (below_alloc (Below.refl _ _) _) hb2))
  have C2 := Lib.hid hC2
  have D2 := Lib.hid hr2
  clear hR2 hb2 hC2 hr2
  go_wp2_with fail
  have HT := Lib.hid (told_any A2 c2 bs2 (normZ pr) (some ⟨w2.heap.size, 0, none⟩) 2 prn _ (by rw [pr_norm]; exact sm_list (by decide)) (Kd.C_below (by rw [pr_norm]; exact C2.out) (below_alloc (Below.refl _ _) _)) D2.out (sm_list (by decide)) (prn_C w2) (by rw [pr_norm]; decide) (by decide))
  rw [pr_norm] at HT
  refine HT.out.mono ?_
  rintro e w3 ⟨he, hb3⟩
  obtain rfl : e = .returned (.bool true) := by rw [he]; exact congrArg (fun b => Ending.returned (.bool b)) (by decide)
  have B3 := Lib.hid (below_tr B2.out (below_tr (below_alloc (Below.refl _ _) _) hb3))
  clear he hb3 HT
  go_wp2
  go_ret
  exact ⟨rfl, B3.out⟩

/-! the print's own form -/
def smB (B : Nat) (z : CX) : Bool := decide (z.re.natAbs ≤ B) && decide (z.im.natAbs ≤ B)
def okB (B : Nat) (zs : List CX) : Bool := decide (zs.length ≤ 1000) && zs.all (smB B)
theorem okB_sm {B : Nat} {zs : List CX} (h : okB B zs = true) : zs.length ≤ 1000 ∧ ∀ z ∈ zs, sm B z := by
  unfold okB at h
  simp only [Bool.and_eq_true, decide_eq_true_eq] at h
  refine ⟨h.1, fun z hz => ?_⟩
  have := List.all_eq_true.1 h.2 z hz
  unfold smB at this
  simp only [Bool.and_eq_true, decide_eq_true_eq] at this
  exact this
theorem cx_small {B : Nat} (hB : B ≤ 1000000000000) {w : World} {A : Option Addr} {n : Nat} {zs : List CX} (h : Kd.C Kd.cx w A n zs) (hs : ∀ z ∈ zs, sm B z) : ∃ bs, Kd.C kb w A n bs ∧ Rels bs zs :=
  cx_C h fun z hz => by obtain ⟨h1, h2⟩ := hs z hz; exact ⟨by omega, by omega⟩
theorem row_cx {w w' : World} {v : Value} {zs : List CX} (h : Row w w' v zs) : Kd.R Kd.cx 35 w' w.heap.size (fun _ => True) v zs := by
  obtain ⟨rs, h1, h2⟩ := h
  exact cx_R h1 h2
namespace PStampN
def stamp_Turn.f (zs : List CX) (k : Int) : Option (List CX) := if okB 1000000 zs = true then some (zs.map fun z => mulz z (qn (k % 4).toNat)) else none
theorem stamp_Turn.calls (A0 : Option Addr) (c0 : Nat) (l0 : List CX) (a1 : Int) (r : List CX) (w : World) (hr0 : Kd.C Kd.cx w A0 l0.length l0) (hc0 : l0.length ≤ c0) (h : stamp_Turn.f l0 a1 = some r) :
    Calls Try.prog 11 #[.slice A0 l0.length c0, .int .i64 a1] w fun e w' => ∃ v0_ : Value, e = .returned (v0_) ∧ Kd.R Kd.cx 35 w' w.heap.size (fun _ => True) v0_ r ∧ Below w.heap.size w w' := by
  unfold stamp_Turn.f at h
  split at h
  · obtain rfl := Option.some.inj h
    rename_i h1
    obtain ⟨h2, h3⟩ := okB_sm h1
    obtain ⟨bs, hc, hrl⟩ := cx_small (by omega) hr0 h3
    refine (turn_any A0 c0 bs l0 a1 w h3 hc hrl h2).mono ?_
    rintro e w' ⟨v, rfl, hR, hb⟩
    exact ⟨v, rfl, row_cx hR, hb⟩
  · cases h
def stamp_Mirror.f (zs : List CX) : Option (List CX) := if okB 1000000 zs = true then some (zs.map conjz) else none
theorem stamp_Mirror.calls (A0 : Option Addr) (c0 : Nat) (l0 : List CX) (r : List CX) (w : World) (hr0 : Kd.C Kd.cx w A0 l0.length l0) (hc0 : l0.length ≤ c0) (h : stamp_Mirror.f l0 = some r) :
    Calls Try.prog 13 #[.slice A0 l0.length c0] w fun e w' => ∃ v0_ : Value, e = .returned (v0_) ∧ Kd.R Kd.cx 35 w' w.heap.size (fun _ => True) v0_ r ∧ Below w.heap.size w w' := by
  unfold stamp_Mirror.f at h
  split at h
  · obtain rfl := Option.some.inj h
    rename_i h1
    obtain ⟨h2, h3⟩ := okB_sm h1
    obtain ⟨bs, hc, hrl⟩ := cx_small (by omega) hr0 h3
    refine (mirror_any A0 c0 bs l0 w h3 hc hrl h2).mono ?_
    rintro e w' ⟨v, rfl, hR, hb⟩
    exact ⟨v, rfl, row_cx hR, hb⟩
  · cases h
def stamp_Shift.f (zs : List CX) (q : CX) : Option (List CX) := if okB 1000000 zs = true then if smB 1000000 q = true then some (zs.map fun z => addz z q) else none else none
theorem stamp_Shift.calls (A0 : Option Addr) (c0 : Nat) (l0 : List CX) (a1 : CX) (r : List CX) (w : World) (hr0 : Kd.C Kd.cx w A0 l0.length l0) (hc0 : l0.length ≤ c0) (h : stamp_Shift.f l0 a1 = some r) :
    Calls Try.prog 15 #[.slice A0 l0.length c0, .complex .f64 (CX.a a1) (CX.b a1)] w fun e w' => ∃ v0_ : Value, e = .returned (v0_) ∧ Kd.R Kd.cx 35 w' w.heap.size (fun _ => True) v0_ r ∧ Below w.heap.size w w' := by
  unfold stamp_Shift.f at h
  split at h
  · split at h
    · obtain rfl := Option.some.inj h
      rename_i h1 hq
      obtain ⟨h2, h3⟩ := okB_sm h1
      have hq2 : sm 1000000 a1 := by
        unfold smB at hq
        simp only [Bool.and_eq_true, decide_eq_true_eq] at hq
        exact hq
      obtain ⟨bs, hc, hrl⟩ := cx_small (by omega) hr0 h3
      refine (shift_any A0 c0 bs l0 (CX.a a1, CX.b a1) a1 ⟨enc_F _ (by have := hq2.1; omega), enc_F _ (by have := hq2.2; omega)⟩ hq2 w h3 hc hrl h2).mono ?_
      rintro e w' ⟨v, rfl, hR, hb⟩
      exact ⟨v, rfl, row_cx hR, hb⟩
    · cases h
  · cases h
def stamp_Area.f (zs : List CX) : Option Int := if okB 1000000 zs = true then some (areaN zs zs.length) else none
theorem stamp_Area.calls (A0 : Option Addr) (c0 : Nat) (l0 : List CX) (r : Int) (w : World) (hr0 : Kd.C Kd.cx w A0 l0.length l0) (hc0 : l0.length ≤ c0) (h : stamp_Area.f l0 = some r) :
    Calls Try.prog 17 #[.slice A0 l0.length c0] w fun e w' => e = .returned (.int .i64 r) ∧ Below w.heap.size w w' := by
  unfold stamp_Area.f at h
  split at h
  · obtain rfl := Option.some.inj h
    rename_i h1
    obtain ⟨h2, h3⟩ := okB_sm h1
    obtain ⟨bs, hc, hrl⟩ := cx_small (by omega) hr0 h3
    refine (area_any A0 c0 bs l0 w h3 hc hrl h2).mono ?_
    rintro e w' ⟨rfl, rfl⟩
    exact ⟨rfl, Below.refl _ _⟩
  · cases h
def stamp_Normal.f (zs : List CX) : Option (List CX) := if okB 100000 zs = true then some (normZ zs) else none
theorem stamp_Normal.calls (A0 : Option Addr) (c0 : Nat) (l0 : List CX) (r : List CX) (w : World) (hr0 : Kd.C Kd.cx w A0 l0.length l0) (hc0 : l0.length ≤ c0) (h : stamp_Normal.f l0 = some r) :
    Calls Try.prog 19 #[.slice A0 l0.length c0] w fun e w' => ∃ v0_ : Value, e = .returned (v0_) ∧ Kd.R Kd.cx 35 w' w.heap.size (fun _ => True) v0_ r ∧ Below w.heap.size w w' := by
  unfold stamp_Normal.f at h
  split at h
  · obtain rfl := Option.some.inj h
    rename_i h1
    obtain ⟨h2, h3⟩ := okB_sm h1
    obtain ⟨bs, hc, hrl⟩ := cx_small (by omega) hr0 h3
    refine (normal_any A0 c0 bs l0 w h3 hc hrl h2).mono ?_
    rintro e w' ⟨v, rfl, hR, hb⟩
    exact ⟨v, rfl, row_cx hR, hb⟩
  · cases h
def stamp_Same.f (zs zs2 : List CX) : Option Bool := if okB 100000 zs = true then if okB 100000 zs2 = true then some (decide (normZ zs = normZ zs2)) else none else none
theorem stamp_Same.calls (A0 : Option Addr) (c0 : Nat) (l0 : List CX) (A1 : Option Addr) (c1 : Nat) (l1 : List CX) (r : Bool) (w : World) (hr0 : Kd.C Kd.cx w A0 l0.length l0) (hc0 : l0.length ≤ c0) (hr1 : Kd.C Kd.cx w A1 l1.length l1) (hc1 : l1.length ≤ c1) (h : stamp_Same.f l0 l1 = some r) :
    Calls Try.prog 20 #[.slice A0 l0.length c0, .slice A1 l1.length c1] w fun e w' => e = .returned (.bool r) ∧ Below w.heap.size w w' := by
  unfold stamp_Same.f at h
  split at h
  · split at h
    · obtain rfl := Option.some.inj h
      rename_i h1 h1b
      obtain ⟨h2, h3⟩ := okB_sm h1
      obtain ⟨h2b, h3b⟩ := okB_sm h1b
      obtain ⟨bs, hc, hrl⟩ := cx_small (by omega) hr0 h3
      obtain ⟨bs2, hcb, hrlb⟩ := cx_small (by omega) hr1 h3b
      exact same_any A0 c0 bs l0 A1 c1 bs2 l1 w h3 hc hrl h3b hcb hrlb h2 h2b
    · cases h
  · cases h
def hanaperlaw27_told.f (zs : List CX) (l : List S24) : Option Bool := if okB 1000000 zs = true then if okB 1000000 (ofZ l) = true then some (decide (zs = ofZ l)) else none else none
theorem hanaperlaw27_told.calls (A0 : Option Addr) (c0 : Nat) (l0 : List CX) (A1 : Option Addr) (c1 : Nat) (l1 : List S24) (r : Bool) (w : World) (hr0 : Kd.C Kd.cx w A0 l0.length l0) (hc0 : l0.length ≤ c0) (hr1 : Kd.C k24 w A1 l1.length l1) (hc1 : l1.length ≤ c1) (h : hanaperlaw27_told.f l0 l1 = some r) :
    Calls Try.prog 10 #[.slice A0 l0.length c0, .slice A1 l1.length c1] w fun e w' => e = .returned (.bool r) ∧ Below w.heap.size w w' := by
  unfold hanaperlaw27_told.f at h
  split at h
  · split at h
    · obtain rfl := Option.some.inj h
      rename_i h1 h1b
      obtain ⟨h2, h3⟩ := okB_sm h1
      obtain ⟨h2b, h3b⟩ := okB_sm h1b
      rw [ofZ_len] at h2b
      obtain ⟨bs, hc, hrl⟩ := cx_small (by omega) hr0 h3
      exact told_any A0 c0 bs l0 A1 c1 l1 w (fun z hz => sm_le (h3 z hz) (by omega)) hc hrl (fun z hz => sm_le (h3b z hz) (by omega)) hr1 (by omega) (by omega)
    · cases h
  · cases h
def hanaperlaw27_live.f : Option Bool := some true
theorem hanaperlaw27_live.calls (r : Bool) (w : World) (h : hanaperlaw27_live.f = some r) :
    Calls Try.prog 8 #[] w fun e w' => e = .returned (.bool r) ∧ Below w.heap.size w w' := by
  obtain rfl : true = r := Option.some.inj h
  exact live_any w
end PStampN
end Go.Proofs.Ytdpcfamgmicboad
