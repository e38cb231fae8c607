/- Contracts of the package stamp's functions over this seat's translation, for numbers with small whole parts. -/
import Derived.Test.YtdpcfamgmicboadProg
import Derived.Test.YtdpcfamgmicboadExt
import Derived.WalkKit
import Derived.WalkSpells
import Derived.WalkLawsBesides
import Derived.Laws.ComplexArith
import Derived.Lib.Hide
import Derived.Test.YtdpcfamgmicboadWWords
import Derived.Test.YtdpcfamgmicboadWLast
import Derived.Test.YtdpcfamgmicboadWMore
namespace Go.Proofs.Ytdpcfamgmicboad
open Go.RowKit Go.Flt Go.Proofs.YtdpcfamgmicboadW.PrintWords

theorem below_cell {w w1 : World} (h : Below w.heap.size w w1) {p : Addr} {v : Value} (hc : w.cell? p = some v) : w1.cell? p = some v := pw_cell_below h hc
theorem below_tr {w w1 w2 : World} (h : Below w.heap.size w w1) (k : Below w1.heap.size w1 w2) : Below w.heap.size w w2 := below_then h h.size k
def mulz (x y : CX) : CX := ⟨x.re * y.re - x.im * y.im, x.re * y.im + x.im * y.re⟩
def addz (x y : CX) : CX := ⟨x.re + y.re, x.im + y.im⟩
def conjz (x : CX) : CX := ⟨x.re, -x.im⟩
/-- Parts from -B to B. -/
def sm (B : Nat) (z : CX) : Prop := z.re.natAbs ≤ B ∧ z.im.natAbs ≤ B
theorem mul_rel {B : Nat} (hB : B ≤ 1000000) {b c : Nat × Nat} {x y : CX} (hb : rel b x) (hc : rel c y) (hx : sm B x) (hy : sm B y) : ∃ r : Nat × Nat, cMulBits b.1 b.2 c.1 c.2 = some r ∧ rel r (mulz x y) := by
  have m : ∀ p q : Int, p.natAbs ≤ B → q.natAbs ≤ B → (p * q).natAbs ≤ 1000000000000 := fun p q hp hq => by
    rw [Int.natAbs_mul]
    exact Nat.le_trans (Nat.mul_le_mul (Nat.le_trans hp hB) (Nat.le_trans hq hB)) (by omega)
  obtain ⟨ha, hbb⟩ := hx
  obtain ⟨hcc, hd⟩ := hy
  have m1 := m _ _ ha hcc
  have m2 := m _ _ hbb hd
  have m3 := m _ _ ha hd
  have m4 := m _ _ hbb hcc
  obtain ⟨r1, e1, f1⟩ := Flt.mul hb.1 hc.1 (by omega) (by omega) (by omega)
  obtain ⟨r2, e2, f2⟩ := Flt.mul hb.2 hc.2 (by omega) (by omega) (by omega)
  obtain ⟨r3, e3, f3⟩ := Flt.sub f1 f2 (by omega) (by omega) (by omega)
  obtain ⟨r4, e4, f4⟩ := Flt.mul hb.1 hc.2 (by omega) (by omega) (by omega)
  obtain ⟨r5, e5, f5⟩ := Flt.mul hb.2 hc.1 (by omega) (by omega) (by omega)
  obtain ⟨r6, e6, f6⟩ := Flt.add f4 f5 (by omega) (by omega) (by omega)
  exact ⟨(r3, r6), by unfold cMulBits; rw [e1, e2]; simp only [Option.bind_some]; rw [e3]; simp only [Option.bind_some]; rw [e4, e5]; simp only [Option.bind_some]; rw [e6]; rfl, f3, f6⟩
theorem add_rel {B : Nat} (hB : B ≤ 1000000000000) {b c : Nat × Nat} {x y : CX} (hb : rel b x) (hc : rel c y) (hx : sm B x) (hy : sm B y) : ∃ r : Nat × Nat, cSumBits .add .f64 b.1 b.2 c.1 c.2 = some r ∧ rel r (addz x y) := by
  obtain ⟨ha, hbb⟩ := hx
  obtain ⟨hcc, hd⟩ := hy
  obtain ⟨r, e1, f1⟩ := Flt.add hb.1 hc.1 (by omega) (by omega) (by omega)
  obtain ⟨s, e2, f2⟩ := Flt.add hb.2 hc.2 (by omega) (by omega) (by omega)
  exact ⟨(r, s), by unfold cSumBits; rw [e1, e2]; rfl, f1, f2⟩
theorem enc_one : enc 1 = 4607182418800017408 := by decide +kernel
theorem enc_zero : enc 0 = 0 := by decide +kernel
theorem rel_one : rel (4607182418800017408, 0) ⟨1, 0⟩ := ⟨Flt.F.one, Flt.F.zero⟩
theorem rel_i : rel (0, 4607182418800017408) ⟨0, 1⟩ := ⟨Flt.F.zero, Flt.F.one⟩
/-- The number i, so many times. -/
def qn : Nat → CX
  | 0 => ⟨1, 0⟩
  | n + 1 => mulz (qn n) ⟨0, 1⟩
theorem qn_sm : ∀ n, sm 1 (qn n)
  | 0 => ⟨by decide, by decide⟩
  | n + 1 => by
    obtain ⟨h1, h2⟩ := qn_sm n
    unfold qn mulz sm
    simp only [Int.mul_zero, Int.mul_one]
    omega
theorem sm_le {B C : Nat} {z : CX} (h : sm B z) (hBC : B ≤ C) : sm C z := ⟨Nat.le_trans h.1 hBC, Nat.le_trans h.2 hBC⟩
theorem run_neg_float (P : Program) (b : Nat) (w : World) : Sem.run P (Op.unary UnOp.neg (Value.float FloatKind.f64 b)) w = .ok (.float .f64 (Op.negFloat .f64 b)) w := rfl
theorem run_store_complex (P : Program) (w : World) (a : Addr) (m : Mode) (k : FloatKind) (x y : Nat) : (store a (.complex k x y) m).run P w = stored P w a (.complex k x y) m := run_store P w a _ m rfl
theorem run_store_float (P : Program) (w : World) (a : Addr) (m : Mode) (k : FloatKind) (x : Nat) : (store a (.float k x) m).run P w = stored P w a (.float k x) m := run_store P w a _ m rfl
attribute [local go_sem] run_neg_float run_store_complex run_store_float
set_option maxHeartbeats 400000 in
theorem about_any (b : Nat × Nat) (z : CX) (h : rel b z) (hz : sm 1000000 z) (w : World) :
    Calls Try.prog 29 #[encB b] w fun e w' => (∃ r1 r2, e = .returned (.complex .f64 r1 r2) ∧ rel (r1, r2) (conjz z)) ∧ w = w' := by
  have fn := Flt.neg h.2 (by have := hz.2; omega)
  go_enter Try.func29, Try.ntmps29
  go_wp2
  go_ret
  exact ⟨⟨b.1, Op.negFloat .f64 b.2, rfl, h.1, fn⟩, rfl⟩
set_option maxHeartbeats 400000 in
theorem turn1_any (b c : Nat × Nat) (x y : CX) (hb : rel b x) (hc : rel c y) (hx : sm 1000000 x) (hy : sm 1000000 y) (p : Addr) (w : World) (hp : w.cell? p = some (encB c)) :
    Calls Try.prog 27 #[encB b, .pointer (some p)] w fun e w' => (∃ r1 r2, e = .returned (.complex .f64 r1 r2) ∧ rel (r1, r2) (mulz x y)) ∧ w = w' := by
  obtain ⟨r, hr, hrel⟩ := mul_rel (Nat.le_refl _) hb hc hx hy
  have hrun := fun w => run_complex_mul (P := Try.prog) w 35 _ _ _ _ r.1 r.2 hr
  go_enter Try.func27, Try.ntmps27
  go_wp2
  go_ret
  exact ⟨⟨r.1, r.2, rfl, hrel⟩, rfl⟩
set_option maxHeartbeats 400000 in
theorem shift1_any (b c : Nat × Nat) (x y : CX) (hb : rel b x) (hc : rel c y) (hx : sm 1000000 x) (hy : sm 1000000 y) (p : Addr) (w : World) (hp : w.cell? p = some (encB c)) :
    Calls Try.prog 30 #[encB b, .pointer (some p)] w fun e w' => (∃ r1 r2, e = .returned (.complex .f64 r1 r2) ∧ rel (r1, r2) (addz x y)) ∧ w = w' := by
  obtain ⟨r, hr, hrel⟩ := add_rel (B := 1000000) (by omega) hb hc hx hy
  have hrun := fun w => run_complex_sum (P := Try.prog) w .add (.inl rfl) 35 .f64 _ _ _ _ r.1 r.2 hr
  go_enter Try.func30, Try.ntmps30
  go_wp2
  go_ret
  exact ⟨⟨r.1, r.2, rfl, hrel⟩, rfl⟩
set_option maxHeartbeats 400000 in
theorem quarter_any (k : Int) (w : World) :
    Calls Try.prog 25 #[.int .i64 k] w fun e w' => (∃ r1 r2, e = .returned (.complex .f64 r1 r2) ∧ rel (r1, r2) (qn (k % 4).toNat)) ∧ w = w' := by
  have hn0 := Int.emod_nonneg k (show (4 : Int) ≠ 0 by omega)
  have hn1 := Int.emod_lt_of_pos k (show (0 : Int) < 4 by omega)
  have h7 : Int.tmod (wrap64 (Int.tmod k 4 + 4)) 4 = k % 4 := by
    have h1 := Int.tmod_lt_of_pos k (show (0 : Int) < 4 by omega)
    have h2 := Int.lt_tmod_of_pos k (show (0 : Int) < 4 by omega)
    have h3 : wrap64 (Int.tmod k 4 + 4) = Int.tmod k 4 + 4 := by unfold wrap64; omega
    rw [h3, Int.tmod_eq_emod_of_nonneg (by omega)]
    have h4 := Int.tmod_eq_emod (a := k) (b := 4)
    split at h4 <;> simp at h4 <;> omega
  generalize k % 4 = n at *
  go_enter Try.func25, Try.ntmps25
  go_wp2
  go_loop [3, 8] (fun z c => ∃ (m : Nat) (b : Nat × Nat), (m : Int) ≤ n ∧ z = encB b ∧ c = .int .i64 m ∧ rel b (qn m)) (fun _ c => n.toNat - (intOf c).toNat)
  case atStart => exact ⟨0, (4607182418800017408, 0), by omega, rfl, rfl, rel_one⟩
  case round =>
    obtain ⟨m, b, hm, rfl, rfl, hb⟩ := hrel
    by_cases hlt : (m : Int) < n
    · obtain ⟨r, hr, hrr⟩ := mul_rel (Nat.le_refl _) hb rel_i (sm_le (qn_sm m) (by omega)) ⟨by decide, by decide⟩
      have hrun := fun w => run_complex_mul (P := Try.prog) w 35 _ _ _ _ r.1 r.2 hr
      go_wp2
      exact ⟨⟨m + 1, r, by omega, rfl, by go_num, hrr⟩, by simp [intOf]; omega⟩
    · have he : n.toNat = m := by omega
      have HE := Lib.hid he
      clear he
      go_wp2
      go_ret
      have hq : rel b (qn n.toNat) := by rw [HE.out]; exact hb
      exact ⟨⟨b.1, b.2, rfl, hq⟩, rfl⟩
theorem info35 : (Try.prog.info? 35).map (fun i => (i.zero, i.size, i.bytes)) = some (some (.complex .f64 0 0), 1, 16) := by kernel_rfl
theorem at_kb {w : World} {A : Option Addr} {n : Nat} {bs : List (Nat × Nat)} (h : Kd.C kb w A n bs) (i : Int) (h0 : 0 ≤ i) (h1 : i < n) : ∃ ad, A = some ad ∧ w.cell? (ad.add i.toNat) = some (encB (rdOf (0, 0) bs i)) :=
  ReadsOf.at_ (Kd.reads_of_C (enc := encB) (d := (0, 0)) (h1 := fun _ => rfl) h) i h0 h1

set_option maxHeartbeats 4000000 in
theorem each_turn (A : Option Addr) (c : Nat) (bs : List (Nat × Nat)) (zs : List CX) (q : CX) (cb : Nat × Nat) (hq : rel cb q) (hqs : sm 1000000 q) (p : Addr) (w : World) (hp : w.cell? p = some (encB cb)) (hsm : ∀ z ∈ zs, sm 1000000 z) (hr : Kd.C kb w A zs.length bs) (t : Rels bs zs) (hlen : zs.length ≤ 1000) :
    Calls Try.prog 26 #[.slice A zs.length c, .func (Fn.func 27) #[] #[.pointer (some p)]] w fun e w' => ∃ v rs, e = .returned v ∧ Kd.R kb 35 w' w.heap.size (fun _ => True) v rs ∧ Rels rs (zs.map (fun z => mulz z q)) ∧ Below w.heap.size w w' := by
  have hbl : bs.length = zs.length := t.1
  go_enter Try.func26, Try.ntmps26
  go_wp2_with (refine Kd.R_make kb w.heap.size 35 rfl rfl 27 (.tmp 9) (.tmp 9) rfl zs.length rfl rfl Try.underlying27 (.complex .f64 0 0) 16 info35 rfl (by decide) (by decide) ((0, 0) : Nat × Nat) (ok := fun _ => True) (okp := fun _ => False) rfl (fun _ h => h.elim) trivial (by omega) (by simp; omega) (Below.refl _ _) (Nat.le_refl _) ?_; intro v1 w1 hR hB _ hown; (obtain ⟨inner, ho⟩ := Kd.R_own hR); (rcases ho.2 with ⟨hz, _⟩ | ⟨g, cap, cur, rfl, hg, hh, hl, hm, hcs, htk⟩); (exfalso; obtain ⟨b, hb, _⟩ := hown; rw [hz] at hb; simp [Value.ownBlock] at hb); (have HR0 := Lib.hid hR); (have HB0 := Lib.hid hB); clear hR hB ho htk hcs hh hown)
  simp only [Int.toNat_natCast] at HR0
  clear hl
  go_loopw [13] (fun v13 wr => ∃ (i : Nat) (ys : List (Nat × Nat)), i ≤ zs.length ∧ v13 = .int .i64 i ∧ Aside0 (ys.length = zs.length) ∧ Aside0 (Kd.R kb 35 wr w.heap.size (fun _ => True) (.slice (some ⟨g, 0, none⟩) ys.length cap) ys) ∧ Aside0 (Below w.heap.size w wr) ∧ Aside0 (∀ j, j < i → rel (ys.getD j (0, 0)) ((fun z => mulz z q) (zs.getD j cxZero)))) (fun v13 _ => zs.length - (intOf v13).toNat)
  case atStart => exact ⟨0, List.replicate zs.length (0, 0), Nat.zero_le _, rfl, ⟨by simp⟩, ⟨HR0.out⟩, ⟨HB0.out⟩, ⟨fun j hj => by omega⟩⟩
  case round =>
    obtain ⟨i, ys, hi, rfl, HL, HR, HB, HI⟩ := hrel
    by_cases hlt : i < zs.length
    · obtain ⟨ad, e, h0⟩ := at_kb (Kd.C_below hr HB.out) (i : Int) (by omega) (by omega)
      subst e
      have hrl := t.2 i hlt
      have hz := hsm (zs.getD i cxZero) (by rw [List.getD_eq_getElem?_getD, List.getElem?_eq_getElem hlt]; exact List.getElem_mem hlt)
      have hrd : rdOf (0, 0) bs (i : Int) = bs.getD i (0, 0) := rfl
      rw [hrd] at h0
      clear hrd
      obtain ⟨k0, k1⟩ := Kd.R_cell ((0, 0) : Nat × Nat) HR.out (i : Int) (by omega) (by rw [HL.out]; omega)
      simp only [Int.toNat_natCast] at h0 k0 k1
      have HRL := Lib.hid hrl
      generalize bs.getD i (0, 0) = b at *
      have HZ := Lib.hid hz
      clear hz hrl
      have hpw := below_cell HB.out hp
      go_wp2_with (go_at_call 27; refine (turn1_any b cb _ q HRL.out hq HZ.out hqs p _ hpw).mono ?_; rintro e w2 ⟨⟨r1, r2, rfl, hrr⟩, rfl⟩; have HRR := Lib.hid hrr; clear hrr)
      go_roundw
      case rel =>
        have hp2 := (Kd.R_put HR.out (i : Int) (r1, r2)).1
        simp only [Int.toNat_natCast] at hp2
        refine ⟨i + 1, ys.set i (r1, r2), by omega, by go_num, ⟨by rw [List.length_set]; exact HL.out⟩, ⟨by rw [List.length_set]; exact hp2⟩, ⟨below_set HB.out hg⟩, ⟨fun j hj => ?_⟩⟩
        have hys := HL.out
        by_cases hji : j = i
        · subst hji
          rw [List.getD_eq_getElem?_getD, List.getElem?_set_self (by omega)]; exact HRR.out
        · rw [List.getD_eq_getElem?_getD, List.getElem?_set_ne (by omega), ← List.getD_eq_getElem?_getD]; exact HI.out j (by omega)
      case measure => simp [intOf]; omega
    · have he : i = zs.length := by omega
      have HE := Lib.hid he
      clear he
      go_wp2
      go_ret
      have hfin : Kd.R kb 35 wr w.heap.size (fun _ => True) (.slice (some ⟨g, 0, none⟩) zs.length cap) ys ∧ Rels ys (zs.map (fun z => mulz z q)) ∧ Below w.heap.size w wr := by
        refine ⟨by rw [← HL.out]; exact HR.out, ⟨by rw [HL.out, List.length_map], fun j hj => ?_⟩, HB.out⟩
        rw [List.length_map] at hj
        have := HI.out j (by rw [HE.out]; exact hj)
        rw [List.getD_eq_getElem?_getD (l := List.map _ _), List.getElem?_map, List.getElem?_eq_getElem hj]
        rw [List.getD_eq_getElem?_getD (l := zs), List.getElem?_eq_getElem hj] at this
        exact this
      first | exact ⟨_, rfl, ys, hfin⟩ | exact ⟨_, ys, rfl, hfin⟩

set_option maxHeartbeats 4000000 in
theorem each_shift (A : Option Addr) (c : Nat) (bs : List (Nat × Nat)) (zs : List CX) (q : CX) (cb : Nat × Nat) (hq : rel cb q) (hqs : sm 1000000 q) (p : Addr) (w : World) (hp : w.cell? p = some (encB cb)) (hsm : ∀ z ∈ zs, sm 1000000 z) (hr : Kd.C kb w A zs.length bs) (t : Rels bs zs) (hlen : zs.length ≤ 1000) :
    Calls Try.prog 26 #[.slice A zs.length c, .func (Fn.func 30) #[] #[.pointer (some p)]] w fun e w' => ∃ v rs, e = .returned v ∧ Kd.R kb 35 w' w.heap.size (fun _ => True) v rs ∧ Rels rs (zs.map (fun z => addz z q)) ∧ Below w.heap.size w w' := by
  have hbl : bs.length = zs.length := t.1
  go_enter Try.func26, Try.ntmps26
  go_wp2_with (refine Kd.R_make kb w.heap.size 35 rfl rfl 27 (.tmp 9) (.tmp 9) rfl zs.length rfl rfl Try.underlying27 (.complex .f64 0 0) 16 info35 rfl (by decide) (by decide) ((0, 0) : Nat × Nat) (ok := fun _ => True) (okp := fun _ => False) rfl (fun _ h => h.elim) trivial (by omega) (by simp; omega) (Below.refl _ _) (Nat.le_refl _) ?_; intro v1 w1 hR hB _ hown; (obtain ⟨inner, ho⟩ := Kd.R_own hR); (rcases ho.2 with ⟨hz, _⟩ | ⟨g, cap, cur, rfl, hg, hh, hl, hm, hcs, htk⟩); (exfalso; obtain ⟨b, hb, _⟩ := hown; rw [hz] at hb; simp [Value.ownBlock] at hb); (have HR0 := Lib.hid hR); (have HB0 := Lib.hid hB); clear hR hB ho htk hcs hh hown)
  simp only [Int.toNat_natCast] at HR0
  clear hl
  go_loopw [13] (fun v13 wr => ∃ (i : Nat) (ys : List (Nat × Nat)), i ≤ zs.length ∧ v13 = .int .i64 i ∧ Aside0 (ys.length = zs.length) ∧ Aside0 (Kd.R kb 35 wr w.heap.size (fun _ => True) (.slice (some ⟨g, 0, none⟩) ys.length cap) ys) ∧ Aside0 (Below w.heap.size w wr) ∧ Aside0 (∀ j, j < i → rel (ys.getD j (0, 0)) ((fun z => addz z q) (zs.getD j cxZero)))) (fun v13 _ => zs.length - (intOf v13).toNat)
  case atStart => exact ⟨0, List.replicate zs.length (0, 0), Nat.zero_le _, rfl, ⟨by simp⟩, ⟨HR0.out⟩, ⟨HB0.out⟩, ⟨fun j hj => by omega⟩⟩
  case round =>
    obtain ⟨i, ys, hi, rfl, HL, HR, HB, HI⟩ := hrel
    by_cases hlt : i < zs.length
    · obtain ⟨ad, e, h0⟩ := at_kb (Kd.C_below hr HB.out) (i : Int) (by omega) (by omega)
      subst e
      have hrl := t.2 i hlt
      have hz := hsm (zs.getD i cxZero) (by rw [List.getD_eq_getElem?_getD, List.getElem?_eq_getElem hlt]; exact List.getElem_mem hlt)
      have hrd : rdOf (0, 0) bs (i : Int) = bs.getD i (0, 0) := rfl
      rw [hrd] at h0
      clear hrd
      obtain ⟨k0, k1⟩ := Kd.R_cell ((0, 0) : Nat × Nat) HR.out (i : Int) (by omega) (by rw [HL.out]; omega)
      simp only [Int.toNat_natCast] at h0 k0 k1
      have HRL := Lib.hid hrl
      generalize bs.getD i (0, 0) = b at *
      have HZ := Lib.hid hz
      clear hz hrl
      have hpw := below_cell HB.out hp
      go_wp2_with (go_at_call 30; refine (shift1_any b cb _ q HRL.out hq HZ.out hqs p _ hpw).mono ?_; rintro e w2 ⟨⟨r1, r2, rfl, hrr⟩, rfl⟩; have HRR := Lib.hid hrr; clear hrr)
      go_roundw
      case rel =>
        have hp2 := (Kd.R_put HR.out (i : Int) (r1, r2)).1
        simp only [Int.toNat_natCast] at hp2
        refine ⟨i + 1, ys.set i (r1, r2), by omega, by go_num, ⟨by rw [List.length_set]; exact HL.out⟩, ⟨by rw [List.length_set]; exact hp2⟩, ⟨below_set HB.out hg⟩, ⟨fun j hj => ?_⟩⟩
        have hys := HL.out
        by_cases hji : j = i
        · subst hji
          rw [List.getD_eq_getElem?_getD, List.getElem?_set_self (by omega)]; exact HRR.out
        · rw [List.getD_eq_getElem?_getD, List.getElem?_set_ne (by omega), ← List.getD_eq_getElem?_getD]; exact HI.out j (by omega)
      case measure => simp [intOf]; omega
    · have he : i = zs.length := by omega
      have HE := Lib.hid he
      clear he
      go_wp2
      go_ret
      have hfin : Kd.R kb 35 wr w.heap.size (fun _ => True) (.slice (some ⟨g, 0, none⟩) zs.length cap) ys ∧ Rels ys (zs.map (fun z => addz z q)) ∧ Below w.heap.size w wr := by
        refine ⟨by rw [← HL.out]; exact HR.out, ⟨by rw [HL.out, List.length_map], fun j hj => ?_⟩, HB.out⟩
        rw [List.length_map] at hj
        have := HI.out j (by rw [HE.out]; exact hj)
        rw [List.getD_eq_getElem?_getD (l := List.map _ _), List.getElem?_map, List.getElem?_eq_getElem hj]
        rw [List.getD_eq_getElem?_getD (l := zs), List.getElem?_eq_getElem hj] at this
        exact this
      first | exact ⟨_, rfl, ys, hfin⟩ | exact ⟨_, ys, rfl, hfin⟩

set_option maxHeartbeats 4000000 in
theorem each_about (A : Option Addr) (c : Nat) (bs : List (Nat × Nat)) (zs : List CX) (w : World) (hsm : ∀ z ∈ zs, sm 1000000 z) (hr : Kd.C kb w A zs.length bs) (t : Rels bs zs) (hlen : zs.length ≤ 1000) :
    Calls Try.prog 26 #[.slice A zs.length c, .func (Fn.func 29) #[] #[]] w fun e w' => ∃ v rs, e = .returned v ∧ Kd.R kb 35 w' w.heap.size (fun _ => True) v rs ∧ Rels rs (zs.map conjz) ∧ Below w.heap.size w w' := by
  have hbl : bs.length = zs.length := t.1
  go_enter Try.func26, Try.ntmps26
  go_wp2_with (refine Kd.R_make kb w.heap.size 35 rfl rfl 27 (.tmp 9) (.tmp 9) rfl zs.length rfl rfl Try.underlying27 (.complex .f64 0 0) 16 info35 rfl (by decide) (by decide) ((0, 0) : Nat × Nat) (ok := fun _ => True) (okp := fun _ => False) rfl (fun _ h => h.elim) trivial (by omega) (by simp; omega) (Below.refl _ _) (Nat.le_refl _) ?_; intro v1 w1 hR hB _ hown; (obtain ⟨inner, ho⟩ := Kd.R_own hR); (rcases ho.2 with ⟨hz, _⟩ | ⟨g, cap, cur, rfl, hg, hh, hl, hm, hcs, htk⟩); (exfalso; obtain ⟨b, hb, _⟩ := hown; rw [hz] at hb; simp [Value.ownBlock] at hb); (have HR0 := Lib.hid hR); (have HB0 := Lib.hid hB); clear hR hB ho htk hcs hh hown)
  simp only [Int.toNat_natCast] at HR0
  clear hl
  go_loopw [13] (fun v13 wr => ∃ (i : Nat) (ys : List (Nat × Nat)), i ≤ zs.length ∧ v13 = .int .i64 i ∧ Aside0 (ys.length = zs.length) ∧ Aside0 (Kd.R kb 35 wr w.heap.size (fun _ => True) (.slice (some ⟨g, 0, none⟩) ys.length cap) ys) ∧ Aside0 (Below w.heap.size w wr) ∧ Aside0 (∀ j, j < i → rel (ys.getD j (0, 0)) (conjz (zs.getD j cxZero)))) (fun v13 _ => zs.length - (intOf v13).toNat)
  case atStart => exact ⟨0, List.replicate zs.length (0, 0), Nat.zero_le _, rfl, ⟨by simp⟩, ⟨HR0.out⟩, ⟨HB0.out⟩, ⟨fun j hj => by omega⟩⟩
  case round =>
    obtain ⟨i, ys, hi, rfl, HL, HR, HB, HI⟩ := hrel
    by_cases hlt : i < zs.length
    · obtain ⟨ad, e, h0⟩ := at_kb (Kd.C_below hr HB.out) (i : Int) (by omega) (by omega)
      subst e
      have hrl := t.2 i hlt
      have hz := hsm (zs.getD i cxZero) (by rw [List.getD_eq_getElem?_getD, List.getElem?_eq_getElem hlt]; exact List.getElem_mem hlt)
      have hrd : rdOf (0, 0) bs (i : Int) = bs.getD i (0, 0) := rfl
      rw [hrd] at h0
      clear hrd
      obtain ⟨k0, k1⟩ := Kd.R_cell ((0, 0) : Nat × Nat) HR.out (i : Int) (by omega) (by rw [HL.out]; omega)
      simp only [Int.toNat_natCast] at h0 k0 k1
      have HRL := Lib.hid hrl
      generalize bs.getD i (0, 0) = b at *
      have HZ := Lib.hid hz
      clear hz hrl
      skip
      go_wp2_with (go_at_call 29; refine (about_any b _ HRL.out HZ.out _).mono ?_; rintro e w2 ⟨⟨r1, r2, rfl, hrr⟩, rfl⟩; have HRR := Lib.hid hrr; clear hrr)
      go_roundw
      case rel =>
        have hp2 := (Kd.R_put HR.out (i : Int) (r1, r2)).1
        simp only [Int.toNat_natCast] at hp2
        refine ⟨i + 1, ys.set i (r1, r2), by omega, by go_num, ⟨by rw [List.length_set]; exact HL.out⟩, ⟨by rw [List.length_set]; exact hp2⟩, ⟨below_set HB.out hg⟩, ⟨fun j hj => ?_⟩⟩
        have hys := HL.out
        by_cases hji : j = i
        · subst hji
          rw [List.getD_eq_getElem?_getD, List.getElem?_set_self (by omega)]; exact HRR.out
        · rw [List.getD_eq_getElem?_getD, List.getElem?_set_ne (by omega), ← List.getD_eq_getElem?_getD]; exact HI.out j (by omega)
      case measure => simp [intOf]; omega
    · have he : i = zs.length := by omega
      have HE := Lib.hid he
      clear he
      go_wp2
      go_ret
      have hfin : Kd.R kb 35 wr w.heap.size (fun _ => True) (.slice (some ⟨g, 0, none⟩) zs.length cap) ys ∧ Rels ys (zs.map conjz) ∧ Below w.heap.size w wr := by
        refine ⟨by rw [← HL.out]; exact HR.out, ⟨by rw [HL.out, List.length_map], fun j hj => ?_⟩, HB.out⟩
        rw [List.length_map] at hj
        have := HI.out j (by rw [HE.out]; exact hj)
        rw [List.getD_eq_getElem?_getD (l := List.map _ _), List.getElem?_map, List.getElem?_eq_getElem hj]
        rw [List.getD_eq_getElem?_getD (l := zs), List.getElem?_eq_getElem hj] at this
        exact this
      first | exact ⟨_, rfl, ys, hfin⟩ | exact ⟨_, ys, rfl, hfin⟩
end Go.Proofs.Ytdpcfamgmicboad
