/- A condition as a text. Rules as a text. A state that may be. Scopes: what the closures do, and five of the eight kinds; no condition beyond each theorem its own. -/
import Derived.Test.YtafigkikblpbnaaGreatJ05
import Derived.Test.YtafigkikblpbnaaGreatHandAC
import Derived.Test.YtafigkikblpbnaaGreatJ04
import Derived.Test.YtafigkikblpbnaaGreatJ07
namespace Go.Proofs.YtafigkikblpbnaaGreat.PG
open Go.RowKit Go.Proofs.YtafigkikblpbnaaGreatW.PrintWords Go.Proofs.YtafigkikblpbnaaGreatW.PrintLast Go.Proofs.YtafigkikblpbnaaGreatW.PrintMore
set_option linter.unusedVariables false
set_option linter.unusedSimpArgs false
set_option maxRecDepth 100000

/-- How long a condition's text is at most. -/
def EB : Nat → Nat
  | 0 => 0
  | d + 1 => 24 * (EB d + 7) + 60
/-- It answers a text of such a size; nothing that was there is turned. -/
def RTb (n : Nat) (w : World) (e : Ending) (w' : World) : Prop := ∃ s : ByteArray, e = .returned (.string s) ∧ s.size ≤ n ∧ Below w.heap.size w w'
set_option maxHeartbeats 4000000 in
theorem Expr17 : ∀ (d : Nat) (x : S95) (A : Option Addr) (c : Nat) (W : World), EB d ≤ 100000000000000 → H95 d x → Kd.C k95 W A x.f3.length x.f3 → x.f3.length ≤ c →
    Calls Tryz.prog 34 #[.agg #[.int .i64 x.f0, .int .i64 x.f1, .string x.f2, .slice A x.f3.length c]] W (RTb (EB d) W) := by
  intro d
  induction d with
  | zero => intro x A c W _ h; exact absurd h id
  | succ d ih =>
    intro x A c W hE hH hC hl
    have HIH := Lib.hid ih
    clear ih
    have HB := Lib.hid (show Below W.heap.size W (W.alloc (.cells #[.int .i64 x.f0, .int .i64 x.f1, .string x.f2, .slice A x.f3.length c] 95 (0, 0))) from below_alloc (Below.refl _ _) _)
    have HY := Lib.hid (new_blk W (.cells #[.int .i64 x.f0, .int .i64 x.f1, .string x.f2, .slice A x.f3.length c] 95 (0, 0)))
    have HC := Lib.hid (Kd.C_below hC HB.out)
    have HH := Lib.hid hH
    have hm : x.f3.length ≤ 24 := hH.2.1
    have h16 : x.f2.size ≤ 16 := hH.1
    have hE2 : 24 * (EB d + 7) + 60 ≤ 100000000000000 := hE
    have HEB := Lib.hid (show EB (d + 1) = 24 * (EB d + 7) + 60 from rfl)
    clear hC hH hE
    have q0 : (W.alloc (.cells #[.int .i64 x.f0, .int .i64 x.f1, .string x.f2, .slice A x.f3.length c] 95 (0, 0))).cell? ⟨W.heap.size, 0, none⟩ = some (.int .i64 x.f0) := (blk_cell HY.out 0).trans rfl
    have q1 : (W.alloc (.cells #[.int .i64 x.f0, .int .i64 x.f1, .string x.f2, .slice A x.f3.length c] 95 (0, 0))).cell? ⟨W.heap.size, 1, none⟩ = some (.int .i64 x.f1) := (blk_cell HY.out 1).trans rfl
    have q2 : (W.alloc (.cells #[.int .i64 x.f0, .int .i64 x.f1, .string x.f2, .slice A x.f3.length c] 95 (0, 0))).cell? ⟨W.heap.size, 2, none⟩ = some (.string x.f2) := (blk_cell HY.out 2).trans rfl
    have q3 : (W.alloc (.cells #[.int .i64 x.f0, .int .i64 x.f1, .string x.f2, .slice A x.f3.length c] 95 (0, 0))).cell? ⟨W.heap.size, 3, none⟩ = some (.slice A x.f3.length c) := (blk_cell HY.out 3).trans rfl
    by_cases hop : x.f0 = 1
    · have hop' : (x.f0 == 1) = true := by simp [hop]
      obtain ⟨tx, HT, htx⟩ : ∃ tx : ByteArray, (∀ w, Hid (Calls Tryz.prog 72 #[.int .i64 x.f1] w fun e w' => e = .returned (.string tx) ∧ ∃ m, w' = w.drewN m)) ∧ tx.size ≤ 21 := ⟨_, fun w => Text_any x.f1 w, by
        split
        · exact Nat.zero_le _
        · exact txS_size _⟩
      have hz1 : tx.size + (⟨#[32, 97, 102, 116, 101, 114, 32]⟩ : ByteArray).size ≤ 9223372036854775807 := by rw [show (⟨#[32, 97, 102, 116, 101, 114, 32]⟩ : ByteArray).size = 7 from rfl]; omega
      have hz2 : (tx ++ (⟨#[32, 97, 102, 116, 101, 114, 32]⟩ : ByteArray)).size + x.f2.size ≤ 9223372036854775807 := by rw [ByteArray.size_append, show (⟨#[32, 97, 102, 116, 101, 114, 32]⟩ : ByteArray).size = 7 from rfl]; omega
      go_enter Tryz.func34, Tryz.ntmps34
      go_wp2_with fail
      go_quiet (first | (go_at_call 72; exact Calls.quiet_of (HT _).out))
      go_wp2
      go_ret
      exact ⟨_, rfl, by rw [HEB.out, ByteArray.size_append, ByteArray.size_append, show (⟨#[32, 97, 102, 116, 101, 114, 32]⟩ : ByteArray).size = 7 from rfl]; omega, pw_below_drewN (below_alloc (Below.refl _ _) _) _⟩
    · have hop' : (x.f0 == 1) = false := by simp [hop]
      go_enter Tryz.func34, Tryz.ntmps34
      go_wp2
      generalize W.alloc (.cells #[.int .i64 x.f0, .int .i64 x.f1, .string x.f2, .slice A x.f3.length c] 95 (0, 0)) = W1 at *
      clear q0 q1 q2 q3
      go_loopw [3, 4] (fun v3 v4 wr => ∃ (k : Nat) (t : ByteArray), v4 = .int .i64 k ∧ k ≤ x.f3.length ∧ v3 = .string t ∧ Aside0 (t.size ≤ k * (EB d + 7)) ∧ Aside0 (Below W1.heap.size W1 wr)) (fun v3 v4 _ => x.f3.length - (intOf v4).toNat)
      case atStart => exact ⟨0, _, rfl, Nat.zero_le _, rfl, ⟨Nat.zero_le _⟩, ⟨Below.refl _ _⟩⟩
      case round =>
        obtain ⟨k, t, rfl, hk, rfl, HS, HBW⟩ := hrel
        have HY2 := Lib.hid ((HBW.out.block W.heap.size (blk_lt HY.out)).trans HY.out)
        have q0 : (wr).cell? ⟨W.heap.size, 0, none⟩ = some (.int .i64 x.f0) := (blk_cell HY2.out 0).trans rfl
        have q1 : (wr).cell? ⟨W.heap.size, 1, none⟩ = some (.int .i64 x.f1) := (blk_cell HY2.out 1).trans rfl
        have q2 : (wr).cell? ⟨W.heap.size, 2, none⟩ = some (.string x.f2) := (blk_cell HY2.out 2).trans rfl
        have q3 : (wr).cell? ⟨W.heap.size, 3, none⟩ = some (.slice A x.f3.length c) := (blk_cell HY2.out 3).trans rfl
        by_cases hlt : k < x.f3.length
        · have hlt2 : (k : Int) < (x.f3.length : Int) := by omega
          obtain ⟨ad, A4, c4, e, h0, h1, h2, h3, hl4, hC4⟩ := at_T95 (Kd.C_below HC.out HBW.out) (k : Int) (by omega) (by omega)
          subst e
          simp only [Int.toNat_natCast] at h0 h1 h2 h3
          have hy := HH.out.2.2 _ (rd_mem95 hlt)
          generalize rd_T95 x.f3 (k : Int) = y at *
          have HBA := Lib.hid (below_alloc (Below.refl wr.heap.size wr) (.cells #[.int .i64 y.f0, .int .i64 y.f1, .string y.f2, .slice A4 y.f3.length c4] 95 (0, 0)))
          have HYA := Lib.hid (new_blk wr (.cells #[.int .i64 y.f0, .int .i64 y.f1, .string y.f2, .slice A4 y.f3.length c4] 95 (0, 0)))
          have HYB := Lib.hid ((HBA.out.block W.heap.size (blk_lt HY2.out)).trans HY2.out)
          have HCALL := Lib.hid (HIH.out y A4 c4 (wr.alloc (.cells #[.int .i64 y.f0, .int .i64 y.f1, .string y.f2, .slice A4 y.f3.length c4] 95 (0, 0))) (by omega) hy (Kd.C_below hC4 HBA.out) hl4)
          clear hC4 hl4 hy
          go_wp2_with fail
          refine HCALL.out.mono ?_
          rintro e w2 ⟨s, rfl, hs, hb⟩
          have HB2 := Lib.hid (below_tr HBW.out (below_tr HBA.out hb))
          have HY3 := Lib.hid ((hb.block W.heap.size (blk_lt HYB.out)).trans HYB.out)
          have HY4 := Lib.hid ((hb.block wr.heap.size (blk_lt HYA.out)).trans HYA.out)
          clear hb q0 q1 q2 q3 h0 h1 h2 h3
          have q0 : w2.cell? ⟨W.heap.size, 0, none⟩ = some (.int .i64 x.f0) := (blk_cell HY3.out 0).trans rfl
          have q1 : w2.cell? ⟨W.heap.size, 1, none⟩ = some (.int .i64 x.f1) := (blk_cell HY3.out 1).trans rfl
          have q2 : w2.cell? ⟨W.heap.size, 2, none⟩ = some (.string x.f2) := (blk_cell HY3.out 2).trans rfl
          have q3 : w2.cell? ⟨W.heap.size, 3, none⟩ = some (.slice (some ad) x.f3.length c) := (blk_cell HY3.out 3).trans rfl
          have r0 : w2.cell? ⟨wr.heap.size, 0, none⟩ = some (.int .i64 y.f0) := (blk_cell HY4.out 0).trans rfl
          have r1 : w2.cell? ⟨wr.heap.size, 1, none⟩ = some (.int .i64 y.f1) := (blk_cell HY4.out 1).trans rfl
          have r2 : w2.cell? ⟨wr.heap.size, 2, none⟩ = some (.string y.f2) := (blk_cell HY4.out 2).trans rfl
          have r3 : w2.cell? ⟨wr.heap.size, 3, none⟩ = some (.slice A4 y.f3.length c4) := (blk_cell HY4.out 3).trans rfl
          have ht : t.size ≤ 100000000000000 := by have h := HS.out; have h3 : k * (EB d + 7) ≤ 24 * (EB d + 7) := Nat.mul_le_mul_right _ (by omega); omega
          go_wp2
          all_goals first
            | (exfalso; omega)
            | (go_roundw
               case rel => exact ⟨k + 1, _, by go_num, by omega, rfl, ⟨by
                 have h := HS.out
                 have e1 : (⟨#[40]⟩ : ByteArray).size = 1 := rfl
                 have e2 : (⟨#[41]⟩ : ByteArray).size = 1 := rfl
                 have e3 : (⟨#[32, 111, 114, 32]⟩ : ByteArray).size = 4 := rfl
                 have e4 : (⟨#[32, 97, 110, 100, 32]⟩ : ByteArray).size = 5 := rfl
                 rw [Nat.succ_mul]
                 simp only [ByteArray.size_append, e1, e2, e3, e4]
                 omega⟩, ⟨HB2.out⟩⟩
               case measure => simp [intOf]; omega)
        · go_wp2
          go_ret
          exact ⟨t, rfl, by have h := HS.out; have h2 := HEB.out; have h3 : k * (EB d + 7) ≤ 24 * (EB d + 7) := Nat.mul_le_mul_right _ (by omega); omega, below_tr HB.out HBW.out⟩
end Go.Proofs.YtafigkikblpbnaaGreat.PG
namespace Go.Proofs.YtafigkikblpbnaaGreat.PG
open Go.RowKit Go.Proofs.YtafigkikblpbnaaGreatW.PrintWords Go.Proofs.YtafigkikblpbnaaGreatW.PrintLast Go.Proofs.YtafigkikblpbnaaGreatW.PrintMore
set_option linter.unusedVariables false
set_option linter.unusedSimpArgs false
set_option maxRecDepth 100000

/-- It answers a text and a number; where it is 0 p holds; nothing that was there is turned. -/
def RTI (p : Prop) (w : World) (e : Ending) (w' : World) : Prop := ∃ (s : ByteArray) (r : Int), e = .returned (.tuple #[.string s, .int .i64 r]) ∧ (r = 0 → p) ∧ Below w.heap.size w w'
set_option maxHeartbeats 4000000 in
theorem Print17 (l : List S97) (A : Option Addr) (c : Nat) (W : World) (hC : Kd.C k97 W A l.length l) (hl : l.length ≤ c) (hz : ∀ x ∈ l, x.f0.size ≤ 140737488351232 ∧ Z95 x.f1) :
    Calls Tryz.prog 12 #[.slice A l.length c] W (RTI (l.length ≤ 12 ∧ ∀ x ∈ l, H95 8 x.f1 ∧ x.f0.size ≤ 16) W) := by
  have hm : l.length ≤ 9223372036854775807 := hC.2.1
  have HCALL := Lib.hid (Check17 l A c W hC hl hz)
  clear hz
  go_enter Tryz.func12, Tryz.ntmps12
  go_wp2_with fail
  refine HCALL.out.mono ?_
  rintro e w2 ⟨r, rfl, hr, hb⟩
  have HB := Lib.hid hb
  have HC := Lib.hid (Kd.C_below hC hb)
  have HR := Lib.hid hr
  clear hb hC hr
  by_cases h0 : r = 0
  · subst h0
    obtain ⟨h12, hall⟩ := HR.out rfl
    have HALL := Lib.hid hall
    clear hall
    go_wp2
    go_loopw [5, 6] (fun v5 v6 wr => ∃ (k : Nat) (t : ByteArray), v6 = .int .i64 k ∧ k ≤ l.length ∧ v5 = .string t ∧ Aside0 (t.size ≤ k * (EB 8 + 100)) ∧ Aside0 (Below w2.heap.size w2 wr)) (fun v5 v6 _ => l.length - (intOf v6).toNat)
    case atStart => exact ⟨0, _, rfl, Nat.zero_le _, rfl, ⟨Nat.zero_le _⟩, ⟨Below.refl _ _⟩⟩
    case round =>
      obtain ⟨k, t, rfl, hk, rfl, HS, HBW⟩ := hrel
      have ht : t.size ≤ 2000000000000000 := by have h := HS.out; have h3 : k * (EB 8 + 100) ≤ 12 * (EB 8 + 100) := Nat.mul_le_mul_right _ (by omega); have h4 : EB 8 ≤ 100000000000000 := (by decide); omega
      by_cases hlt : k < l.length
      · have hlt2 : (k : Int) < (l.length : Int) := by omega
        obtain ⟨ad, A4, c4, e, h0, h1, h2, h3, h4, h5, hl4, hC4⟩ := at_T97 (Kd.C_below HC.out HBW.out) (k : Int) (by omega) (by omega)
        subst e
        simp only [Int.toNat_natCast] at h0 h1 h2 h3 h4 h5
        have hy := HALL.out _ (rd_mem97 hlt)
        generalize rd_T97 l (k : Int) = y at *
        have hy0 := hy.2
        have HEX := fun w' (h : (Aside0 (Below wr.heap.size wr w') ∧ w'.cell? ⟨(ad.add (k * 6)).block, (ad.add (k * 6)).off + 1, none⟩ = some (.int .i64 y.f1.f0) ∧ w'.cell? ⟨(ad.add (k * 6)).block, (ad.add (k * 6)).off + 2, none⟩ = some (.int .i64 y.f1.f1) ∧ w'.cell? ⟨(ad.add (k * 6)).block, (ad.add (k * 6)).off + 3, none⟩ = some (.string y.f1.f2) ∧ w'.cell? ⟨(ad.add (k * 6)).block, (ad.add (k * 6)).off + 4, none⟩ = some (.slice A4 y.f1.f3.length c4) ∧ w'.cell? ⟨(ad.add (k * 6)).block, (ad.add (k * 6)).off + 5, none⟩ = some (.int .i64 y.f2))) => Lib.hid (Expr17 8 y.f1 A4 c4 w' (by decide) hy.1 (Kd.C_below hC4 h.1.out) hl4)
        have HKEEP := Lib.hid (show ∀ w1 w2 : World, (Aside0 (Below wr.heap.size wr w1) ∧ w1.cell? ⟨(ad.add (k * 6)).block, (ad.add (k * 6)).off + 1, none⟩ = some (.int .i64 y.f1.f0) ∧ w1.cell? ⟨(ad.add (k * 6)).block, (ad.add (k * 6)).off + 2, none⟩ = some (.int .i64 y.f1.f1) ∧ w1.cell? ⟨(ad.add (k * 6)).block, (ad.add (k * 6)).off + 3, none⟩ = some (.string y.f1.f2) ∧ w1.cell? ⟨(ad.add (k * 6)).block, (ad.add (k * 6)).off + 4, none⟩ = some (.slice A4 y.f1.f3.length c4) ∧ w1.cell? ⟨(ad.add (k * 6)).block, (ad.add (k * 6)).off + 5, none⟩ = some (.int .i64 y.f2)) → Below w1.heap.size w1 w2 → (Aside0 (Below wr.heap.size wr w2) ∧ w2.cell? ⟨(ad.add (k * 6)).block, (ad.add (k * 6)).off + 1, none⟩ = some (.int .i64 y.f1.f0) ∧ w2.cell? ⟨(ad.add (k * 6)).block, (ad.add (k * 6)).off + 2, none⟩ = some (.int .i64 y.f1.f1) ∧ w2.cell? ⟨(ad.add (k * 6)).block, (ad.add (k * 6)).off + 3, none⟩ = some (.string y.f1.f2) ∧ w2.cell? ⟨(ad.add (k * 6)).block, (ad.add (k * 6)).off + 4, none⟩ = some (.slice A4 y.f1.f3.length c4) ∧ w2.cell? ⟨(ad.add (k * 6)).block, (ad.add (k * 6)).off + 5, none⟩ = some (.int .i64 y.f2)) from fun w1 w2 h hb => ⟨⟨below_tr h.1.out hb⟩, below_cell hb h.2.1, below_cell hb h.2.2.1, below_cell hb h.2.2.2.1, below_cell hb h.2.2.2.2.1, below_cell hb h.2.2.2.2.2⟩)
        have HS0 := Lib.hid (show (Aside0 (Below wr.heap.size wr wr.drew) ∧ wr.drew.cell? ⟨(ad.add (k * 6)).block, (ad.add (k * 6)).off + 1, none⟩ = some (.int .i64 y.f1.f0) ∧ wr.drew.cell? ⟨(ad.add (k * 6)).block, (ad.add (k * 6)).off + 2, none⟩ = some (.int .i64 y.f1.f1) ∧ wr.drew.cell? ⟨(ad.add (k * 6)).block, (ad.add (k * 6)).off + 3, none⟩ = some (.string y.f1.f2) ∧ wr.drew.cell? ⟨(ad.add (k * 6)).block, (ad.add (k * 6)).off + 4, none⟩ = some (.slice A4 y.f1.f3.length c4) ∧ wr.drew.cell? ⟨(ad.add (k * 6)).block, (ad.add (k * 6)).off + 5, none⟩ = some (.int .i64 y.f2)) from ⟨⟨below_drew (Below.refl _ _)⟩, h1, h2, h3, h4, h5⟩)
        have HAC := fun w' => Lib.hid (act_any y.f2 w')
        clear hC4 hl4 hy
        have hE8 : EB 8 ≤ 100000000000000 := by decide
        have e7 : (⟨#[100, 101, 102, 97, 117, 108, 116]⟩ : ByteArray).size = 7 := rfl
        have e7b : (⟨#[99, 108, 97, 115, 115, 32, 34]⟩ : ByteArray).size = 7 := rfl
        have e1 : (⟨#[34]⟩ : ByteArray).size = 1 := rfl
        by_cases hcl : y.f0.toList.isEmpty = true
        · go_wp2_with fail
          all_goals first
            | (exfalso; omega)
            | skip
          generalize ht2 : t ++ (⟨#[100, 101, 102, 97, 117, 108, 116]⟩ : ByteArray) = t2 at *
          have HT2 := Lib.hid ht2
          clear ht2
          have z2 : t2.size ≤ t.size + 24 := by rw [← HT2.out]; simp only [ByteArray.size_append, e7, e7b, e1]; omega
          have z3 : ¬ 9223372036854775807 < t2.size + 6 := by omega
          have HZ4 := Lib.hid (show ∀ q : ByteArray, q.size ≤ EB 8 → ¬ 9223372036854775807 < t2.size + 6 + q.size from fun q hq => by omega)
          have HZ5 := Lib.hid (show ∀ q : ByteArray, q.size ≤ EB 8 → ¬ 9223372036854775807 < t2.size + 6 + q.size + 6 from fun q hq => by omega)
          have HZ6 := Lib.hid (show ∀ q q2 : ByteArray, q.size ≤ EB 8 → q2.size ≤ 7 → ¬ 9223372036854775807 < t2.size + 6 + q.size + 6 + q2.size from fun q q2 hq h2 => by omega)
          have HZ7 := Lib.hid (show ∀ q q2 : ByteArray, q.size ≤ EB 8 → q2.size ≤ 7 → ¬ 9223372036854775807 < t2.size + 6 + q.size + 6 + q2.size + 2 from fun q q2 hq h2 => by omega)
          go_region_held3 (fun w' => (Aside0 (Below wr.heap.size wr w') ∧ w'.cell? ⟨(ad.add (k * 6)).block, (ad.add (k * 6)).off + 1, none⟩ = some (.int .i64 y.f1.f0) ∧ w'.cell? ⟨(ad.add (k * 6)).block, (ad.add (k * 6)).off + 2, none⟩ = some (.int .i64 y.f1.f1) ∧ w'.cell? ⟨(ad.add (k * 6)).block, (ad.add (k * 6)).off + 3, none⟩ = some (.string y.f1.f2) ∧ w'.cell? ⟨(ad.add (k * 6)).block, (ad.add (k * 6)).off + 4, none⟩ = some (.slice A4 y.f1.f3.length c4) ∧ w'.cell? ⟨(ad.add (k * 6)).block, (ad.add (k * 6)).off + 5, none⟩ = some (.int .i64 y.f2))) (first | assumption | exact HS0.out | exact HKEEP.out _ _ (by assumption) hb) (first | (go_at_call 34; refine (HEX _ (by assumption)).out.mono ?_; rintro e w3 ⟨s, rfl, hs, hb⟩; have z4 := HZ4.out s hs; have z5 := HZ5.out s hs) | (go_at_call 35; refine (HAC _).out.mono ?_; rintro e w4 ⟨s2, rfl, hs2, rfl⟩; have z6 := HZ6.out s s2 hs hs2; have z7 := HZ7.out s s2 hs hs2))
          go_wp2
          go_roundw
          case rel => exact ⟨k + 1, _, by go_num, by omega, rfl, ⟨by
            have h := HS.out
            have e2 : (⟨#[32, 107, 101, 101, 112, 32]⟩ : ByteArray).size = 6 := rfl
            have e3 : (⟨#[32, 116, 104, 101, 110, 32]⟩ : ByteArray).size = 6 := rfl
            have e4 : (⟨#[59, 10]⟩ : ByteArray).size = 2 := rfl
            rw [Nat.succ_mul]
            simp only [ByteArray.size_append, e2, e3, e4]
            omega⟩, ⟨below_tr HBW.out (Aside0.out (And.left (by assumption)))⟩⟩
          case measure => simp [intOf]; omega
        · go_wp2_with fail
          all_goals first
            | (exfalso; omega)
            | skip
          generalize ht2 : t ++ (⟨#[99, 108, 97, 115, 115, 32, 34]⟩ : ByteArray) ++ y.f0 ++ (⟨#[34]⟩ : ByteArray) = t2 at *
          have HT2 := Lib.hid ht2
          clear ht2
          have z2 : t2.size ≤ t.size + 24 := by rw [← HT2.out]; simp only [ByteArray.size_append, e7, e7b, e1]; omega
          have z3 : ¬ 9223372036854775807 < t2.size + 6 := by omega
          have HZ4 := Lib.hid (show ∀ q : ByteArray, q.size ≤ EB 8 → ¬ 9223372036854775807 < t2.size + 6 + q.size from fun q hq => by omega)
          have HZ5 := Lib.hid (show ∀ q : ByteArray, q.size ≤ EB 8 → ¬ 9223372036854775807 < t2.size + 6 + q.size + 6 from fun q hq => by omega)
          have HZ6 := Lib.hid (show ∀ q q2 : ByteArray, q.size ≤ EB 8 → q2.size ≤ 7 → ¬ 9223372036854775807 < t2.size + 6 + q.size + 6 + q2.size from fun q q2 hq h2 => by omega)
          have HZ7 := Lib.hid (show ∀ q q2 : ByteArray, q.size ≤ EB 8 → q2.size ≤ 7 → ¬ 9223372036854775807 < t2.size + 6 + q.size + 6 + q2.size + 2 from fun q q2 hq h2 => by omega)
          go_region_held3 (fun w' => (Aside0 (Below wr.heap.size wr w') ∧ w'.cell? ⟨(ad.add (k * 6)).block, (ad.add (k * 6)).off + 1, none⟩ = some (.int .i64 y.f1.f0) ∧ w'.cell? ⟨(ad.add (k * 6)).block, (ad.add (k * 6)).off + 2, none⟩ = some (.int .i64 y.f1.f1) ∧ w'.cell? ⟨(ad.add (k * 6)).block, (ad.add (k * 6)).off + 3, none⟩ = some (.string y.f1.f2) ∧ w'.cell? ⟨(ad.add (k * 6)).block, (ad.add (k * 6)).off + 4, none⟩ = some (.slice A4 y.f1.f3.length c4) ∧ w'.cell? ⟨(ad.add (k * 6)).block, (ad.add (k * 6)).off + 5, none⟩ = some (.int .i64 y.f2))) (first | assumption | exact HS0.out | exact HKEEP.out _ _ (by assumption) hb) (first | (go_at_call 34; refine (HEX _ (by assumption)).out.mono ?_; rintro e w3 ⟨s, rfl, hs, hb⟩; have z4 := HZ4.out s hs; have z5 := HZ5.out s hs) | (go_at_call 35; refine (HAC _).out.mono ?_; rintro e w4 ⟨s2, rfl, hs2, rfl⟩; have z6 := HZ6.out s s2 hs hs2; have z7 := HZ7.out s s2 hs hs2))
          go_wp2
          go_roundw
          case rel => exact ⟨k + 1, _, by go_num, by omega, rfl, ⟨by
            have h := HS.out
            have e2 : (⟨#[32, 107, 101, 101, 112, 32]⟩ : ByteArray).size = 6 := rfl
            have e3 : (⟨#[32, 116, 104, 101, 110, 32]⟩ : ByteArray).size = 6 := rfl
            have e4 : (⟨#[59, 10]⟩ : ByteArray).size = 2 := rfl
            rw [Nat.succ_mul]
            simp only [ByteArray.size_append, e2, e3, e4]
            omega⟩, ⟨below_tr HBW.out (Aside0.out (And.left (by assumption)))⟩⟩
          case measure => simp [intOf]; omega
      · go_wp2
        all_goals
          go_ret2
          exact ⟨_, _, rfl, fun _ => ⟨h12, HALL.out⟩, below_tr HB.out HBW.out⟩
  · go_wp2
    go_ret2
    exact ⟨_, r, rfl, fun h => absurd h h0, HB.out⟩
end Go.Proofs.YtafigkikblpbnaaGreat.PG
namespace Go.Proofs.YtafigkikblpbnaaGreat.PG
open Go.RowKit Go.Proofs.YtafigkikblpbnaaGreatW.PrintWords Go.Proofs.YtafigkikblpbnaaGreatW.PrintLast Go.Proofs.YtafigkikblpbnaaGreatW.PrintMore
set_option linter.unusedVariables false
set_option linter.unusedSimpArgs false
set_option maxRecDepth 100000

/-- What is known of a state that may be. -/
structure May5 (s : S31) : Prop where
  rules : s.f2.length ≤ 12 ∧ ∀ x ∈ s.f2, H95 8 x.f1 ∧ x.f0.size ≤ 16
  miles : ∀ y ∈ s.f3, y.f1.length ≤ 8
  recs : Ok5 s

set_option maxHeartbeats 4000000 in
theorem May_any (s : S31) (A2 A3 A4 A5 A6 A7 A8 : Option Addr) (c2 c3 c4 c5 c6 c7 c8 : Nat) (W : World) (hs : Rs W s A2 A3 A4 A5 A6 A7 A8 c2 c3 c4 c5 c6 c7 c8) (hz : Zs s) : Calls Tryz.prog 5 #[.agg #[.int .i64 s.f0, .int .u64 s.f1, .slice A2 s.f2.length c2, .slice A3 s.f3.length c3, .slice A4 s.f4.length c4, .slice A5 s.f5.length c5, .slice A6 s.f6.length c6, .slice A7 s.f7.length c7, .slice A8 s.f8.length c8, .int .i64 s.f9]] W (RBq (May5 s) W) := by
  have HB := Lib.hid (show Below W.heap.size W (W.alloc (.cells #[.int .i64 s.f0, .int .u64 s.f1, .slice A2 s.f2.length c2, .slice A3 s.f3.length c3, .slice A4 s.f4.length c4, .slice A5 s.f5.length c5, .slice A6 s.f6.length c6, .slice A7 s.f7.length c7, .slice A8 s.f8.length c8, .int .i64 s.f9] 31 (0, 0))) from below_alloc (Below.refl _ _) _)
  have HY := Lib.hid (new_blk W (.cells #[.int .i64 s.f0, .int .u64 s.f1, .slice A2 s.f2.length c2, .slice A3 s.f3.length c3, .slice A4 s.f4.length c4, .slice A5 s.f5.length c5, .slice A6 s.f6.length c6, .slice A7 s.f7.length c7, .slice A8 s.f8.length c8, .int .i64 s.f9] 31 (0, 0)))
  have HS := Lib.hid (hs.below HB.out)
  have HZ := Lib.hid hz
  clear hs hz
  have HP := Lib.hid (Print17 s.f2 A2 c2 _ HS.out.g2 HS.out.l2 HZ.out.z2)
  go_enter Tryz.func5, Tryz.ntmps5
  go_wp2_with fail
  generalize W.alloc (.cells #[.int .i64 s.f0, .int .u64 s.f1, .slice A2 s.f2.length c2, .slice A3 s.f3.length c3, .slice A4 s.f4.length c4, .slice A5 s.f5.length c5, .slice A6 s.f6.length c6, .slice A7 s.f7.length c7, .slice A8 s.f8.length c8, .int .i64 s.f9] 31 (0, 0)) = W1 at *
  refine HP.out.mono ?_
  rintro e w2 ⟨st, r, rfl, hr, hb⟩
  have HR := Lib.hid hr
  have HB2 := Lib.hid (below_tr HB.out hb)
  have HY2 := Lib.hid ((hb.block W.heap.size (blk_lt HY.out)).trans HY.out)
  have HS2 := Lib.hid (HS.out.below hb)
  clear hr hb
  have q0 : (w2).cell? ⟨W.heap.size, 0, none⟩ = some (.int .i64 s.f0) := (blk_cell HY2.out 0).trans rfl
  have q1 : (w2).cell? ⟨W.heap.size, 1, none⟩ = some (.int .u64 s.f1) := (blk_cell HY2.out 1).trans rfl
  have q2 : (w2).cell? ⟨W.heap.size, 2, none⟩ = some (.slice A2 s.f2.length c2) := (blk_cell HY2.out 2).trans rfl
  have q3 : (w2).cell? ⟨W.heap.size, 3, none⟩ = some (.slice A3 s.f3.length c3) := (blk_cell HY2.out 3).trans rfl
  have q4 : (w2).cell? ⟨W.heap.size, 4, none⟩ = some (.slice A4 s.f4.length c4) := (blk_cell HY2.out 4).trans rfl
  have q5 : (w2).cell? ⟨W.heap.size, 5, none⟩ = some (.slice A5 s.f5.length c5) := (blk_cell HY2.out 5).trans rfl
  have q6 : (w2).cell? ⟨W.heap.size, 6, none⟩ = some (.slice A6 s.f6.length c6) := (blk_cell HY2.out 6).trans rfl
  have q7 : (w2).cell? ⟨W.heap.size, 7, none⟩ = some (.slice A7 s.f7.length c7) := (blk_cell HY2.out 7).trans rfl
  have q8 : (w2).cell? ⟨W.heap.size, 8, none⟩ = some (.slice A8 s.f8.length c8) := (blk_cell HY2.out 8).trans rfl
  have q9 : (w2).cell? ⟨W.heap.size, 9, none⟩ = some (.int .i64 s.f9) := (blk_cell HY2.out 9).trans rfl
  have HTK := fun w => Lib.hid (tick_any s.f0 w)
  by_cases hr0 : r = 0
  · have HR2 := Lib.hid (HR.out hr0)
    subst hr0
    go_wp2_with fail
    refine (HTK _).out.mono ?_
    rintro e w3 ⟨b, rfl, rfl⟩
    cases b
    · go_wp2_with fail
      go_ret
      exact RBq.no HB2.out
    · go_wp2_with fail
      all_goals first
        | (go_ret; exact RBq.no HB2.out)
        | skip
      refine (lists_any s _ _ _ _ _ _ _ _ _ _ _ _ _ _ _ HS2.out HZ.out).mono ?_
      rintro e w4 ⟨b, rfl, hm, hb⟩
      have HM := Lib.hid hm
      have HB4 := Lib.hid (below_tr HB2.out hb)
      have HY4 := Lib.hid ((hb.block W.heap.size (blk_lt HY2.out)).trans HY2.out)
      have HS4 := Lib.hid (HS2.out.below hb)
      clear hm hb q0 q1 q2 q3 q4 q5 q6 q7 q8 q9
      have q0 : (w4).cell? ⟨W.heap.size, 0, none⟩ = some (.int .i64 s.f0) := (blk_cell HY4.out 0).trans rfl
      have q1 : (w4).cell? ⟨W.heap.size, 1, none⟩ = some (.int .u64 s.f1) := (blk_cell HY4.out 1).trans rfl
      have q2 : (w4).cell? ⟨W.heap.size, 2, none⟩ = some (.slice A2 s.f2.length c2) := (blk_cell HY4.out 2).trans rfl
      have q3 : (w4).cell? ⟨W.heap.size, 3, none⟩ = some (.slice A3 s.f3.length c3) := (blk_cell HY4.out 3).trans rfl
      have q4 : (w4).cell? ⟨W.heap.size, 4, none⟩ = some (.slice A4 s.f4.length c4) := (blk_cell HY4.out 4).trans rfl
      have q5 : (w4).cell? ⟨W.heap.size, 5, none⟩ = some (.slice A5 s.f5.length c5) := (blk_cell HY4.out 5).trans rfl
      have q6 : (w4).cell? ⟨W.heap.size, 6, none⟩ = some (.slice A6 s.f6.length c6) := (blk_cell HY4.out 6).trans rfl
      have q7 : (w4).cell? ⟨W.heap.size, 7, none⟩ = some (.slice A7 s.f7.length c7) := (blk_cell HY4.out 7).trans rfl
      have q8 : (w4).cell? ⟨W.heap.size, 8, none⟩ = some (.slice A8 s.f8.length c8) := (blk_cell HY4.out 8).trans rfl
      have q9 : (w4).cell? ⟨W.heap.size, 9, none⟩ = some (.int .i64 s.f9) := (blk_cell HY4.out 9).trans rfl
      cases b
      · go_wp2_with fail
        go_ret
        exact RBq.no HB4.out
      · go_wp2_with fail
        refine (rest_any s _ _ _ _ _ _ _ _ _ _ _ _ _ _ _ HS4.out HZ.out).mono ?_
        rintro e w5 ⟨b, rfl, hm, hb⟩
        have HM5 := Lib.hid hm
        have HB5 := Lib.hid (below_tr HB4.out hb)
        clear hm hb q0 q1 q2 q3 q4 q5 q6 q7 q8 q9
        go_wp2_with fail
        go_ret
        exact ⟨b, rfl, fun h => ⟨HR2.out, HM.out (by simp), HM5.out h⟩, HB5.out⟩
  · have hr1 : (r == 0) = false := by simp [hr0]
    clear hr0
    go_wp2_with fail
    refine (HTK _).out.mono ?_
    rintro e w3 ⟨b, rfl, rfl⟩
    go_wp2_with fail
    all_goals (go_ret; exact RBq.no HB2.out)
end Go.Proofs.YtafigkikblpbnaaGreat.PG
namespace Go.Proofs.YtafigkikblpbnaaGreat.PG
open Go.RowKit Go.Proofs.YtafigkikblpbnaaGreatW.PrintWords Go.Proofs.YtafigkikblpbnaaGreatW.PrintLast Go.Proofs.YtafigkikblpbnaaGreatW.PrintMore
set_option linter.unusedVariables false
set_option linter.unusedSimpArgs false
set_option maxRecDepth 100000
theorem ix_any {α : Type} (p : α → Bool) : ∀ (l : List α) (i : Nat), decide (ix p l i ≥ 0) = l.any p
  | [], _ => rfl
  | x :: xs, i => by
    unfold ix
    by_cases h : p x = true
    · rw [if_pos h, List.any_cons, h]; simp
    · rw [if_neg h, ix_any p xs (i + 1), List.any_cons]
      simp [h]
/-- What a scope matches, so deep. -/
def mt : Nat → S52 → S73 → Bool
  | 0, _, _ => false
  | d + 1, x, r => if x.f0 = 1 then true else if x.f0 = 2 then (r.f1.toList == x.f1.toList) else if x.f0 = 3 then (r.f2.toList == x.f1.toList) else if x.f0 = 4 then (r.f3.toList == x.f1.toList)
      else if x.f0 = 5 then (decide (r.f4 ≥ x.f2) && decide (r.f4 ≤ x.f3)) else if x.f0 = 7 then x.f4.any (fun y => mt d y r) else if x.f0 = 6 then !(x.f4.any (fun y => !mt d y r))
      else if x.f0 = 8 then (if x.f4.length = 0 then true else !mt d (rd_T52 x.f4 0) r) else false
/-- A scope is at most so deep. -/
def dp : Nat → S52 → Prop
  | 0, _ => False
  | d + 1, x => ∀ y ∈ x.f4, dp d y
def MatchAt (d : Nat) : Prop := ∀ (x : S52) (r : S73) (A : Option Addr) (c : Nat) (W : World), dp d x → Kd.C k52 W A x.f4.length x.f4 → x.f4.length ≤ c →
  Calls Tryz.prog 120 #[.agg #[.int .i64 x.f0, .string x.f1, .int .i64 x.f2, .int .i64 x.f3, .slice A x.f4.length c], .agg #[.string r.f0, .string r.f1, .string r.f2, .string r.f3, .int .i64 r.f4, .int .i64 r.f5]] W fun e W' => e = .returned (.bool (mt d x r)) ∧ Below W.heap.size W W'
set_option maxHeartbeats 1000000 in
theorem lit1_any (d : Nat) (IH : MatchAt d) (y : S52) (r : S73) (A : Option Addr) (c : Nat) (br : Nat) (W : World) (hd : dp d y) (hC : Kd.C k52 W A y.f4.length y.f4) (hl : y.f4.length ≤ c) (hbr : W.heap[br]? = some (.cells #[.string r.f0, .string r.f1, .string r.f2, .string r.f3, .int .i64 r.f4, .int .i64 r.f5] 73 (0, 0))) :
    Calls Tryz.prog 146 #[.agg #[.int .i64 y.f0, .string y.f1, .int .i64 y.f2, .int .i64 y.f3, .slice A y.f4.length c], .pointer (some ⟨br, 0, none⟩)] W fun e W' => e = .returned (.bool (mt d y r)) ∧ Below W.heap.size W W' := by
  have HB := Lib.hid (show Below W.heap.size W (W.alloc (.cells #[.int .i64 y.f0, .string y.f1, .int .i64 y.f2, .int .i64 y.f3, .slice A y.f4.length c] 52 (0, 0))) from below_alloc (Below.refl _ _) _)
  have HY := Lib.hid (new_blk W (.cells #[.int .i64 y.f0, .string y.f1, .int .i64 y.f2, .int .i64 y.f3, .slice A y.f4.length c] 52 (0, 0)))
  have HR := Lib.hid ((HB.out.block br (blk_lt hbr)).trans hbr)
  have HCALL := Lib.hid (IH y r A c (W.alloc (.cells #[.int .i64 y.f0, .string y.f1, .int .i64 y.f2, .int .i64 y.f3, .slice A y.f4.length c] 52 (0, 0))) hd (Kd.C_below hC HB.out) hl)
  have q0 : (W.alloc (.cells #[.int .i64 y.f0, .string y.f1, .int .i64 y.f2, .int .i64 y.f3, .slice A y.f4.length c] 52 (0, 0))).cell? ⟨W.heap.size, 0, none⟩ = some (.int .i64 y.f0) := (blk_cell HY.out 0).trans rfl
  have q1 : (W.alloc (.cells #[.int .i64 y.f0, .string y.f1, .int .i64 y.f2, .int .i64 y.f3, .slice A y.f4.length c] 52 (0, 0))).cell? ⟨W.heap.size, 1, none⟩ = some (.string y.f1) := (blk_cell HY.out 1).trans rfl
  have q2 : (W.alloc (.cells #[.int .i64 y.f0, .string y.f1, .int .i64 y.f2, .int .i64 y.f3, .slice A y.f4.length c] 52 (0, 0))).cell? ⟨W.heap.size, 2, none⟩ = some (.int .i64 y.f2) := (blk_cell HY.out 2).trans rfl
  have q3 : (W.alloc (.cells #[.int .i64 y.f0, .string y.f1, .int .i64 y.f2, .int .i64 y.f3, .slice A y.f4.length c] 52 (0, 0))).cell? ⟨W.heap.size, 3, none⟩ = some (.int .i64 y.f3) := (blk_cell HY.out 3).trans rfl
  have q4 : (W.alloc (.cells #[.int .i64 y.f0, .string y.f1, .int .i64 y.f2, .int .i64 y.f3, .slice A y.f4.length c] 52 (0, 0))).cell? ⟨W.heap.size, 4, none⟩ = some (.slice A y.f4.length c) := (blk_cell HY.out 4).trans rfl
  have r0 : (W.alloc (.cells #[.int .i64 y.f0, .string y.f1, .int .i64 y.f2, .int .i64 y.f3, .slice A y.f4.length c] 52 (0, 0))).cell? ⟨br, 0, none⟩ = some (.string r.f0) := (blk_cell HR.out 0).trans rfl
  have r1 : (W.alloc (.cells #[.int .i64 y.f0, .string y.f1, .int .i64 y.f2, .int .i64 y.f3, .slice A y.f4.length c] 52 (0, 0))).cell? ⟨br, 1, none⟩ = some (.string r.f1) := (blk_cell HR.out 1).trans rfl
  have r2 : (W.alloc (.cells #[.int .i64 y.f0, .string y.f1, .int .i64 y.f2, .int .i64 y.f3, .slice A y.f4.length c] 52 (0, 0))).cell? ⟨br, 2, none⟩ = some (.string r.f2) := (blk_cell HR.out 2).trans rfl
  have r3 : (W.alloc (.cells #[.int .i64 y.f0, .string y.f1, .int .i64 y.f2, .int .i64 y.f3, .slice A y.f4.length c] 52 (0, 0))).cell? ⟨br, 3, none⟩ = some (.string r.f3) := (blk_cell HR.out 3).trans rfl
  have r4 : (W.alloc (.cells #[.int .i64 y.f0, .string y.f1, .int .i64 y.f2, .int .i64 y.f3, .slice A y.f4.length c] 52 (0, 0))).cell? ⟨br, 4, none⟩ = some (.int .i64 r.f4) := (blk_cell HR.out 4).trans rfl
  have r5 : (W.alloc (.cells #[.int .i64 y.f0, .string y.f1, .int .i64 y.f2, .int .i64 y.f3, .slice A y.f4.length c] 52 (0, 0))).cell? ⟨br, 5, none⟩ = some (.int .i64 r.f5) := (blk_cell HR.out 5).trans rfl
  clear hbr hC IH
  go_enter Tryz.func146, Tryz.ntmps146
  go_wp2_with fail
  refine HCALL.out.mono ?_
  rintro e w2 ⟨rfl, hb⟩
  go_wp2
  go_ret
  exact ⟨rfl, below_tr HB.out hb⟩
set_option maxHeartbeats 1000000 in
theorem lit2_any (d : Nat) (IH : MatchAt d) (y : S52) (r : S73) (A : Option Addr) (c : Nat) (br bm : Nat) (W : World) (hd : dp d y) (hC : Kd.C k52 W A y.f4.length y.f4) (hl : y.f4.length ≤ c) (hbr : W.heap[br]? = some (.cells #[.string r.f0, .string r.f1, .string r.f2, .string r.f3, .int .i64 r.f4, .int .i64 r.f5] 73 (0, 0)))
    (hbm : W.heap[bm]? = some (.cells #[.func (Fn.func 146) #[] #[.pointer (some ⟨br, 0, none⟩)]] 101 (0, 0))) :
    Calls Tryz.prog 148 #[.agg #[.int .i64 y.f0, .string y.f1, .int .i64 y.f2, .int .i64 y.f3, .slice A y.f4.length c], .pointer (some ⟨bm, 0, none⟩)] W fun e W' => e = .returned (.bool (!mt d y r)) ∧ Below W.heap.size W W' := by
  have HB := Lib.hid (show Below W.heap.size W (W.alloc (.cells #[.int .i64 y.f0, .string y.f1, .int .i64 y.f2, .int .i64 y.f3, .slice A y.f4.length c] 52 (0, 0))) from below_alloc (Below.refl _ _) _)
  have HY := Lib.hid (new_blk W (.cells #[.int .i64 y.f0, .string y.f1, .int .i64 y.f2, .int .i64 y.f3, .slice A y.f4.length c] 52 (0, 0)))
  have HM := Lib.hid ((HB.out.block bm (blk_lt hbm)).trans hbm)
  have HCALL := Lib.hid (lit1_any d IH y r A c br (W.alloc (.cells #[.int .i64 y.f0, .string y.f1, .int .i64 y.f2, .int .i64 y.f3, .slice A y.f4.length c] 52 (0, 0))) hd (Kd.C_below hC HB.out) hl ((HB.out.block br (blk_lt hbr)).trans hbr))
  have q0 : (W.alloc (.cells #[.int .i64 y.f0, .string y.f1, .int .i64 y.f2, .int .i64 y.f3, .slice A y.f4.length c] 52 (0, 0))).cell? ⟨W.heap.size, 0, none⟩ = some (.int .i64 y.f0) := (blk_cell HY.out 0).trans rfl
  have q1 : (W.alloc (.cells #[.int .i64 y.f0, .string y.f1, .int .i64 y.f2, .int .i64 y.f3, .slice A y.f4.length c] 52 (0, 0))).cell? ⟨W.heap.size, 1, none⟩ = some (.string y.f1) := (blk_cell HY.out 1).trans rfl
  have q2 : (W.alloc (.cells #[.int .i64 y.f0, .string y.f1, .int .i64 y.f2, .int .i64 y.f3, .slice A y.f4.length c] 52 (0, 0))).cell? ⟨W.heap.size, 2, none⟩ = some (.int .i64 y.f2) := (blk_cell HY.out 2).trans rfl
  have q3 : (W.alloc (.cells #[.int .i64 y.f0, .string y.f1, .int .i64 y.f2, .int .i64 y.f3, .slice A y.f4.length c] 52 (0, 0))).cell? ⟨W.heap.size, 3, none⟩ = some (.int .i64 y.f3) := (blk_cell HY.out 3).trans rfl
  have q4 : (W.alloc (.cells #[.int .i64 y.f0, .string y.f1, .int .i64 y.f2, .int .i64 y.f3, .slice A y.f4.length c] 52 (0, 0))).cell? ⟨W.heap.size, 4, none⟩ = some (.slice A y.f4.length c) := (blk_cell HY.out 4).trans rfl
  have m0 : (W.alloc (.cells #[.int .i64 y.f0, .string y.f1, .int .i64 y.f2, .int .i64 y.f3, .slice A y.f4.length c] 52 (0, 0))).cell? ⟨bm, 0, none⟩ = some (.func (Fn.func 146) #[] #[.pointer (some ⟨br, 0, none⟩)]) := (blk_cell HM.out 0).trans rfl
  clear hbr hbm hC IH
  generalize hmm : mt d y r = b at *
  clear hmm
  go_enter Tryz.func148, Tryz.ntmps148
  go_wp2_with fail
  refine HCALL.out.mono ?_
  rintro e w2 ⟨rfl, hb⟩
  go_wp2
  go_ret
  exact ⟨rfl, below_tr HB.out hb⟩

theorem drop_idxS1 {l : List S52} {i : Nat} (h : i < l.length) : l.drop i = rd_T52 l (i : Int) :: l.drop (i + 1) := by
  rw [List.drop_eq_getElem_cons h]
  simp [rd_T52, List.getElem?_eq_getElem h, List.getD_eq_getElem?_getD]
set_option maxHeartbeats 1000000 in
theorem idxS1 (p : S52 → Bool) (A : Option Addr) (c : Nat) (l : List S52) (br : Nat) (w : World) (hr : Kd.C k52 w A l.length l)
    (hf : ∀ x ∈ l, ∀ A4 c4 W, Below w.heap.size w W → Kd.C k52 W A4 x.f4.length x.f4 → x.f4.length ≤ c4 → Calls Tryz.prog 146 #[.agg #[.int .i64 x.f0, .string x.f1, .int .i64 x.f2, .int .i64 x.f3, .slice A4 x.f4.length c4], .pointer (some ⟨br, 0, none⟩)] W fun e W' => e = .returned (.bool (p x)) ∧ Below W.heap.size W W') :
    Calls Tryz.prog 158 #[.slice A l.length c, .func (Fn.func 146) #[] #[.pointer (some ⟨br, 0, none⟩)]] w fun e w' => e = .returned (.int .i64 (ix p l 0)) ∧ Below w.heap.size w w' := by
  have hm : l.length ≤ 9223372036854775807 := hr.2.1
  have HF := Lib.hid hf
  clear hf
  go_enter Tryz.func158, Tryz.ntmps158
  go_wp2
  go_loopw [8] (fun v8 wr => ∃ k : Nat, k ≤ l.length ∧ v8 = .int .i64 k ∧ Aside0 (Below w.heap.size w wr) ∧ Aside0 (ix p l 0 = ix p (l.drop k) k)) (fun v8 _ => l.length - (intOf v8).toNat)
  case atStart => exact ⟨0, Nat.zero_le _, rfl, ⟨Below.refl _ _⟩, ⟨by rw [List.drop_zero]⟩⟩
  case round =>
    obtain ⟨k, hk, rfl, HB, HI⟩ := hrel
    by_cases hlt : k < l.length
    · obtain ⟨ad, A4, c4, e, h0, h1, h2, h3, h4, hl4, hC4⟩ := at_T52 (Kd.C_below hr HB.out) (k : Int) (by omega) (by omega)
      subst e
      simp only [Int.toNat_natCast] at h0 h1 h2 h3 h4
      have hd := drop_idxS1 hlt
      have hmem : rd_T52 l (k : Int) ∈ l := by
        have : rd_T52 l (k : Int) ∈ l.drop k := by rw [hd]; exact List.mem_cons.2 (.inl rfl)
        exact List.mem_of_mem_drop this
      have HI2 := Lib.hid (show ix p l 0 = if p (rd_T52 l (k : Int)) = true then (k : Int) else ix p (l.drop (k + 1)) (k + 1) by rw [HI.out, hd]; rfl)
      have HCALL := Lib.hid (HF.out _ hmem A4 c4 wr HB.out hC4 hl4)
      clear hd hmem hC4 hl4
      generalize rd_T52 l (k : Int) = x at *
      generalize hpx : p x = px at *
      clear hpx
      go_wp2_with fail
      refine HCALL.out.mono ?_
      rintro e w2 ⟨rfl, hb⟩
      have HB2 := Lib.hid (below_tr HB.out hb)
      clear hb h0 h1 h2 h3 h4
      cases px
      · go_wp2
        go_roundw
        case rel => exact ⟨k + 1, by omega, by go_num, ⟨HB2.out⟩, ⟨by rw [HI2.out, if_neg (by decide)]⟩⟩
        case measure => simp [intOf]; omega
      · go_wp2
        go_ret
        exact ⟨ret_i (by rw [HI2.out]; simp), HB2.out⟩
    · have hk2 : k = l.length := by omega
      have HK := Lib.hid hk2
      clear hk2
      go_wp2
      go_ret
      exact ⟨ret_i (by rw [HI.out, HK.out, List.drop_of_length_le (Nat.le_refl _)]; rfl), HB.out⟩

theorem drop_idxS2 {l : List S52} {i : Nat} (h : i < l.length) : l.drop i = rd_T52 l (i : Int) :: l.drop (i + 1) := by
  rw [List.drop_eq_getElem_cons h]
  simp [rd_T52, List.getElem?_eq_getElem h, List.getD_eq_getElem?_getD]
set_option maxHeartbeats 1000000 in
theorem idxS2 (p : S52 → Bool) (A : Option Addr) (c : Nat) (l : List S52) (br : Nat) (w : World) (hr : Kd.C k52 w A l.length l)
    (hf : ∀ x ∈ l, ∀ A4 c4 W, Below w.heap.size w W → Kd.C k52 W A4 x.f4.length x.f4 → x.f4.length ≤ c4 → Calls Tryz.prog 148 #[.agg #[.int .i64 x.f0, .string x.f1, .int .i64 x.f2, .int .i64 x.f3, .slice A4 x.f4.length c4], .pointer (some ⟨br, 0, none⟩)] W fun e W' => e = .returned (.bool (p x)) ∧ Below W.heap.size W W') :
    Calls Tryz.prog 158 #[.slice A l.length c, .func (Fn.func 148) #[] #[.pointer (some ⟨br, 0, none⟩)]] w fun e w' => e = .returned (.int .i64 (ix p l 0)) ∧ Below w.heap.size w w' := by
  have hm : l.length ≤ 9223372036854775807 := hr.2.1
  have HF := Lib.hid hf
  clear hf
  go_enter Tryz.func158, Tryz.ntmps158
  go_wp2
  go_loopw [8] (fun v8 wr => ∃ k : Nat, k ≤ l.length ∧ v8 = .int .i64 k ∧ Aside0 (Below w.heap.size w wr) ∧ Aside0 (ix p l 0 = ix p (l.drop k) k)) (fun v8 _ => l.length - (intOf v8).toNat)
  case atStart => exact ⟨0, Nat.zero_le _, rfl, ⟨Below.refl _ _⟩, ⟨by rw [List.drop_zero]⟩⟩
  case round =>
    obtain ⟨k, hk, rfl, HB, HI⟩ := hrel
    by_cases hlt : k < l.length
    · obtain ⟨ad, A4, c4, e, h0, h1, h2, h3, h4, hl4, hC4⟩ := at_T52 (Kd.C_below hr HB.out) (k : Int) (by omega) (by omega)
      subst e
      simp only [Int.toNat_natCast] at h0 h1 h2 h3 h4
      have hd := drop_idxS2 hlt
      have hmem : rd_T52 l (k : Int) ∈ l := by
        have : rd_T52 l (k : Int) ∈ l.drop k := by rw [hd]; exact List.mem_cons.2 (.inl rfl)
        exact List.mem_of_mem_drop this
      have HI2 := Lib.hid (show ix p l 0 = if p (rd_T52 l (k : Int)) = true then (k : Int) else ix p (l.drop (k + 1)) (k + 1) by rw [HI.out, hd]; rfl)
      have HCALL := Lib.hid (HF.out _ hmem A4 c4 wr HB.out hC4 hl4)
      clear hd hmem hC4 hl4
      generalize rd_T52 l (k : Int) = x at *
      generalize hpx : p x = px at *
      clear hpx
      go_wp2_with fail
      refine HCALL.out.mono ?_
      rintro e w2 ⟨rfl, hb⟩
      have HB2 := Lib.hid (below_tr HB.out hb)
      clear hb h0 h1 h2 h3 h4
      cases px
      · go_wp2
        go_roundw
        case rel => exact ⟨k + 1, by omega, by go_num, ⟨HB2.out⟩, ⟨by rw [HI2.out, if_neg (by decide)]⟩⟩
        case measure => simp [intOf]; omega
      · go_wp2
        go_ret
        exact ⟨ret_i (by rw [HI2.out]; simp), HB2.out⟩
    · have hk2 : k = l.length := by omega
      have HK := Lib.hid hk2
      clear hk2
      go_wp2
      go_ret
      exact ⟨ret_i (by rw [HI.out, HK.out, List.drop_of_length_le (Nat.le_refl _)]; rfl), HB.out⟩

theorem contS1 (p : S52 → Bool) (A : Option Addr) (c : Nat) (l : List S52) (br : Nat) (w : World) (hr : Kd.C k52 w A l.length l)
    (hf : ∀ x ∈ l, ∀ A4 c4 W, Below w.heap.size w W → Kd.C k52 W A4 x.f4.length x.f4 → x.f4.length ≤ c4 → Calls Tryz.prog 146 #[.agg #[.int .i64 x.f0, .string x.f1, .int .i64 x.f2, .int .i64 x.f3, .slice A4 x.f4.length c4], .pointer (some ⟨br, 0, none⟩)] W fun e W' => e = .returned (.bool (p x)) ∧ Below W.heap.size W W') :
    Calls Tryz.prog 147 #[.slice A l.length c, .func (Fn.func 146) #[] #[.pointer (some ⟨br, 0, none⟩)]] w fun e w' => e = .returned (.bool (l.any p)) ∧ Below w.heap.size w w' := by
  have HC := Lib.hid (idxS1 p A c l br w hr hf)
  have hx := ix_any p l 0
  generalize ix p l 0 = i at *
  clear hf hr
  go_enter Tryz.func147, Tryz.ntmps147
  go_wp2_with fail
  refine HC.out.mono ?_
  rintro e w2 ⟨rfl, hb⟩
  have HX := Lib.hid hx
  clear hx
  go_wp2
  go_ret
  exact ⟨ret_b HX.out, hb⟩

theorem contS2 (p : S52 → Bool) (A : Option Addr) (c : Nat) (l : List S52) (br : Nat) (w : World) (hr : Kd.C k52 w A l.length l)
    (hf : ∀ x ∈ l, ∀ A4 c4 W, Below w.heap.size w W → Kd.C k52 W A4 x.f4.length x.f4 → x.f4.length ≤ c4 → Calls Tryz.prog 148 #[.agg #[.int .i64 x.f0, .string x.f1, .int .i64 x.f2, .int .i64 x.f3, .slice A4 x.f4.length c4], .pointer (some ⟨br, 0, none⟩)] W fun e W' => e = .returned (.bool (p x)) ∧ Below W.heap.size W W') :
    Calls Tryz.prog 147 #[.slice A l.length c, .func (Fn.func 148) #[] #[.pointer (some ⟨br, 0, none⟩)]] w fun e w' => e = .returned (.bool (l.any p)) ∧ Below w.heap.size w w' := by
  have HC := Lib.hid (idxS2 p A c l br w hr hf)
  have hx := ix_any p l 0
  generalize ix p l 0 = i at *
  clear hf hr
  go_enter Tryz.func147, Tryz.ntmps147
  go_wp2_with fail
  refine HC.out.mono ?_
  rintro e w2 ⟨rfl, hb⟩
  have HX := Lib.hid hx
  clear hx
  go_wp2
  go_ret
  exact ⟨ret_b HX.out, hb⟩

theorem run_store_new (w : World) (u v : Value) (ty : TypeId) (hv : v.oneCell' = true) : Sem.run Tryz.prog (store ⟨w.heap.size, 0, none⟩ v) (w.alloc (.cells #[u] ty (0, 0))) = .ok () (w.alloc (.cells #[v] ty (0, 0))) := by
  have hb := new_blk w (.cells #[u] ty (0, 0))
  have hc : (w.alloc (.cells #[u] ty (0, 0))).cell? ⟨w.heap.size, 0, none⟩ = some u := (blk_cell hb 0).trans rfl
  have hf := blk_frozen hb 0
  have hs : (w.alloc (.cells #[u] ty (0, 0))).setCell ⟨w.heap.size, 0, none⟩ v = w.alloc (.cells #[v] ty (0, 0)) := by
    rw [World.setCell_alloc_new]
    rfl
  rw [run_store _ _ _ _ _ hv, hc]
  simp only [hf, hs]
  rfl

theorem match_op1 (nm : ByteArray) (fr tt : Int) (ks : List S52) (r : S73) (A : Option Addr) (c : Nat) (W : World) : Calls Tryz.prog 120 #[.agg #[.int .i64 1, .string nm, .int .i64 fr, .int .i64 tt, .slice A ks.length c], .agg #[.string r.f0, .string r.f1, .string r.f2, .string r.f3, .int .i64 r.f4, .int .i64 r.f5]] W fun e W' => e = .returned (.bool (true)) ∧ Below W.heap.size W W' := by
  have hz : ((W.alloc (.cells #[.int .i64 1, .string nm, .int .i64 fr, .int .i64 tt, .slice A ks.length c] 52 (0, 0))).alloc (.cells #[.string r.f0, .string r.f1, .string r.f2, .string r.f3, .int .i64 r.f4, .int .i64 r.f5] 73 (0, 0))).heap.size = W.heap.size + 1 + 1 := by show ((W.heap.push _).push _).size = _; rw [Array.size_push, Array.size_push]
  have hst := run_store_new ((W.alloc (.cells #[.int .i64 1, .string nm, .int .i64 fr, .int .i64 tt, .slice A ks.length c] 52 (0, 0))).alloc (.cells #[.string r.f0, .string r.f1, .string r.f2, .string r.f3, .int .i64 r.f4, .int .i64 r.f5] 73 (0, 0))) .nilFunc (.func (Fn.func 146) #[] #[.pointer (some ⟨W.heap.size + 1, 0, none⟩)]) 101 rfl
  rw [hz] at hst
  go_enter Tryz.func120, Tryz.ntmps120
  go_wp2
  all_goals (go_ret; exact ⟨by first | rfl | (simp_all; done) | (simp_all; omega), below_alloc (below_alloc (below_alloc (Below.refl _ _) _) _) _⟩)

theorem match_op2 (nm : ByteArray) (fr tt : Int) (ks : List S52) (r : S73) (A : Option Addr) (c : Nat) (W : World) : Calls Tryz.prog 120 #[.agg #[.int .i64 2, .string nm, .int .i64 fr, .int .i64 tt, .slice A ks.length c], .agg #[.string r.f0, .string r.f1, .string r.f2, .string r.f3, .int .i64 r.f4, .int .i64 r.f5]] W fun e W' => e = .returned (.bool (r.f1.toList == nm.toList)) ∧ Below W.heap.size W W' := by
  have hz : ((W.alloc (.cells #[.int .i64 2, .string nm, .int .i64 fr, .int .i64 tt, .slice A ks.length c] 52 (0, 0))).alloc (.cells #[.string r.f0, .string r.f1, .string r.f2, .string r.f3, .int .i64 r.f4, .int .i64 r.f5] 73 (0, 0))).heap.size = W.heap.size + 1 + 1 := by show ((W.heap.push _).push _).size = _; rw [Array.size_push, Array.size_push]
  have hst := run_store_new ((W.alloc (.cells #[.int .i64 2, .string nm, .int .i64 fr, .int .i64 tt, .slice A ks.length c] 52 (0, 0))).alloc (.cells #[.string r.f0, .string r.f1, .string r.f2, .string r.f3, .int .i64 r.f4, .int .i64 r.f5] 73 (0, 0))) .nilFunc (.func (Fn.func 146) #[] #[.pointer (some ⟨W.heap.size + 1, 0, none⟩)]) 101 rfl
  rw [hz] at hst
  go_enter Tryz.func120, Tryz.ntmps120
  go_wp2
  all_goals (go_ret; exact ⟨by first | rfl | (simp_all; done) | (simp_all; omega), below_alloc (below_alloc (below_alloc (Below.refl _ _) _) _) _⟩)

theorem match_op3 (nm : ByteArray) (fr tt : Int) (ks : List S52) (r : S73) (A : Option Addr) (c : Nat) (W : World) : Calls Tryz.prog 120 #[.agg #[.int .i64 3, .string nm, .int .i64 fr, .int .i64 tt, .slice A ks.length c], .agg #[.string r.f0, .string r.f1, .string r.f2, .string r.f3, .int .i64 r.f4, .int .i64 r.f5]] W fun e W' => e = .returned (.bool (r.f2.toList == nm.toList)) ∧ Below W.heap.size W W' := by
  have hz : ((W.alloc (.cells #[.int .i64 3, .string nm, .int .i64 fr, .int .i64 tt, .slice A ks.length c] 52 (0, 0))).alloc (.cells #[.string r.f0, .string r.f1, .string r.f2, .string r.f3, .int .i64 r.f4, .int .i64 r.f5] 73 (0, 0))).heap.size = W.heap.size + 1 + 1 := by show ((W.heap.push _).push _).size = _; rw [Array.size_push, Array.size_push]
  have hst := run_store_new ((W.alloc (.cells #[.int .i64 3, .string nm, .int .i64 fr, .int .i64 tt, .slice A ks.length c] 52 (0, 0))).alloc (.cells #[.string r.f0, .string r.f1, .string r.f2, .string r.f3, .int .i64 r.f4, .int .i64 r.f5] 73 (0, 0))) .nilFunc (.func (Fn.func 146) #[] #[.pointer (some ⟨W.heap.size + 1, 0, none⟩)]) 101 rfl
  rw [hz] at hst
  go_enter Tryz.func120, Tryz.ntmps120
  go_wp2
  all_goals (go_ret; exact ⟨by first | rfl | (simp_all; done) | (simp_all; omega), below_alloc (below_alloc (below_alloc (Below.refl _ _) _) _) _⟩)

theorem match_op4 (nm : ByteArray) (fr tt : Int) (ks : List S52) (r : S73) (A : Option Addr) (c : Nat) (W : World) : Calls Tryz.prog 120 #[.agg #[.int .i64 4, .string nm, .int .i64 fr, .int .i64 tt, .slice A ks.length c], .agg #[.string r.f0, .string r.f1, .string r.f2, .string r.f3, .int .i64 r.f4, .int .i64 r.f5]] W fun e W' => e = .returned (.bool (r.f3.toList == nm.toList)) ∧ Below W.heap.size W W' := by
  have hz : ((W.alloc (.cells #[.int .i64 4, .string nm, .int .i64 fr, .int .i64 tt, .slice A ks.length c] 52 (0, 0))).alloc (.cells #[.string r.f0, .string r.f1, .string r.f2, .string r.f3, .int .i64 r.f4, .int .i64 r.f5] 73 (0, 0))).heap.size = W.heap.size + 1 + 1 := by show ((W.heap.push _).push _).size = _; rw [Array.size_push, Array.size_push]
  have hst := run_store_new ((W.alloc (.cells #[.int .i64 4, .string nm, .int .i64 fr, .int .i64 tt, .slice A ks.length c] 52 (0, 0))).alloc (.cells #[.string r.f0, .string r.f1, .string r.f2, .string r.f3, .int .i64 r.f4, .int .i64 r.f5] 73 (0, 0))) .nilFunc (.func (Fn.func 146) #[] #[.pointer (some ⟨W.heap.size + 1, 0, none⟩)]) 101 rfl
  rw [hz] at hst
  go_enter Tryz.func120, Tryz.ntmps120
  go_wp2
  all_goals (go_ret; exact ⟨by first | rfl | (simp_all; done) | (simp_all; omega), below_alloc (below_alloc (below_alloc (Below.refl _ _) _) _) _⟩)

theorem match_op5 (nm : ByteArray) (fr tt : Int) (ks : List S52) (r : S73) (A : Option Addr) (c : Nat) (W : World) : Calls Tryz.prog 120 #[.agg #[.int .i64 5, .string nm, .int .i64 fr, .int .i64 tt, .slice A ks.length c], .agg #[.string r.f0, .string r.f1, .string r.f2, .string r.f3, .int .i64 r.f4, .int .i64 r.f5]] W fun e W' => e = .returned (.bool (decide (r.f4 ≥ fr) && decide (r.f4 ≤ tt))) ∧ Below W.heap.size W W' := by
  have hz : ((W.alloc (.cells #[.int .i64 5, .string nm, .int .i64 fr, .int .i64 tt, .slice A ks.length c] 52 (0, 0))).alloc (.cells #[.string r.f0, .string r.f1, .string r.f2, .string r.f3, .int .i64 r.f4, .int .i64 r.f5] 73 (0, 0))).heap.size = W.heap.size + 1 + 1 := by show ((W.heap.push _).push _).size = _; rw [Array.size_push, Array.size_push]
  have hst := run_store_new ((W.alloc (.cells #[.int .i64 5, .string nm, .int .i64 fr, .int .i64 tt, .slice A ks.length c] 52 (0, 0))).alloc (.cells #[.string r.f0, .string r.f1, .string r.f2, .string r.f3, .int .i64 r.f4, .int .i64 r.f5] 73 (0, 0))) .nilFunc (.func (Fn.func 146) #[] #[.pointer (some ⟨W.heap.size + 1, 0, none⟩)]) 101 rfl
  rw [hz] at hst
  go_enter Tryz.func120, Tryz.ntmps120
  go_wp2
  all_goals (go_ret; exact ⟨by first | rfl | (simp_all; done) | (simp_all; omega), below_alloc (below_alloc (below_alloc (Below.refl _ _) _) _) _⟩)
end Go.Proofs.YtafigkikblpbnaaGreat.PG
