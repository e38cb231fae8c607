/- Some functions of the document answer, whatever they are handed. Days as a text; no condition beyond each theorem its own. -/
import Derived.Test.YtafigkikblpbnaaGreatJ02
import Derived.Deep.RegionHeld3
import Derived.BigQuiet
namespace Go.Proofs.YtafigkikblpbnaaGreat.PG
open Go.RowKit Go.Proofs.YtafigkikblpbnaaGreatW.PrintWords Go.Proofs.YtafigkikblpbnaaGreatW.PrintLast Go.Proofs.YtafigkikblpbnaaGreatW.PrintMore
set_option linter.unusedVariables false
set_option linter.unusedSimpArgs false
set_option maxRecDepth 100000
/-- It answers a truth value, and turns nothing. -/
def RB (w : World) (e : Ending) (w' : World) : Prop := ∃ b : Bool, e = .returned (.bool b) ∧ w' = w
theorem RB.mk {w : World} {b : Bool} : RB w (.returned (.bool b)) w := ⟨b, rfl, rfl⟩
/-- It answers a short text, and turns nothing. -/
def RT (n : Nat) (w : World) (e : Ending) (w' : World) : Prop := ∃ s : ByteArray, e = .returned (.string s) ∧ s.size ≤ n ∧ w' = w
theorem RT.mk {n : Nat} {w : World} {s : ByteArray} (h : s.size ≤ n) : RT n w (.returned (.string s)) w := ⟨s, rfl, h, rfl⟩
theorem kept_any (s : ByteArray) (w : World) : Calls Tryz.prog 114 #[.string s] w (RB w) := by
  go_enter Tryz.func114, Tryz.ntmps114
  go_wp2
  all_goals (go_ret; exact RB.mk)
theorem tick_any (n : Int) (w : World) : Calls Tryz.prog 13 #[.int .i64 n] w (RB w) := by
  go_enter Tryz.func13, Tryz.ntmps13
  go_wp2
  all_goals (go_ret; exact RB.mk)
theorem act_any (n : Int) (w : World) : Calls Tryz.prog 35 #[.int .i64 n] w (RT 7 w) := by
  go_enter Tryz.func35, Tryz.ntmps35
  go_wp2
  all_goals (go_ret; exact RT.mk (by decide))
theorem unit_any (n : Int) (w : World) : Calls Tryz.prog 113 #[.int .u8 n] w fun e w' => e = .returned (.int .i64 (if n = 100 then 1 else if n = 119 then 7 else if n = 109 then 30 else if n = 121 then 365 else 0)) ∧ w' = w := by
  by_cases h1 : n = 100
  · subst h1
    go_enter Tryz.func113, Tryz.ntmps113
    go_wp2
    go_ret
    exact ⟨rfl, rfl⟩
  by_cases h2 : n = 119
  · subst h2
    go_enter Tryz.func113, Tryz.ntmps113
    go_wp2
    go_ret
    exact ⟨rfl, rfl⟩
  by_cases h3 : n = 109
  · subst h3
    go_enter Tryz.func113, Tryz.ntmps113
    go_wp2
    go_ret
    exact ⟨rfl, rfl⟩
  by_cases h4 : n = 121
  · subst h4
    go_enter Tryz.func113, Tryz.ntmps113
    go_wp2
    go_ret
    exact ⟨rfl, rfl⟩
  rw [if_neg h1, if_neg h2, if_neg h3, if_neg h4]
  go_enter Tryz.func113, Tryz.ntmps113
  go_wp2
  go_ret
  exact ⟨rfl, rfl⟩
theorem dig_size (m : Nat) : ((⟨#[48, 49, 50, 51, 52, 53, 54, 55, 56, 57]⟩ : ByteArray).extract (m % 10) (m % 10 + 1)).size = 1 := by
  have h : m % 10 < 10 := Nat.mod_lt _ (by decide)
  generalize m % 10 = q at h
  rw [ByteArray.size_extract]
  show min (q + 1) 10 - q = 1
  omega
end Go.Proofs.YtafigkikblpbnaaGreat.PG
namespace Go.Proofs.YtafigkikblpbnaaGreat.PG
open Go.RowKit Go.Proofs.YtafigkikblpbnaaGreatW.PrintWords Go.Proofs.YtafigkikblpbnaaGreatW.PrintLast Go.Proofs.YtafigkikblpbnaaGreatW.PrintMore
set_option linter.unusedVariables false
set_option linter.unusedSimpArgs false
set_option maxRecDepth 100000
def digS (m : Nat) : ByteArray := (⟨#[48, 49, 50, 51, 52, 53, 54, 55, 56, 57]⟩ : ByteArray).extract (m % 10) (m % 10 + 1)
def tlF : Nat → Nat → ByteArray → ByteArray
  | 0, _, t => t
  | f + 1, j, t => if 0 < j then tlF f (j / 10) (digS j ++ t) else t
/-- A number's digits. -/
def tellS (m : Nat) : ByteArray := tlF 19 (m / 10) (digS m)
theorem tlF_size : ∀ f j t, (tlF f j t).size ≤ t.size + f
  | 0, _, t => Nat.le_refl _
  | f + 1, j, t => by
    unfold tlF
    split
    · have := tlF_size f (j / 10) (digS j ++ t)
      rw [ByteArray.size_append, show (digS j).size = 1 from dig_size j] at this
      omega
    · omega
theorem tellS_size (m : Nat) : (tellS m).size ≤ 20 := by
  have := tlF_size 19 (m / 10) (digS m)
  rw [show (digS m).size = 1 from dig_size m] at this
  exact this
set_option maxHeartbeats 1000000 in
theorem tell_eq (m : Nat) (hn : m ≤ 18446744073709551615) (w : World) : Calls Tryz.prog 137 #[.int .u64 m] w fun e w' => e = .returned (.string (tellS m)) ∧ w' = w := by
  have HT := Lib.hid (show tellS m = tlF 19 (m / 10) (digS m) from rfl)
  go_enter Tryz.func137, Tryz.ntmps137
  go_wp2
  go_loopw [0, 3] (fun v0 v3 wr => ∃ (j d : Nat) (t : ByteArray), v0 = .int .u64 j ∧ j ≤ 18446744073709551615 ∧ v3 = .string t ∧ Aside0 (j < 10 ^ d) ∧ t.size + d ≤ 20 ∧ Aside0 (tellS m = tlF d j t) ∧ Aside0 (wr = w)) (fun v0 v3 _ => (intOf v0).toNat)
  case atStart => exact ⟨m / 10, 19, _, by go_num, by omega, rfl, ⟨by omega⟩, by rw [dig_size]; omega, ⟨HT.out⟩, ⟨rfl⟩⟩
  case round =>
    obtain ⟨j, d, t, rfl, hj, rfl, HD, htd, HR, HW⟩ := hrel
    obtain rfl := HW.out
    by_cases hlt : 0 < j
    · have HSJ := Lib.hid (dig_size j)
      have hz : ((⟨#[48, 49, 50, 51, 52, 53, 54, 55, 56, 57]⟩ : ByteArray).extract (j % 10) (j % 10 + 1)).size + t.size ≤ 9223372036854775807 := by rw [HSJ.out]; omega
      have hd : 0 < d := by
        cases d with
        | zero => have := HD.out; omega
        | succ d => omega
      have HD2 : Aside0 (j / 10 < 10 ^ (d - 1)) := ⟨by
        have := HD.out
        rw [show d = d - 1 + 1 by omega, Nat.pow_succ] at this
        omega⟩
      have HR2 : Aside0 (tellS m = tlF (d - 1) (j / 10) (digS j ++ t)) := ⟨by
        rw [HR.out, show d = d - 1 + 1 by omega]
        show (if 0 < j then _ else _) = _
        rw [if_pos hlt]
        rfl⟩
      go_wp2
      go_roundw
      case rel => exact ⟨j / 10, d - 1, _, by go_num, by omega, rfl, HD2, by rw [ByteArray.size_append, HSJ.out]; omega, HR2, ⟨by first | rfl | trivial⟩⟩
      case measure => simp [intOf]; omega
    · have hj0 : j = 0 := by omega
      subst hj0
      have HR2 : Hid (tellS m = t) := by
        cases d with
        | zero => exact HR.out
        | succ d => exact HR.out
      go_wp2
      go_ret
      exact ⟨by rw [HR2.out]; rfl, rfl⟩
theorem Tell_eq (m : Nat) (hn : m ≤ 9223372036854775807) (w : World) : Calls Tryz.prog 110 #[.int .i64 m] w fun e w' => e = .returned (.string (tellS m)) ∧ w' = w := by
  have HC := Lib.hid (tell_eq m (by omega) w)
  go_enter Tryz.func110, Tryz.ntmps110
  go_wp2_with fail
  refine HC.out.mono ?_
  rintro e w2 ⟨rfl, rfl⟩
  go_wp2
  go_ret
  exact ⟨rfl, rfl⟩
/-- Days, as a text. -/
def txS (n : Nat) : ByteArray := if n > 1048576 then ⟨#[]⟩ else if n = 0 then ⟨#[48, 100]⟩ else if n % 365 = 0 then tellS (n / 365) ++ ⟨#[121]⟩ else if n % 30 = 0 then tellS (n / 30) ++ ⟨#[109]⟩ else if n % 7 = 0 then tellS (n / 7) ++ ⟨#[119]⟩ else tellS (n / 1) ++ ⟨#[100]⟩
theorem txS_size (n : Nat) : (txS n).size ≤ 21 := by
  have h1 := tellS_size (n / 365)
  have h2 := tellS_size (n / 30)
  have h3 := tellS_size (n / 7)
  have h4 := tellS_size (n / 1)
  unfold txS
  by_cases c1 : n > 1048576
  · rw [if_pos c1]; exact Nat.zero_le _
  rw [if_neg c1]
  by_cases c2 : n = 0
  · rw [if_pos c2]; show 2 ≤ 21; omega
  rw [if_neg c2]
  by_cases c3 : n % 365 = 0
  · rw [if_pos c3, ByteArray.size_append]; show _ + 1 ≤ 21; omega
  rw [if_neg c3]
  by_cases c4 : n % 30 = 0
  · rw [if_pos c4, ByteArray.size_append]; show _ + 1 ≤ 21; omega
  rw [if_neg c4]
  by_cases c5 : n % 7 = 0
  · rw [if_pos c5, ByteArray.size_append]; show _ + 1 ≤ 21; omega
  rw [if_neg c5, ByteArray.size_append]; show _ + 1 ≤ 21; omega
def uS (k : Nat) : Nat := if k = 0 then 365 else if k = 1 then 30 else if k = 2 then 7 else 1
def cS_ (k : Nat) : UInt8 := if k = 0 then 121 else if k = 1 then 109 else if k = 2 then 119 else 100
theorem txS_at (n k : Nat) (h1 : n ≤ 1048576) (h0 : 0 < n) (hk : k < 4) (ha : ∀ j, j < k → n % uS j ≠ 0) (hd : n % uS k = 0) : txS n = tellS (n / uS k) ++ ⟨#[cS_ k]⟩ := by
  unfold txS
  rw [if_neg (by omega), if_neg (by omega)]
  have a0 := ha 0
  have a1 := ha 1
  have a2 := ha 2
  have hk4 : k = 0 ∨ k = 1 ∨ k = 2 ∨ k = 3 := by omega
  simp only [uS, cS_] at *
  rcases hk4 with rfl | rfl | rfl | rfl
  · rw [if_pos (by simpa using hd)]; rfl
  · rw [if_neg (by simpa using a0), if_pos (by simpa using hd)]; rfl
  · rw [if_neg (by simpa using a0), if_neg (by simpa using a1), if_pos (by simpa using hd)]; rfl
  · rw [if_neg (by simpa using a0), if_neg (by simpa using a1), if_neg (by simpa using a2)]; rfl
set_option maxHeartbeats 1000000 in
theorem Text_in (n : Nat) (hn : n ≤ 1048576) (w : World) : Calls Tryz.prog 72 #[.int .i64 n] w fun e w' => e = .returned (.string (txS n)) ∧ ∃ m, w' = w.drewN m := by
  have hn1 : ¬ (1048576 : Int) < n := by omega
  go_enter Tryz.func72, Tryz.ntmps72
  go_wp2
  go_loopw [4] (fun v4 wr => ∃ k : Nat, k ≤ 4 ∧ v4 = .int .i64 k ∧ Aside0 (∀ j, j < k → n % uS j ≠ 0) ∧ Aside0 (wr = w)) (fun v4 _ => 4 - (intOf v4).toNat)
  case atStart => exact ⟨0, by omega, rfl, ⟨fun j h => by omega⟩, ⟨rfl⟩⟩
  case round =>
    obtain ⟨k, hk, rfl, HA, HW⟩ := hrel
    obtain rfl := HW.out
    by_cases h0 : 0 < n
    · have hk5 : k = 4 ∨ k = 0 ∨ k = 1 ∨ k = 2 ∨ k = 3 := by omega
      rcases hk5 with rfl | hk5
      · exact absurd (Nat.mod_one n) (HA.out 3 (by omega))
      have hin : (0 : Int) < n := by omega
      rcases hk5 with rfl | rfl | rfl | rfl
      · have HU := fun (w : World) => Lib.hid (show Calls Tryz.prog 113 #[.int .u8 121] w fun e w' => e = .returned (.int .i64 365) ∧ w' = w from unit_any 121 w)
        by_cases hc : n % 365 = 0
        · have hci : (n : Int) % 365 = 0 := by omega
          have hw1 : IntKind.i64.wrap 1 = 1 := by decide
          have hwq : IntKind.i64.wrap ((n : Int) / 365) = (n : Int) / 365 := by rw [IntKind.wrap_i64]; omega
          have HTL := fun (w : World) => Lib.hid (show Calls Tryz.prog 110 #[.int .i64 ((n : Int) / 365)] w fun e w' => e = .returned (.string (tellS (n / 365))) ∧ w' = w by rw [show (n : Int) / 365 = ((n / 365 : Nat) : Int) by omega]; exact Tell_eq (n / 365) (by omega) w)
          have HX := Lib.hid (show txS n = tellS (n / 365) ++ ((⟨#[121, 109, 119, 100]⟩ : ByteArray).extract 0 1) from txS_at n 0 hn h0 (by omega) HA.out hc)
          have hz : (tellS (n / 365)).size + ((⟨#[121, 109, 119, 100]⟩ : ByteArray).extract 0 1).size ≤ 9223372036854775807 := by have := tellS_size (n / 365); rw [show ((⟨#[121, 109, 119, 100]⟩ : ByteArray).extract 0 1).size = 1 from rfl]; omega
          go_wp2_with (go_at_call 113; refine (HU _).out.mono ?_; rintro e w2 ⟨rfl, rfl⟩)
          go_quiet (first | (go_at_call 113; refine Calls.quiet_of_same (HU _).out) | (go_at_call 110; exact Calls.quiet_of_same (HTL _).out))
          go_wp2
          go_ret
          exact ⟨by rw [HX.out]; rfl, _, rfl⟩
        · have hci : ¬ (n : Int) % 365 = 0 := by omega
          have HA2 : Aside0 (∀ j, j < 1 → n % uS j ≠ 0) := ⟨fun j hj => by
            by_cases e : j = 0
            · subst e; exact hc
            · exact HA.out j (by omega)⟩
          go_wp2_with (go_at_call 113; refine (HU _).out.mono ?_; rintro e w2 ⟨rfl, rfl⟩)
          go_roundw
          case rel => first | exact ⟨1, by omega, by go_num, HA2, ⟨by first | rfl | trivial⟩⟩ | exact ⟨1, by omega, by go_num, HA2⟩
          case measure => simp [intOf]
      · have HU := fun (w : World) => Lib.hid (show Calls Tryz.prog 113 #[.int .u8 109] w fun e w' => e = .returned (.int .i64 30) ∧ w' = w from unit_any 109 w)
        by_cases hc : n % 30 = 0
        · have hci : (n : Int) % 30 = 0 := by omega
          have hw1 : IntKind.i64.wrap 2 = 2 := by decide
          have hwq : IntKind.i64.wrap ((n : Int) / 30) = (n : Int) / 30 := by rw [IntKind.wrap_i64]; omega
          have HTL := fun (w : World) => Lib.hid (show Calls Tryz.prog 110 #[.int .i64 ((n : Int) / 30)] w fun e w' => e = .returned (.string (tellS (n / 30))) ∧ w' = w by rw [show (n : Int) / 30 = ((n / 30 : Nat) : Int) by omega]; exact Tell_eq (n / 30) (by omega) w)
          have HX := Lib.hid (show txS n = tellS (n / 30) ++ ((⟨#[121, 109, 119, 100]⟩ : ByteArray).extract 1 2) from txS_at n 1 hn h0 (by omega) HA.out hc)
          have hz : (tellS (n / 30)).size + ((⟨#[121, 109, 119, 100]⟩ : ByteArray).extract 1 2).size ≤ 9223372036854775807 := by have := tellS_size (n / 30); rw [show ((⟨#[121, 109, 119, 100]⟩ : ByteArray).extract 1 2).size = 1 from rfl]; omega
          go_wp2_with (go_at_call 113; refine (HU _).out.mono ?_; rintro e w2 ⟨rfl, rfl⟩)
          go_quiet (first | (go_at_call 113; refine Calls.quiet_of_same (HU _).out) | (go_at_call 110; exact Calls.quiet_of_same (HTL _).out))
          go_wp2
          go_ret
          exact ⟨by rw [HX.out]; rfl, _, rfl⟩
        · have hci : ¬ (n : Int) % 30 = 0 := by omega
          have HA2 : Aside0 (∀ j, j < 2 → n % uS j ≠ 0) := ⟨fun j hj => by
            by_cases e : j = 1
            · subst e; exact hc
            · exact HA.out j (by omega)⟩
          go_wp2_with (go_at_call 113; refine (HU _).out.mono ?_; rintro e w2 ⟨rfl, rfl⟩)
          go_roundw
          case rel => first | exact ⟨2, by omega, by go_num, HA2, ⟨by first | rfl | trivial⟩⟩ | exact ⟨2, by omega, by go_num, HA2⟩
          case measure => simp [intOf]
      · have HU := fun (w : World) => Lib.hid (show Calls Tryz.prog 113 #[.int .u8 119] w fun e w' => e = .returned (.int .i64 7) ∧ w' = w from unit_any 119 w)
        by_cases hc : n % 7 = 0
        · have hci : (n : Int) % 7 = 0 := by omega
          have hw1 : IntKind.i64.wrap 3 = 3 := by decide
          have hwq : IntKind.i64.wrap ((n : Int) / 7) = (n : Int) / 7 := by rw [IntKind.wrap_i64]; omega
          have HTL := fun (w : World) => Lib.hid (show Calls Tryz.prog 110 #[.int .i64 ((n : Int) / 7)] w fun e w' => e = .returned (.string (tellS (n / 7))) ∧ w' = w by rw [show (n : Int) / 7 = ((n / 7 : Nat) : Int) by omega]; exact Tell_eq (n / 7) (by omega) w)
          have HX := Lib.hid (show txS n = tellS (n / 7) ++ ((⟨#[121, 109, 119, 100]⟩ : ByteArray).extract 2 3) from txS_at n 2 hn h0 (by omega) HA.out hc)
          have hz : (tellS (n / 7)).size + ((⟨#[121, 109, 119, 100]⟩ : ByteArray).extract 2 3).size ≤ 9223372036854775807 := by have := tellS_size (n / 7); rw [show ((⟨#[121, 109, 119, 100]⟩ : ByteArray).extract 2 3).size = 1 from rfl]; omega
          go_wp2_with (go_at_call 113; refine (HU _).out.mono ?_; rintro e w2 ⟨rfl, rfl⟩)
          go_quiet (first | (go_at_call 113; refine Calls.quiet_of_same (HU _).out) | (go_at_call 110; exact Calls.quiet_of_same (HTL _).out))
          go_wp2
          go_ret
          exact ⟨by rw [HX.out]; rfl, _, rfl⟩
        · have hci : ¬ (n : Int) % 7 = 0 := by omega
          have HA2 : Aside0 (∀ j, j < 3 → n % uS j ≠ 0) := ⟨fun j hj => by
            by_cases e : j = 2
            · subst e; exact hc
            · exact HA.out j (by omega)⟩
          go_wp2_with (go_at_call 113; refine (HU _).out.mono ?_; rintro e w2 ⟨rfl, rfl⟩)
          go_roundw
          case rel => first | exact ⟨3, by omega, by go_num, HA2, ⟨by first | rfl | trivial⟩⟩ | exact ⟨3, by omega, by go_num, HA2⟩
          case measure => simp [intOf]
      · have HU := fun (w : World) => Lib.hid (show Calls Tryz.prog 113 #[.int .u8 100] w fun e w' => e = .returned (.int .i64 1) ∧ w' = w from unit_any 100 w)
        · have hc : n % 1 = 0 := Nat.mod_one n
          have hci : (n : Int) % 1 = 0 := by omega
          have hw1 : IntKind.i64.wrap 4 = 4 := by decide
          have hwq : IntKind.i64.wrap (n : Int) = (n : Int) := by rw [IntKind.wrap_i64]; omega
          have HTL := fun (w : World) => Lib.hid (show Calls Tryz.prog 110 #[.int .i64 (n : Int)] w fun e w' => e = .returned (.string (tellS n)) ∧ w' = w from Tell_eq n (by omega) w)
          have HX := Lib.hid (show txS n = tellS n ++ ((⟨#[121, 109, 119, 100]⟩ : ByteArray).extract 3 4) by have e := txS_at n 3 hn h0 (by omega) HA.out hc; rw [show n / uS 3 = n from Nat.div_one n] at e; exact e)
          have hz : (tellS n).size + ((⟨#[121, 109, 119, 100]⟩ : ByteArray).extract 3 4).size ≤ 9223372036854775807 := by have := tellS_size n; rw [show ((⟨#[121, 109, 119, 100]⟩ : ByteArray).extract 3 4).size = 1 from rfl]; omega
          go_wp2_with (go_at_call 113; refine (HU _).out.mono ?_; rintro e w2 ⟨rfl, rfl⟩)
          go_quiet (first | (go_at_call 113; refine Calls.quiet_of_same (HU _).out) | (go_at_call 110; exact Calls.quiet_of_same (HTL _).out))
          go_wp2
          go_ret
          exact ⟨by rw [HX.out]; rfl, _, rfl⟩
    · have h00 : n = 0 := by omega
      subst h00
      have hk5 : k = 0 ∨ k = 1 ∨ k = 2 ∨ k = 3 ∨ k = 4 := by omega
      rcases hk5 with rfl | rfl | rfl | rfl | rfl
      all_goals
        go_wp2
        go_ret
        exact ⟨rfl, 0, rfl⟩
theorem Text_any (n : Int) (w : World) : Calls Tryz.prog 72 #[.int .i64 n] w fun e w' => e = .returned (.string (if n < 0 then ⟨#[]⟩ else txS n.toNat)) ∧ ∃ m, w' = w.drewN m := by
  by_cases h0 : n < 0
  · rw [if_pos h0]
    go_enter Tryz.func72, Tryz.ntmps72
    go_wp2
    go_ret
    exact ⟨rfl, 0, rfl⟩
  · rw [if_neg h0]
    obtain ⟨m, rfl⟩ : ∃ m : Nat, n = m := ⟨n.toNat, by omega⟩
    rw [Int.toNat_natCast]
    by_cases h1 : m ≤ 1048576
    · exact Text_in m h1 w
    · have h2 : (1048576 : Int) < m := by omega
      rw [show txS m = ⟨#[]⟩ by unfold txS; rw [if_pos (by omega)]]
      go_enter Tryz.func72, Tryz.ntmps72
      go_wp2
      go_ret
      exact ⟨rfl, 0, rfl⟩
end Go.Proofs.YtafigkikblpbnaaGreat.PG
