/- What is told of a date. When a record is due, as the program tells it. Two lists of names that are the same. The program's words on the holds. report.Lines. The page's example; no condition beyond each theorem its own. -/
import Derived.Test.YtafigkikblpbnaaGreatDoorZC14
import Derived.Test.YtafigkikblpbnaaGreatDoorZC09
import Derived.Test.YtafigkikblpbnaaGreatDoorZC18
import Derived.Test.YtafigkikblpbnaaGreatDoorZC15
import Derived.Test.YtafigkikblpbnaaGreatDoorZC12
import Derived.Test.YtafigkikblpbnaaGreatDoorZC07
import Derived.Test.YtafigkikblpbnaaGreatDoorZC04
import Derived.Test.YtafigkikblpbnaaGreatDoorZC11
import Derived.Test.YtafigkikblpbnaaGreatDoorZC17
import Derived.Test.YtafigkikblpbnaaGreatDoorZC13
namespace Go.Proofs.YtafigkikblpbnaaGreatDoor.PG
open Go.RowKit Go.Proofs.YtafigkikblpbnaaGreatDoorW.PrintWords Go.Proofs.YtafigkikblpbnaaGreatDoorW.PrintLast Go.Proofs.YtafigkikblpbnaaGreatDoorW.PrintMore
set_option linter.unusedVariables false
set_option linter.unusedSimpArgs false
set_option maxRecDepth 100000

/-! What is told of a date. -/
theorem digS_list (m : Nat) : (digS m).toList = [UInt8.ofNat (48 + m % 10)] := by
  have h : ∀ k, k < 10 → ((⟨#[48, 49, 50, 51, 52, 53, 54, 55, 56, 57]⟩ : ByteArray).extract k (k + 1)).data.toList = [UInt8.ofNat (48 + k)] := by decide
  unfold digS
  rw [ByteArray.toList_eq]
  exact h _ (Nat.mod_lt _ (by decide))
theorem toL_app2 (a b : ByteArray) : (a ++ b).toList = a.toList ++ b.toList := by
  rw [ByteArray.toList_eq, ByteArray.toList_eq, ByteArray.toList_eq, ByteArray.data_append, Array.toList_append]
theorem tlF_list : ∀ (f j : Nat) (t : ByteArray), j < 10 ^ f → (tlF f j t).toList = (if j = 0 then [] else Lib.decDigits j) ++ t.toList
  | 0, j, t, h => by
    have : j = 0 := by simpa using h
    rw [if_pos this]
    rfl
  | f + 1, j, t, h => by
    unfold tlF
    by_cases h0 : 0 < j
    · rw [if_pos h0, tlF_list f (j / 10) _ (by rw [Nat.pow_succ] at h; omega), toL_app2, digS_list, if_neg (show ¬ j = 0 by omega)]
      rw [Lib.decDigits.eq_def j]
      by_cases h10 : j < 10
      · rw [dif_pos h10, if_pos (by omega), show j % 10 = j by omega]
        rfl
      · rw [dif_neg h10, if_neg (by omega), List.append_assoc]
    · rw [if_neg h0, if_pos (by omega)]
      rfl
theorem tellS_list (m : Nat) (h : m < 10 ^ 20) : (tellS m).toList = Lib.decDigits m := by
  unfold tellS
  rw [tlF_list 19 (m / 10) _ (by rw [show (10 : Nat) ^ 20 = 10 ^ 19 * 10 from rfl] at h; omega), digS_list, Lib.decDigits.eq_def m]
  by_cases h10 : m < 10
  · rw [dif_pos h10, if_pos (by omega), show m % 10 = m by omega]
    rfl
  · rw [dif_neg h10, if_neg (by omega)]
/-- A number's numeral. -/
def itoS (n : Int) : ByteArray := ⟨(Lib.itoa n).toArray⟩
theorem itoS_tell {m : Nat} (h : m < 10 ^ 20) : itoS (m : Int) = tellS m := by
  apply toList_inj
  rw [tellS_list m h]
  unfold itoS Lib.itoa
  rw [if_neg (by omega), ByteArray.toList_eq]
  rfl
theorem tab_below {w w' : World} {zs : List Int} (h : Lib.TabIs Tryz.prog w "internal/strconv.uint64pow10" .u64 zs) (hb : Below w.heap.size w w') : Lib.TabIs Tryz.prog w' "internal/strconv.uint64pow10" .u64 zs := by
  unfold Lib.TabIs World.var? at h ⊢
  cases hgn : Tryz.prog.globalNamed "internal/strconv.uint64pow10" with
  | none => rw [hgn] at h; cases h
  | some g =>
    rw [hgn] at h
    simp only [Option.bind_some] at h ⊢
    have hlt : g < w.heap.size := by
      rcases Nat.lt_or_ge g w.heap.size with h' | h'
      · exact h'
      · rw [Array.getElem?_eq_none h'] at h; cases h
    rw [hb.block g hlt]
    exact h
/-- strconv.Itoa. -/
theorem Itoa_any (n : Int) (h0 : 0 ≤ n) (h1 : n ≤ 1099511627776) (w : World) (ht : Lib.TabIs Tryz.prog w "internal/strconv.uint64pow10" .u64 Lib.pow10Tab) : Calls Tryz.prog 36 #[.int .i64 n] w fun e w' => e = .returned (.string (tellS n.toNat)) ∧ Below w.heap.size w w' := by
  refine (Tryz.strconv_Itoa n (by omega) (by omega) w ht).mono ?_
  rintro e w' ⟨rfl, k, os, rfl⟩
  refine ⟨?_, ⟨rfl, rfl, rfl, by simp, fun j hj => ?_⟩⟩
  · obtain ⟨m, rfl⟩ : ∃ m : Nat, n = m := ⟨n.toNat, by omega⟩
    rw [Int.toNat_natCast, ← itoS_tell (show m < 10 ^ 20 by have : (10 : Nat) ^ 20 = 100000000000000000000 := rfl; omega)]
    rfl
  · rw [Sort.heap_grow_old _ _ (by exact hj)]
    rfl
/-- A text of what is done. -/
def wordS (a : Int) : ByteArray := if a = 1 then ⟨#[100, 101, 115, 116, 114, 111, 121]⟩ else if a = 2 then ⟨#[114, 101, 118, 105, 101, 119]⟩ else ⟨#[107, 101, 101, 112]⟩
theorem wordS_size (a : Int) : (wordS a).size ≤ 7 := by
  unfold wordS
  split
  · decide
  · split
    · decide
    · decide
theorem idx120 {ρ : Operand → Value} {o : Oper} {x y : Operand} {v0 v1 v2 v3 : Value} {w : World} (k : Nat) (hk : k < 4) (ho : o.op = .index 120 x y) (hx : ρ x = .agg #[v0, v1, v2, v3]) (hy : ρ y = .int .i64 k) :
    Sem.run Tryz.prog (execOp ρ o) w = .ok (.value (#[v0, v1, v2, v3][k]'hk)) w := by
  unfold execOp
  rw [ho]
  simp only [hx, hy]
  obtain rfl | rfl | rfl | rfl : k = 0 ∨ k = 1 ∨ k = 2 ∨ k = 3 := by omega
  · go_simp
    kernel_rfl
  · go_simp
    kernel_rfl
  · go_simp
    kernel_rfl
  · go_simp
    kernel_rfl
theorem word_eq (a : Int) (h : 1 ≤ a ∧ a ≤ 3) (w : World) : Calls Tryz.prog 46 #[.int .i64 a] w fun e w' => e = .returned (.string (wordS a)) ∧ w' = w := by
  obtain rfl | rfl | rfl : a = 1 ∨ a = 2 ∨ a = 3 := by omega
  · go_enter Tryz.func46, Tryz.ntmps46
    go_wp2_with ((with_reducible refine gate_dst (N := 5) rfl ?_); refine value_seq rfl (idx120 (x := .tmp 3) (y := .tmp 4) 1 (by omega) rfl rfl rfl) ?_)
    go_ret
    exact ⟨rfl, rfl⟩
  · go_enter Tryz.func46, Tryz.ntmps46
    go_wp2_with ((with_reducible refine gate_dst (N := 5) rfl ?_); refine value_seq rfl (idx120 (x := .tmp 3) (y := .tmp 4) 2 (by omega) rfl rfl rfl) ?_)
    go_ret
    exact ⟨rfl, rfl⟩
  · go_enter Tryz.func46, Tryz.ntmps46
    go_wp2_with ((with_reducible refine gate_dst (N := 5) rfl ?_); refine value_seq rfl (idx120 (x := .tmp 3) (y := .tmp 4) 3 (by omega) rfl rfl rfl) ?_)
    go_ret
    exact ⟨rfl, rfl⟩
/-! When something is due: within the clock. -/
theorem mn_in {l : List Int} {lo hi : Int} : ∀ (a : Int), (lo ≤ a ∧ a ≤ hi) → (∀ x ∈ l, lo ≤ x ∧ x ≤ hi) → lo ≤ l.foldl mn a ∧ l.foldl mn a ≤ hi := by
  induction l with
  | nil => exact fun a h _ => h
  | cons x l ih =>
    intro a ha hl
    exact ih (mn a x) (by unfold mn; have := hl x (List.mem_cons.2 (.inl rfl)); split <;> assumption) (fun y hy => hl y (List.mem_cons.2 (.inr hy)))
theorem mx_in {l : List Int} {lo hi : Int} : ∀ (a : Int), (lo ≤ a ∧ a ≤ hi) → (∀ x ∈ l, lo ≤ x ∧ x ≤ hi) → lo ≤ l.foldl mx a ∧ l.foldl mx a ≤ hi := by
  induction l with
  | nil => exact fun a h _ => h
  | cons x l ih =>
    intro a ha hl
    exact ih (mx a x) (by unfold mx; have := hl x (List.mem_cons.2 (.inl rfl)); split <;> assumption) (fun y hy => hl y (List.mem_cons.2 (.inr hy)))
theorem wh_in (m : List S126) : ∀ d x, lim d x → (wh m x).2 = true → 0 ≤ (wh m x).1 ∧ (wh m x).1 ≤ 1099511627776
  | 0, x, h, _ => h.elim
  | d + 1, ⟨op, dd, n, kids⟩, h, hw => by
    rw [wh_eq] at hw ⊢
    by_cases h1 : op = 1
    · rw [if_pos h1] at hw ⊢
      by_cases h2 : (fndB n m).2 = true
      · rw [if_pos h2] at hw ⊢
        unfold aft at hw ⊢
        generalize (fndB n m).1 = a at *
        by_cases g1 : a < 0; · rw [if_pos g1] at hw; exact absurd hw (by decide)
        rw [if_neg g1] at hw ⊢
        by_cases g2 : a > 1099511627776; · rw [if_pos g2] at hw; exact absurd hw (by decide)
        rw [if_neg g2] at hw ⊢
        by_cases g3 : dd < 0; · rw [if_pos g3] at hw; exact absurd hw (by decide)
        rw [if_neg g3] at hw ⊢
        by_cases g4 : dd > 1048576; · rw [if_pos g4] at hw; exact absurd hw (by decide)
        rw [if_neg g4] at hw ⊢
        by_cases g5 : a + dd > 1099511627776; · rw [if_pos g5] at hw; exact absurd hw (by decide)
        rw [if_neg g5]
        dsimp only
        omega
      · rw [if_neg h2] at hw; exact absurd hw (by decide)
    · rw [if_neg h1] at hw ⊢
      have hin : ∀ t ∈ knw (kids.map (wh m)), 0 ≤ t ∧ t ≤ 1099511627776 := by
        intro t ht
        unfold knw at ht
        obtain ⟨p, hp, rfl⟩ := List.mem_map.1 ht
        rw [List.mem_filter] at hp
        obtain ⟨y, hy, rfl⟩ := List.mem_map.1 hp.1
        exact wh_in m d y (h.2 y hy) hp.2
      unfold comb at hw ⊢
      generalize knw (kids.map (wh m)) = L at *
      cases L with
      | nil => exact absurd hw (by rw [if_pos rfl]; decide)
      | cons x L =>
        rw [if_neg (by simp)] at hw ⊢
        by_cases o2 : op = 2
        · rw [if_pos o2]
          exact mn_in x (hin x (List.mem_cons.2 (.inl rfl))) (fun y hy => hin y (List.mem_cons.2 (.inr hy)))
        · rw [if_neg o2] at hw ⊢
          by_cases o3 : op = 3
          · rw [if_pos o3] at hw ⊢
            split at hw
            · rw [if_pos (by assumption)]
              exact mx_in x (hin x (List.mem_cons.2 (.inl rfl))) (fun y hy => hin y (List.mem_cons.2 (.inr hy)))
            · exact absurd hw (by decide)
          · rw [if_neg o3] at hw; exact absurd hw (by decide)
theorem dueL_in {l : List S96} {r : S48} {c : S61} (hx : ∀ x ∈ l, lim 8 x.f1) (ha : ∀ x ∈ l, 1 ≤ x.f2 ∧ x.f2 ≤ 3) (h : (dueL l r c).2.2 = true) : (0 ≤ (dueL l r c).1 ∧ (dueL l r c).1 ≤ 1099511627776) ∧ 1 ≤ (dueL l r c).2.1 ∧ (dueL l r c).2.1 ≤ 3 := by
  unfold dueL at h ⊢
  by_cases h1 : (find2 l r.f3).2 = true
  · rw [if_pos h1] at h ⊢
    by_cases h2 : (wh (ing r c) (find2 l r.f3).1.f1).2 = true
    · rw [if_pos h2]
      exact ⟨wh_in _ 8 _ (hx _ (find2_mem l _ h1)) h2, ha _ (find2_mem l _ h1)⟩
    · rw [if_neg h2] at h; exact absurd h (by decide)
  · rw [if_neg h1] at h; exact absurd h (by decide)
end Go.Proofs.YtafigkikblpbnaaGreatDoor.PG
namespace Go.Proofs.YtafigkikblpbnaaGreatDoor.PG
open Go.RowKit Go.Proofs.YtafigkikblpbnaaGreatDoorW.PrintWords Go.Proofs.YtafigkikblpbnaaGreatDoorW.PrintLast Go.Proofs.YtafigkikblpbnaaGreatDoorW.PrintMore
set_option linter.unusedVariables false
set_option linter.unusedSimpArgs false
set_option maxRecDepth 100000
theorem tab20_4 : rtab .any (opsOf Tryz.f20 4) = (true, [([], []), ([0], [0]), ([], []), ([], []), ([3], [3]), ([], []), ([4, 5], [4, 5]), ([6], [6]), ([1, 2, 7], [1, 2, 7]), ([8], [8]), ([9], [9]), ([9], [9]), ([9], [9]), ([10, 8, 0, 1, 2, 3, 4, 5, 6, 7, 8, 9, 10], [10]), ([11, 13, 0, 1, 2, 3, 4, 5, 6, 7, 8, 9, 10, 11, 13], [11]), ([12, 14, 0, 1, 2, 3, 4, 5, 6, 7, 8, 9, 10, 11, 12, 13, 14], [12])]) := by kernel_rfl
theorem tab20_7 : rtab .any (opsOf Tryz.f20 7) = (true, [([], []), ([0], [0]), ([1], [1]), ([], []), ([3, 1], [3]), ([2, 4], [2, 4]), ([5], [5]), ([], []), ([7], [7]), ([6, 8], [6, 8]), ([9, 4, 0, 1, 2, 3, 4, 5, 6, 7, 8, 9], [9])]) := by kernel_rfl

theorem date_put {w : World} {g : Nat} (v0 v1 : Value) {a b : Value} (h : w.heap[g]? = some (.cells #[a, b] 50 (0, 0))) : ((w.setCell ⟨g, 0, none⟩ v0).setCell ⟨g, 1, none⟩ v1).heap[g]? = some (.cells #[v0, v1] 50 (0, 0)) :=
  blk_put (cs := #[v0, b]) (blk_put (cs := #[a, b]) h 0 v0 rfl) 1 v1 rfl
theorem below_set2 {W w : World} {g : Nat} {v0 v1 : Value} (h : Below W.heap.size W w) (hg : W.heap.size ≤ g) : Below W.heap.size W ((w.setCell ⟨g, 0, none⟩ v0).setCell ⟨g, 1, none⟩ v1) := (h.setCell hg _).setCell hg _
/-- What is told of a record that is due. -/
def lnD (d : Nat) (s : S31) (r : S48) (v : Int × Int × Bool) : ByteArray :=
  if heldP d s.f6 r = true then tellS v.1.toNat ++ (⟨#[32]⟩ : ByteArray) ++ wordS v.2.1 ++ (⟨#[32]⟩ : ByteArray) ++ r.f0 ++ (⟨#[32, 104, 101, 108, 100]⟩ : ByteArray)
  else tellS v.1.toNat ++ (⟨#[32]⟩ : ByteArray) ++ wordS v.2.1 ++ (⟨#[32]⟩ : ByteArray) ++ r.f0
/-- When a record is due, and what is told of it. -/
def dtP (d : Nat) (s : S31) (r : S48) : Option (Int × ByteArray) :=
  if r.f5 = 1 ∧ 0 ≤ csI s r then (if (dueL s.f2 r (rd_T61 s.f3 (csI s r))).2.2 = true then some ((dueL s.f2 r (rd_T61 s.f3 (csI s r))).1, lnD d s r (dueL s.f2 r (rd_T61 s.f3 (csI s r)))) else none) else none
/-- It answers a date, and whether there is one. -/
def RDt (o : Option (Int × ByteArray)) (W : World) (e : Ending) (w' : World) : Prop := e = .returned (.tuple #[.agg #[.int .i64 ((o.map (·.1)).getD 0), .string ((o.map (·.2)).getD ⟨#[]⟩)], .bool o.isSome]) ∧ Below W.heap.size W w'
set_option maxHeartbeats 8000000 in
theorem dateOf_any (d : Nat) (s : S31) (r : S48) (A2 A3 A4 A5 A6 A7 A8 : Option Addr) (c2 c3 c4 c5 c6 c7 c8 : Nat) (W : World) (hs : Rs W s A2 A3 A4 A5 A6 A7 A8 c2 c3 c4 c5 c6 c7 c8) (hA : Ask d s) (hac : ∀ x ∈ s.f2, 1 ≤ x.f2 ∧ x.f2 ≤ 3) (hz : r.f0.size ≤ 140737488351232) (ht : Lib.TabIs Tryz.prog W "internal/strconv.uint64pow10" .u64 Lib.pow10Tab) :
    Calls Tryz.prog 20 #[.agg #[.int .i64 s.f0, .int .u64 s.f1, .slice A2 s.f2.length c2, .slice A3 s.f3.length c3, .slice A4 s.f4.length c4, .slice A5 s.f5.length c5, .slice A6 s.f6.length c6, .slice A7 s.f7.length c7, .slice A8 s.f8.length c8, .int .i64 s.f9], .agg #[.string r.f0, .string r.f1, .string r.f2, .string r.f3, .int .i64 r.f4, .int .i64 r.f5]] W (RDt (dtP d s r) W) := by
  have z1 : (W.alloc (.cells #[.int .i64 s.f0, .int .u64 s.f1, .slice A2 s.f2.length c2, .slice A3 s.f3.length c3, .slice A4 s.f4.length c4, .slice A5 s.f5.length c5, .slice A6 s.f6.length c6, .slice A7 s.f7.length c7, .slice A8 s.f8.length c8, .int .i64 s.f9] 31 (0, 0))).heap.size = W.heap.size + 1 := by show (W.heap.push _).size = _; rw [Array.size_push]
  have z2 : ((W.alloc (.cells #[.int .i64 s.f0, .int .u64 s.f1, .slice A2 s.f2.length c2, .slice A3 s.f3.length c3, .slice A4 s.f4.length c4, .slice A5 s.f5.length c5, .slice A6 s.f6.length c6, .slice A7 s.f7.length c7, .slice A8 s.f8.length c8, .int .i64 s.f9] 31 (0, 0))).alloc (.cells #[.string r.f0, .string r.f1, .string r.f2, .string r.f3, .int .i64 r.f4, .int .i64 r.f5] 48 (0, 0))).heap.size = W.heap.size + 1 + 1 := by show ((W.alloc (.cells #[.int .i64 s.f0, .int .u64 s.f1, .slice A2 s.f2.length c2, .slice A3 s.f3.length c3, .slice A4 s.f4.length c4, .slice A5 s.f5.length c5, .slice A6 s.f6.length c6, .slice A7 s.f7.length c7, .slice A8 s.f8.length c8, .int .i64 s.f9] 31 (0, 0))).heap.push _).size = _; rw [Array.size_push, z1]
  obtain ⟨w3, hw3⟩ : ∃ w3, (((W.alloc (.cells #[.int .i64 s.f0, .int .u64 s.f1, .slice A2 s.f2.length c2, .slice A3 s.f3.length c3, .slice A4 s.f4.length c4, .slice A5 s.f5.length c5, .slice A6 s.f6.length c6, .slice A7 s.f7.length c7, .slice A8 s.f8.length c8, .int .i64 s.f9] 31 (0, 0))).alloc (.cells #[.string r.f0, .string r.f1, .string r.f2, .string r.f3, .int .i64 r.f4, .int .i64 r.f5] 48 (0, 0))).alloc (.cells #[.int .i64 0, .string ⟨#[]⟩] 50 (0, 0))) = w3 := ⟨_, rfl⟩
  have HB3 := Lib.hid (show Below W.heap.size W w3 by rw [← hw3]; exact below_alloc (below_alloc (below_alloc (Below.refl _ _) _) _) _)
  have HY3 := Lib.hid (show w3.heap[W.heap.size]? = some (.cells #[.int .i64 s.f0, .int .u64 s.f1, .slice A2 s.f2.length c2, .slice A3 s.f3.length c3, .slice A4 s.f4.length c4, .slice A5 s.f5.length c5, .slice A6 s.f6.length c6, .slice A7 s.f7.length c7, .slice A8 s.f8.length c8, .int .i64 s.f9] 31 (0, 0)) by rw [← hw3]; exact blk_alloc (blk_alloc (new_blk W _) _) _)
  have HR3 := Lib.hid (show w3.heap[(W.heap.size + 1)]? = some (.cells #[.string r.f0, .string r.f1, .string r.f2, .string r.f3, .int .i64 r.f4, .int .i64 r.f5] 48 (0, 0)) by rw [← hw3]; have h_ := new_blk (W.alloc (.cells #[.int .i64 s.f0, .int .u64 s.f1, .slice A2 s.f2.length c2, .slice A3 s.f3.length c3, .slice A4 s.f4.length c4, .slice A5 s.f5.length c5, .slice A6 s.f6.length c6, .slice A7 s.f7.length c7, .slice A8 s.f8.length c8, .int .i64 s.f9] 31 (0, 0))) (.cells #[.string r.f0, .string r.f1, .string r.f2, .string r.f3, .int .i64 r.f4, .int .i64 r.f5] 48 (0, 0)); rw [z1] at h_; exact blk_alloc h_ _)
  have HD3 := Lib.hid (show w3.heap[(W.heap.size + 1 + 1)]? = some (.cells #[.int .i64 0, .string ⟨#[]⟩] 50 (0, 0)) by rw [← hw3]; have h_ := new_blk ((W.alloc (.cells #[.int .i64 s.f0, .int .u64 s.f1, .slice A2 s.f2.length c2, .slice A3 s.f3.length c3, .slice A4 s.f4.length c4, .slice A5 s.f5.length c5, .slice A6 s.f6.length c6, .slice A7 s.f7.length c7, .slice A8 s.f8.length c8, .int .i64 s.f9] 31 (0, 0))).alloc (.cells #[.string r.f0, .string r.f1, .string r.f2, .string r.f3, .int .i64 r.f4, .int .i64 r.f5] 48 (0, 0))) (.cells #[.int .i64 0, .string ⟨#[]⟩] 50 (0, 0)); rw [z2] at h_; exact h_)
  have HS3 := Lib.hid (hs.below HB3.out)
  have HT3 := Lib.hid (tab_below ht HB3.out)
  have HSZ := Lib.hid (show W.heap.size ≤ (W.heap.size + 1 + 1) by omega)
  have HW3 := Lib.hid hw3
  have HA := Lib.hid hA
  have HAC := Lib.hid hac
  clear hs hA hac ht hw3 z1 z2
  have q0 : ((((W.alloc (.cells #[.int .i64 s.f0, .int .u64 s.f1, .slice A2 s.f2.length c2, .slice A3 s.f3.length c3, .slice A4 s.f4.length c4, .slice A5 s.f5.length c5, .slice A6 s.f6.length c6, .slice A7 s.f7.length c7, .slice A8 s.f8.length c8, .int .i64 s.f9] 31 (0, 0))).alloc (.cells #[.string r.f0, .string r.f1, .string r.f2, .string r.f3, .int .i64 r.f4, .int .i64 r.f5] 48 (0, 0))).alloc (.cells #[.int .i64 0, .string ⟨#[]⟩] 50 (0, 0)))).cell? ⟨W.heap.size, 0, none⟩ = some (.int .i64 s.f0) := (blk_cell (show (((W.alloc (.cells #[.int .i64 s.f0, .int .u64 s.f1, .slice A2 s.f2.length c2, .slice A3 s.f3.length c3, .slice A4 s.f4.length c4, .slice A5 s.f5.length c5, .slice A6 s.f6.length c6, .slice A7 s.f7.length c7, .slice A8 s.f8.length c8, .int .i64 s.f9] 31 (0, 0))).alloc (.cells #[.string r.f0, .string r.f1, .string r.f2, .string r.f3, .int .i64 r.f4, .int .i64 r.f5] 48 (0, 0))).alloc (.cells #[.int .i64 0, .string ⟨#[]⟩] 50 (0, 0))).heap[W.heap.size]? = some (.cells #[.int .i64 s.f0, .int .u64 s.f1, .slice A2 s.f2.length c2, .slice A3 s.f3.length c3, .slice A4 s.f4.length c4, .slice A5 s.f5.length c5, .slice A6 s.f6.length c6, .slice A7 s.f7.length c7, .slice A8 s.f8.length c8, .int .i64 s.f9] 31 (0, 0)) by rw [HW3.out]; exact HY3.out) 0).trans rfl
  have q1 : ((((W.alloc (.cells #[.int .i64 s.f0, .int .u64 s.f1, .slice A2 s.f2.length c2, .slice A3 s.f3.length c3, .slice A4 s.f4.length c4, .slice A5 s.f5.length c5, .slice A6 s.f6.length c6, .slice A7 s.f7.length c7, .slice A8 s.f8.length c8, .int .i64 s.f9] 31 (0, 0))).alloc (.cells #[.string r.f0, .string r.f1, .string r.f2, .string r.f3, .int .i64 r.f4, .int .i64 r.f5] 48 (0, 0))).alloc (.cells #[.int .i64 0, .string ⟨#[]⟩] 50 (0, 0)))).cell? ⟨W.heap.size, 1, none⟩ = some (.int .u64 s.f1) := (blk_cell (show (((W.alloc (.cells #[.int .i64 s.f0, .int .u64 s.f1, .slice A2 s.f2.length c2, .slice A3 s.f3.length c3, .slice A4 s.f4.length c4, .slice A5 s.f5.length c5, .slice A6 s.f6.length c6, .slice A7 s.f7.length c7, .slice A8 s.f8.length c8, .int .i64 s.f9] 31 (0, 0))).alloc (.cells #[.string r.f0, .string r.f1, .string r.f2, .string r.f3, .int .i64 r.f4, .int .i64 r.f5] 48 (0, 0))).alloc (.cells #[.int .i64 0, .string ⟨#[]⟩] 50 (0, 0))).heap[W.heap.size]? = some (.cells #[.int .i64 s.f0, .int .u64 s.f1, .slice A2 s.f2.length c2, .slice A3 s.f3.length c3, .slice A4 s.f4.length c4, .slice A5 s.f5.length c5, .slice A6 s.f6.length c6, .slice A7 s.f7.length c7, .slice A8 s.f8.length c8, .int .i64 s.f9] 31 (0, 0)) by rw [HW3.out]; exact HY3.out) 1).trans rfl
  have q2 : ((((W.alloc (.cells #[.int .i64 s.f0, .int .u64 s.f1, .slice A2 s.f2.length c2, .slice A3 s.f3.length c3, .slice A4 s.f4.length c4, .slice A5 s.f5.length c5, .slice A6 s.f6.length c6, .slice A7 s.f7.length c7, .slice A8 s.f8.length c8, .int .i64 s.f9] 31 (0, 0))).alloc (.cells #[.string r.f0, .string r.f1, .string r.f2, .string r.f3, .int .i64 r.f4, .int .i64 r.f5] 48 (0, 0))).alloc (.cells #[.int .i64 0, .string ⟨#[]⟩] 50 (0, 0)))).cell? ⟨W.heap.size, 2, none⟩ = some (.slice A2 s.f2.length c2) := (blk_cell (show (((W.alloc (.cells #[.int .i64 s.f0, .int .u64 s.f1, .slice A2 s.f2.length c2, .slice A3 s.f3.length c3, .slice A4 s.f4.length c4, .slice A5 s.f5.length c5, .slice A6 s.f6.length c6, .slice A7 s.f7.length c7, .slice A8 s.f8.length c8, .int .i64 s.f9] 31 (0, 0))).alloc (.cells #[.string r.f0, .string r.f1, .string r.f2, .string r.f3, .int .i64 r.f4, .int .i64 r.f5] 48 (0, 0))).alloc (.cells #[.int .i64 0, .string ⟨#[]⟩] 50 (0, 0))).heap[W.heap.size]? = some (.cells #[.int .i64 s.f0, .int .u64 s.f1, .slice A2 s.f2.length c2, .slice A3 s.f3.length c3, .slice A4 s.f4.length c4, .slice A5 s.f5.length c5, .slice A6 s.f6.length c6, .slice A7 s.f7.length c7, .slice A8 s.f8.length c8, .int .i64 s.f9] 31 (0, 0)) by rw [HW3.out]; exact HY3.out) 2).trans rfl
  have q3 : ((((W.alloc (.cells #[.int .i64 s.f0, .int .u64 s.f1, .slice A2 s.f2.length c2, .slice A3 s.f3.length c3, .slice A4 s.f4.length c4, .slice A5 s.f5.length c5, .slice A6 s.f6.length c6, .slice A7 s.f7.length c7, .slice A8 s.f8.length c8, .int .i64 s.f9] 31 (0, 0))).alloc (.cells #[.string r.f0, .string r.f1, .string r.f2, .string r.f3, .int .i64 r.f4, .int .i64 r.f5] 48 (0, 0))).alloc (.cells #[.int .i64 0, .string ⟨#[]⟩] 50 (0, 0)))).cell? ⟨W.heap.size, 3, none⟩ = some (.slice A3 s.f3.length c3) := (blk_cell (show (((W.alloc (.cells #[.int .i64 s.f0, .int .u64 s.f1, .slice A2 s.f2.length c2, .slice A3 s.f3.length c3, .slice A4 s.f4.length c4, .slice A5 s.f5.length c5, .slice A6 s.f6.length c6, .slice A7 s.f7.length c7, .slice A8 s.f8.length c8, .int .i64 s.f9] 31 (0, 0))).alloc (.cells #[.string r.f0, .string r.f1, .string r.f2, .string r.f3, .int .i64 r.f4, .int .i64 r.f5] 48 (0, 0))).alloc (.cells #[.int .i64 0, .string ⟨#[]⟩] 50 (0, 0))).heap[W.heap.size]? = some (.cells #[.int .i64 s.f0, .int .u64 s.f1, .slice A2 s.f2.length c2, .slice A3 s.f3.length c3, .slice A4 s.f4.length c4, .slice A5 s.f5.length c5, .slice A6 s.f6.length c6, .slice A7 s.f7.length c7, .slice A8 s.f8.length c8, .int .i64 s.f9] 31 (0, 0)) by rw [HW3.out]; exact HY3.out) 3).trans rfl
  have q4 : ((((W.alloc (.cells #[.int .i64 s.f0, .int .u64 s.f1, .slice A2 s.f2.length c2, .slice A3 s.f3.length c3, .slice A4 s.f4.length c4, .slice A5 s.f5.length c5, .slice A6 s.f6.length c6, .slice A7 s.f7.length c7, .slice A8 s.f8.length c8, .int .i64 s.f9] 31 (0, 0))).alloc (.cells #[.string r.f0, .string r.f1, .string r.f2, .string r.f3, .int .i64 r.f4, .int .i64 r.f5] 48 (0, 0))).alloc (.cells #[.int .i64 0, .string ⟨#[]⟩] 50 (0, 0)))).cell? ⟨W.heap.size, 4, none⟩ = some (.slice A4 s.f4.length c4) := (blk_cell (show (((W.alloc (.cells #[.int .i64 s.f0, .int .u64 s.f1, .slice A2 s.f2.length c2, .slice A3 s.f3.length c3, .slice A4 s.f4.length c4, .slice A5 s.f5.length c5, .slice A6 s.f6.length c6, .slice A7 s.f7.length c7, .slice A8 s.f8.length c8, .int .i64 s.f9] 31 (0, 0))).alloc (.cells #[.string r.f0, .string r.f1, .string r.f2, .string r.f3, .int .i64 r.f4, .int .i64 r.f5] 48 (0, 0))).alloc (.cells #[.int .i64 0, .string ⟨#[]⟩] 50 (0, 0))).heap[W.heap.size]? = some (.cells #[.int .i64 s.f0, .int .u64 s.f1, .slice A2 s.f2.length c2, .slice A3 s.f3.length c3, .slice A4 s.f4.length c4, .slice A5 s.f5.length c5, .slice A6 s.f6.length c6, .slice A7 s.f7.length c7, .slice A8 s.f8.length c8, .int .i64 s.f9] 31 (0, 0)) by rw [HW3.out]; exact HY3.out) 4).trans rfl
  have q5 : ((((W.alloc (.cells #[.int .i64 s.f0, .int .u64 s.f1, .slice A2 s.f2.length c2, .slice A3 s.f3.length c3, .slice A4 s.f4.length c4, .slice A5 s.f5.length c5, .slice A6 s.f6.length c6, .slice A7 s.f7.length c7, .slice A8 s.f8.length c8, .int .i64 s.f9] 31 (0, 0))).alloc (.cells #[.string r.f0, .string r.f1, .string r.f2, .string r.f3, .int .i64 r.f4, .int .i64 r.f5] 48 (0, 0))).alloc (.cells #[.int .i64 0, .string ⟨#[]⟩] 50 (0, 0)))).cell? ⟨W.heap.size, 5, none⟩ = some (.slice A5 s.f5.length c5) := (blk_cell (show (((W.alloc (.cells #[.int .i64 s.f0, .int .u64 s.f1, .slice A2 s.f2.length c2, .slice A3 s.f3.length c3, .slice A4 s.f4.length c4, .slice A5 s.f5.length c5, .slice A6 s.f6.length c6, .slice A7 s.f7.length c7, .slice A8 s.f8.length c8, .int .i64 s.f9] 31 (0, 0))).alloc (.cells #[.string r.f0, .string r.f1, .string r.f2, .string r.f3, .int .i64 r.f4, .int .i64 r.f5] 48 (0, 0))).alloc (.cells #[.int .i64 0, .string ⟨#[]⟩] 50 (0, 0))).heap[W.heap.size]? = some (.cells #[.int .i64 s.f0, .int .u64 s.f1, .slice A2 s.f2.length c2, .slice A3 s.f3.length c3, .slice A4 s.f4.length c4, .slice A5 s.f5.length c5, .slice A6 s.f6.length c6, .slice A7 s.f7.length c7, .slice A8 s.f8.length c8, .int .i64 s.f9] 31 (0, 0)) by rw [HW3.out]; exact HY3.out) 5).trans rfl
  have q6 : ((((W.alloc (.cells #[.int .i64 s.f0, .int .u64 s.f1, .slice A2 s.f2.length c2, .slice A3 s.f3.length c3, .slice A4 s.f4.length c4, .slice A5 s.f5.length c5, .slice A6 s.f6.length c6, .slice A7 s.f7.length c7, .slice A8 s.f8.length c8, .int .i64 s.f9] 31 (0, 0))).alloc (.cells #[.string r.f0, .string r.f1, .string r.f2, .string r.f3, .int .i64 r.f4, .int .i64 r.f5] 48 (0, 0))).alloc (.cells #[.int .i64 0, .string ⟨#[]⟩] 50 (0, 0)))).cell? ⟨W.heap.size, 6, none⟩ = some (.slice A6 s.f6.length c6) := (blk_cell (show (((W.alloc (.cells #[.int .i64 s.f0, .int .u64 s.f1, .slice A2 s.f2.length c2, .slice A3 s.f3.length c3, .slice A4 s.f4.length c4, .slice A5 s.f5.length c5, .slice A6 s.f6.length c6, .slice A7 s.f7.length c7, .slice A8 s.f8.length c8, .int .i64 s.f9] 31 (0, 0))).alloc (.cells #[.string r.f0, .string r.f1, .string r.f2, .string r.f3, .int .i64 r.f4, .int .i64 r.f5] 48 (0, 0))).alloc (.cells #[.int .i64 0, .string ⟨#[]⟩] 50 (0, 0))).heap[W.heap.size]? = some (.cells #[.int .i64 s.f0, .int .u64 s.f1, .slice A2 s.f2.length c2, .slice A3 s.f3.length c3, .slice A4 s.f4.length c4, .slice A5 s.f5.length c5, .slice A6 s.f6.length c6, .slice A7 s.f7.length c7, .slice A8 s.f8.length c8, .int .i64 s.f9] 31 (0, 0)) by rw [HW3.out]; exact HY3.out) 6).trans rfl
  have q7 : ((((W.alloc (.cells #[.int .i64 s.f0, .int .u64 s.f1, .slice A2 s.f2.length c2, .slice A3 s.f3.length c3, .slice A4 s.f4.length c4, .slice A5 s.f5.length c5, .slice A6 s.f6.length c6, .slice A7 s.f7.length c7, .slice A8 s.f8.length c8, .int .i64 s.f9] 31 (0, 0))).alloc (.cells #[.string r.f0, .string r.f1, .string r.f2, .string r.f3, .int .i64 r.f4, .int .i64 r.f5] 48 (0, 0))).alloc (.cells #[.int .i64 0, .string ⟨#[]⟩] 50 (0, 0)))).cell? ⟨W.heap.size, 7, none⟩ = some (.slice A7 s.f7.length c7) := (blk_cell (show (((W.alloc (.cells #[.int .i64 s.f0, .int .u64 s.f1, .slice A2 s.f2.length c2, .slice A3 s.f3.length c3, .slice A4 s.f4.length c4, .slice A5 s.f5.length c5, .slice A6 s.f6.length c6, .slice A7 s.f7.length c7, .slice A8 s.f8.length c8, .int .i64 s.f9] 31 (0, 0))).alloc (.cells #[.string r.f0, .string r.f1, .string r.f2, .string r.f3, .int .i64 r.f4, .int .i64 r.f5] 48 (0, 0))).alloc (.cells #[.int .i64 0, .string ⟨#[]⟩] 50 (0, 0))).heap[W.heap.size]? = some (.cells #[.int .i64 s.f0, .int .u64 s.f1, .slice A2 s.f2.length c2, .slice A3 s.f3.length c3, .slice A4 s.f4.length c4, .slice A5 s.f5.length c5, .slice A6 s.f6.length c6, .slice A7 s.f7.length c7, .slice A8 s.f8.length c8, .int .i64 s.f9] 31 (0, 0)) by rw [HW3.out]; exact HY3.out) 7).trans rfl
  have q8 : ((((W.alloc (.cells #[.int .i64 s.f0, .int .u64 s.f1, .slice A2 s.f2.length c2, .slice A3 s.f3.length c3, .slice A4 s.f4.length c4, .slice A5 s.f5.length c5, .slice A6 s.f6.length c6, .slice A7 s.f7.length c7, .slice A8 s.f8.length c8, .int .i64 s.f9] 31 (0, 0))).alloc (.cells #[.string r.f0, .string r.f1, .string r.f2, .string r.f3, .int .i64 r.f4, .int .i64 r.f5] 48 (0, 0))).alloc (.cells #[.int .i64 0, .string ⟨#[]⟩] 50 (0, 0)))).cell? ⟨W.heap.size, 8, none⟩ = some (.slice A8 s.f8.length c8) := (blk_cell (show (((W.alloc (.cells #[.int .i64 s.f0, .int .u64 s.f1, .slice A2 s.f2.length c2, .slice A3 s.f3.length c3, .slice A4 s.f4.length c4, .slice A5 s.f5.length c5, .slice A6 s.f6.length c6, .slice A7 s.f7.length c7, .slice A8 s.f8.length c8, .int .i64 s.f9] 31 (0, 0))).alloc (.cells #[.string r.f0, .string r.f1, .string r.f2, .string r.f3, .int .i64 r.f4, .int .i64 r.f5] 48 (0, 0))).alloc (.cells #[.int .i64 0, .string ⟨#[]⟩] 50 (0, 0))).heap[W.heap.size]? = some (.cells #[.int .i64 s.f0, .int .u64 s.f1, .slice A2 s.f2.length c2, .slice A3 s.f3.length c3, .slice A4 s.f4.length c4, .slice A5 s.f5.length c5, .slice A6 s.f6.length c6, .slice A7 s.f7.length c7, .slice A8 s.f8.length c8, .int .i64 s.f9] 31 (0, 0)) by rw [HW3.out]; exact HY3.out) 8).trans rfl
  have q9 : ((((W.alloc (.cells #[.int .i64 s.f0, .int .u64 s.f1, .slice A2 s.f2.length c2, .slice A3 s.f3.length c3, .slice A4 s.f4.length c4, .slice A5 s.f5.length c5, .slice A6 s.f6.length c6, .slice A7 s.f7.length c7, .slice A8 s.f8.length c8, .int .i64 s.f9] 31 (0, 0))).alloc (.cells #[.string r.f0, .string r.f1, .string r.f2, .string r.f3, .int .i64 r.f4, .int .i64 r.f5] 48 (0, 0))).alloc (.cells #[.int .i64 0, .string ⟨#[]⟩] 50 (0, 0)))).cell? ⟨W.heap.size, 9, none⟩ = some (.int .i64 s.f9) := (blk_cell (show (((W.alloc (.cells #[.int .i64 s.f0, .int .u64 s.f1, .slice A2 s.f2.length c2, .slice A3 s.f3.length c3, .slice A4 s.f4.length c4, .slice A5 s.f5.length c5, .slice A6 s.f6.length c6, .slice A7 s.f7.length c7, .slice A8 s.f8.length c8, .int .i64 s.f9] 31 (0, 0))).alloc (.cells #[.string r.f0, .string r.f1, .string r.f2, .string r.f3, .int .i64 r.f4, .int .i64 r.f5] 48 (0, 0))).alloc (.cells #[.int .i64 0, .string ⟨#[]⟩] 50 (0, 0))).heap[W.heap.size]? = some (.cells #[.int .i64 s.f0, .int .u64 s.f1, .slice A2 s.f2.length c2, .slice A3 s.f3.length c3, .slice A4 s.f4.length c4, .slice A5 s.f5.length c5, .slice A6 s.f6.length c6, .slice A7 s.f7.length c7, .slice A8 s.f8.length c8, .int .i64 s.f9] 31 (0, 0)) by rw [HW3.out]; exact HY3.out) 9).trans rfl
  have x1 : ((((W.alloc (.cells #[.int .i64 s.f0, .int .u64 s.f1, .slice A2 s.f2.length c2, .slice A3 s.f3.length c3, .slice A4 s.f4.length c4, .slice A5 s.f5.length c5, .slice A6 s.f6.length c6, .slice A7 s.f7.length c7, .slice A8 s.f8.length c8, .int .i64 s.f9] 31 (0, 0))).alloc (.cells #[.string r.f0, .string r.f1, .string r.f2, .string r.f3, .int .i64 r.f4, .int .i64 r.f5] 48 (0, 0))).alloc (.cells #[.int .i64 0, .string ⟨#[]⟩] 50 (0, 0)))).cell? ⟨(W.heap.size + 1), 1, none⟩ = some (.string r.f1) := (blk_cell (show (((W.alloc (.cells #[.int .i64 s.f0, .int .u64 s.f1, .slice A2 s.f2.length c2, .slice A3 s.f3.length c3, .slice A4 s.f4.length c4, .slice A5 s.f5.length c5, .slice A6 s.f6.length c6, .slice A7 s.f7.length c7, .slice A8 s.f8.length c8, .int .i64 s.f9] 31 (0, 0))).alloc (.cells #[.string r.f0, .string r.f1, .string r.f2, .string r.f3, .int .i64 r.f4, .int .i64 r.f5] 48 (0, 0))).alloc (.cells #[.int .i64 0, .string ⟨#[]⟩] 50 (0, 0))).heap[(W.heap.size + 1)]? = some (.cells #[.string r.f0, .string r.f1, .string r.f2, .string r.f3, .int .i64 r.f4, .int .i64 r.f5] 48 (0, 0)) by rw [HW3.out]; exact HR3.out) 1).trans rfl
  have HCC := Lib.hid (catCase_any s A2 A3 A4 A5 A6 A7 A8 c2 c3 c4 c5 c6 c7 c8 r.f1 w3 HS3.out)
  have HDT := Lib.hid (show dtP d s r = (if r.f5 = 1 ∧ 0 ≤ csI s r then (if (dueL s.f2 r (rd_T61 s.f3 (csI s r))).2.2 = true then some ((dueL s.f2 r (rd_T61 s.f3 (csI s r))).1, lnD d s r (dueL s.f2 r (rd_T61 s.f3 (csI s r)))) else none) else none) from rfl)
  generalize dtP d s r = D at *
  go_enter Tryz.func20, Tryz.ntmps20
  go_wp2_with fail
  rw [HW3.out]
  refine HCC.out.mono ?_
  rintro e w4 ⟨rfl, hb⟩
  have HB4 := Lib.hid (below_tr HB3.out hb)
  have HY4 := Lib.hid ((hb.block W.heap.size (blk_lt HY3.out)).trans HY3.out)
  have HR4 := Lib.hid ((hb.block (W.heap.size + 1) (blk_lt HR3.out)).trans HR3.out)
  have HD4 := Lib.hid ((hb.block (W.heap.size + 1 + 1) (blk_lt HD3.out)).trans HD3.out)
  have HS4 := Lib.hid (HS3.out.below hb)
  have HT4 := Lib.hid (tab_below HT3.out hb)
  clear hb HW3 q0 q1 q2 q3 q4 q5 q6 q7 q8 q9 x1
  have x0 : (w4).cell? ⟨(W.heap.size + 1), 0, none⟩ = some (.string r.f0) := (blk_cell HR4.out 0).trans rfl
  have x1 : (w4).cell? ⟨(W.heap.size + 1), 1, none⟩ = some (.string r.f1) := (blk_cell HR4.out 1).trans rfl
  have x2 : (w4).cell? ⟨(W.heap.size + 1), 2, none⟩ = some (.string r.f2) := (blk_cell HR4.out 2).trans rfl
  have x3 : (w4).cell? ⟨(W.heap.size + 1), 3, none⟩ = some (.string r.f3) := (blk_cell HR4.out 3).trans rfl
  have x4 : (w4).cell? ⟨(W.heap.size + 1), 4, none⟩ = some (.int .i64 r.f4) := (blk_cell HR4.out 4).trans rfl
  have x5 : (w4).cell? ⟨(W.heap.size + 1), 5, none⟩ = some (.int .i64 r.f5) := (blk_cell HR4.out 5).trans rfl
  by_cases h5 : r.f5 = 1
  · have h5b : (r.f5 != 1) = false := by rw [h5]; rfl
    by_cases hix : 0 ≤ csI s r
    · have hixd : decide (ix (nm59 r.f1) s.f3 0 ≥ 0) = true := decide_eq_true hix
      have hrg := ix_range (nm59 r.f1) s.f3 0
      obtain ⟨k, hk⟩ : ∃ k : Nat, csI s r = (k : Int) := ⟨(csI s r).toNat, by omega⟩
      have hkl : k < s.f3.length := by
        have h_ : ix (nm59 r.f1) s.f3 0 = (k : Int) := hk
        rw [h_] at hrg
        omega
      rw [if_pos ⟨h5, hix⟩, hk] at HDT
      rw [show max (ix (nm59 r.f1) s.f3 0) 0 = (k : Int) from by rw [show ix (nm59 r.f1) s.f3 0 = (k : Int) from hk]; omega, hixd]
      obtain ⟨ad, A9, c9, e, h0, h1, hl9, hC9⟩ := at_T61 HS4.out.g3 (k : Int) (by omega) (by omega)
      simp only [Int.toNat_natCast] at h0 h1
      have hyl := HA.out.miles _ (rd_mem59 hkl)
      generalize rd_T61 s.f3 (k : Int) = y at *
      subst e
      clear hixd hrg hix hk h5
      have hkl2 : (k : Int) < (s.f3.length : Int) := by omega
      have q2 : w4.cell? ⟨W.heap.size, 2, none⟩ = some (.slice A2 s.f2.length c2) := (blk_cell HY4.out 2).trans rfl
      have q3 : w4.cell? ⟨W.heap.size, 3, none⟩ = some (.slice (some ad) s.f3.length c3) := (blk_cell HY4.out 3).trans rfl
      have HOF := Lib.hid (fun w' (h : Below w4.heap.size w4 w') => OfP_any s.f2 r y A2 c2 A9 c9 w' (HS4.out.below h).g2 HS4.out.l2 HA.out.rules (Kd.C_below hC9 h) hl9 hyl)
      have HIN := Lib.hid (fun h => dueL_in (r := r) (c := y) HA.out.rules HAC.out h)
      have HLN := Lib.hid (show ∀ v : Int × Int × Bool, lnD d s r v = (if heldP d s.f6 r = true then tellS v.1.toNat ++ (⟨#[32]⟩ : ByteArray) ++ wordS v.2.1 ++ (⟨#[32]⟩ : ByteArray) ++ r.f0 ++ (⟨#[32, 104, 101, 108, 100]⟩ : ByteArray) else tellS v.1.toNat ++ (⟨#[32]⟩ : ByteArray) ++ wordS v.2.1 ++ (⟨#[32]⟩ : ByteArray) ++ r.f0) from fun _ => rfl)
      clear hC9 hl9 hyl
      generalize dueL s.f2 r y = v at *
      obtain ⟨t, a, kn⟩ := v
      dsimp only at HDT HIN HOF
      go_wp2_with fail
      refine WL.start (n := 16) (S := fun w' => Aside0 (Below w4.heap.size w4 w') ∧ w'.cell? ⟨W.heap.size, 2, none⟩ = some (.slice A2 s.f2.length c2) ∧ w'.cell? ⟨W.heap.size, 3, none⟩ = some (.slice (some ad) s.f3.length c3) ∧ w'.cell? ⟨(W.heap.size + 1), 0, none⟩ = some (.string r.f0) ∧ w'.cell? ⟨(W.heap.size + 1), 1, none⟩ = some (.string r.f1) ∧ w'.cell? ⟨(W.heap.size + 1), 2, none⟩ = some (.string r.f2) ∧ w'.cell? ⟨(W.heap.size + 1), 3, none⟩ = some (.string r.f3) ∧ w'.cell? ⟨(W.heap.size + 1), 4, none⟩ = some (.int .i64 r.f4) ∧ w'.cell? ⟨(W.heap.size + 1), 5, none⟩ = some (.int .i64 r.f5) ∧ w'.cell? (ad.add (k * 2)) = some (.string y.f0) ∧ w'.cell? ⟨(ad.add (k * 2)).block, (ad.add (k * 2)).off + 1, none⟩ = some (.slice A9 y.f1.length c9)) (ds := []) [false, false, false, false, false, false, false, false, false, false, false, false, false, false, false, false] (by kernel_rfl) rfl rfl ⟨⟨below_drew (Below.refl _ _)⟩, q2, q3, x0, x1, x2, x3, x4, x5, h0, h1⟩ (fun hHeld => ?_)
      refine WL.tab tab20_4 (fun HT_ => ?_)
      refine WL.more [0, 3, 5, 1, 2, 4, 6, 7, 8, 9, 10, 11, 12, 13, 14, 15] ?_
      repeat (first
        | (refine WL.off (lb' := ?_) (ys := ?_) rfl rfl (by rfl) ?_ HT_.out ?_ (fun _ _ _ h => h) ?_ ?_; rotate_left 2; (focus dsimp only [List.set_cons_zero, List.set_cons_succ]; rfl); (focus kernel_rfl); (focus dsimp only [List.set_cons_zero, List.set_cons_succ]; rfl))
        | (refine WL.pure (lb' := ?_) (v := ?_) (ys := ?_) rfl rfl (by rfl) ?_ HT_.out ?_ (fun _ _ _ h => h) ?_ ?_ ?_; rotate_left 3; (focus dsimp only [List.set_cons_zero, List.set_cons_succ]; rfl); (focus kernel_rfl); (focus intro w'; go_simp; with_reducible rfl); (focus dsimp only [List.set_cons_zero, List.set_cons_succ]; rfl))
        | (refine WL.take (lb' := ?_) (v := ?_) (ys := ?_) rfl rfl (by rfl) ?_ HT_.out ?_ (fun _ _ _ h => h) hHeld ?_ ?_ ?_; rotate_left 3; (focus dsimp only [List.set_cons_zero, List.set_cons_succ]; rfl); (focus kernel_rfl); (focus rintro w' ⟨s0, s1, s2, s3, s4, s5, s6, s7, s8, s9, s10⟩; go_simp; with_reducible rfl); (focus dsimp only [List.set_cons_zero, List.set_cons_succ]; rfl))
        | (refine WL.one (lb' := ?_) rfl rfl ?_ HT_.out ?_ (by decide) (fun K hK => ?_); rotate_left; (focus dsimp only [List.set_cons_zero, List.set_cons_succ]; rfl); (focus kernel_rfl); first
            | (refine goes_ Tryz.func45 (by kernel_rfl) rfl #[.slice A2 s.f2.length c2, .agg #[.string r.f0, .string r.f1, .string r.f2, .string r.f3, .int .i64 r.f4, .int .i64 r.f5], .agg #[.string y.f0, .slice A9 y.f1.length c9]] (by rfl) rfl rfl (by simp only [List.map_toArray, List.map_cons, List.map_nil]; rfl) ?_; (with_reducible refine (HOF.out _ hHeld.1.out).mono ?_); rintro e w5 ⟨rfl, hb⟩; refine ⟨_, rfl, ?_⟩; refine hK.out _ _ (by have h_ := hHeld.2; refine ⟨⟨below_tr hHeld.1.out hb⟩, ?_⟩; repeat (first | exact below_cell hb h_ | (refine ⟨below_cell hb h_.1, ?_⟩; replace h_ := h_.2))) (fun hHeld => ?_); clear hK K; refine WL.put (ys := ?_) ?_ ?_; rotate_left; (focus dsimp only [List.set_cons_zero, List.set_cons_succ]; rfl))))
      refine WL.done HT_.out (by kernel_rfl) ?_
      have hb5 := hHeld.1.out
      clear hHeld q2 q3 x0 x1 x2 x3 x4 x5 h0 h1
      have HB5 := Lib.hid (below_tr HB4.out hb5)
      have HY5 := Lib.hid ((hb5.block W.heap.size (blk_lt HY4.out)).trans HY4.out)
      have HR5 := Lib.hid ((hb5.block (W.heap.size + 1) (blk_lt HR4.out)).trans HR4.out)
      have HD5 := Lib.hid ((hb5.block (W.heap.size + 1 + 1) (blk_lt HD4.out)).trans HD4.out)
      have HS5 := Lib.hid (HS4.out.below hb5)
      have HT5 := Lib.hid (tab_below HT4.out hb5)
      clear hb5
      cases kn
      · obtain rfl : D = none := by rw [HDT.out]; exact if_neg (by decide)
        have d0 : w5.cell? ⟨(W.heap.size + 1 + 1), 0, none⟩ = some (.int .i64 0) := (blk_cell HD5.out 0).trans rfl
        have z0 : w5.frozen? ⟨(W.heap.size + 1 + 1), 0, none⟩ = false := blk_frozen HD5.out 0
        have d1 : w5.cell? ⟨(W.heap.size + 1 + 1), 1, none⟩ = some (.string ⟨#[]⟩) := (blk_cell HD5.out 1).trans rfl
        have z1 : w5.frozen? ⟨(W.heap.size + 1 + 1), 1, none⟩ = false := blk_frozen HD5.out 1
        go_wp2
        refine bodyPost_ret (results_ct rfl _ _ (W.heap.size + 1 + 1) 50 #[.int .i64 0, .string ⟨#[]⟩] (0, 0) _ rfl (date_put _ _ HD5.out) Tryz.underlying50 rfl (by kernel_rfl)) rfl ?_
        exact ⟨rfl, below_set2 HB5.out HSZ.out⟩
      · have hin := HIN.out rfl
        have HDS := Lib.hid (show D = some (t, lnD d s r (t, a, true)) by rw [HDT.out]; exact if_pos rfl)
        have HLX := Lib.hid (HLN.out (t, a, true))
        dsimp only at HLX
        have HIT := Lib.hid (fun w' (h : Below w5.heap.size w5 w') => Lib.hid (Itoa_any t hin.1.1 hin.1.2 w' (tab_below HT5.out h)))
        have HWD := Lib.hid (fun w => Lib.hid (word_eq a hin.2 w))
        have zt := tellS_size t.toNat
        have zw := wordS_size a
        clear HOF HIN HLN HDT hin
        generalize tellS t.toNat = tt at *
        generalize wordS a = ws at *
        have d0 : ¬ 9223372036854775807 < tt.size + 1 := by omega
        have d1 : ¬ 9223372036854775807 < tt.size + 1 + ws.size := by omega
        have d2 : ¬ 9223372036854775807 < tt.size + 1 + ws.size + 1 := by omega
        have d3 : ¬ 9223372036854775807 < tt.size + 1 + ws.size + 1 + r.f0.size := by omega
        have d4 : ¬ 9223372036854775807 < tt.size + 1 + ws.size + 1 + r.f0.size + 5 := by omega
        have x0 : w5.cell? ⟨(W.heap.size + 1), 0, none⟩ = some (.string r.f0) := (blk_cell HR5.out 0).trans rfl
        go_wp2_with fail
        refine WL.start (n := 11) (S := fun w' => Aside0 (Below w5.heap.size w5 w') ∧ w'.cell? ⟨(W.heap.size + 1), 0, none⟩ = some (.string r.f0)) (ds := []) [false, false, false, false, false, false, false, false, false, false, false] (by kernel_rfl) rfl rfl ⟨⟨below_drew (Below.refl _ _)⟩, x0⟩ (fun hHeld => ?_)
        refine WL.tab tab20_7 (fun HT_ => ?_)
        refine WL.more [0, 3, 7, 8] ?_
        repeat (first
          | (refine WL.off (lb' := ?_) (ys := ?_) rfl rfl (by rfl) ?_ HT_.out ?_ (fun _ _ _ h => h) ?_ ?_; rotate_left 2; (focus dsimp only [List.set_cons_zero, List.set_cons_succ]; rfl); (focus kernel_rfl); (focus dsimp only [List.set_cons_zero, List.set_cons_succ]; rfl))
          | (refine WL.pure (lb' := ?_) (v := ?_) (ys := ?_) rfl rfl (by rfl) ?_ HT_.out ?_ (fun _ _ _ h => h) ?_ ?_ ?_; rotate_left 3; (focus dsimp only [List.set_cons_zero, List.set_cons_succ]; rfl); (focus kernel_rfl); (focus intro w'; go_simp; with_reducible rfl); (focus dsimp only [List.set_cons_zero, List.set_cons_succ]; rfl))
          | (refine WL.take (lb' := ?_) (v := ?_) (ys := ?_) rfl rfl (by rfl) ?_ HT_.out ?_ (fun _ _ _ h => h) hHeld ?_ ?_ ?_; rotate_left 3; (focus dsimp only [List.set_cons_zero, List.set_cons_succ]; rfl); (focus kernel_rfl); (focus rintro w' ⟨s0, s1⟩; go_simp; with_reducible rfl); (focus dsimp only [List.set_cons_zero, List.set_cons_succ]; rfl)))
        refine WL.more [1] ?_
        repeat (first
          | (refine WL.off (lb' := ?_) (ys := ?_) rfl rfl (by rfl) ?_ HT_.out ?_ (fun _ _ _ h => h) ?_ ?_; rotate_left 2; (focus dsimp only [List.set_cons_zero, List.set_cons_succ]; rfl); (focus kernel_rfl); (focus dsimp only [List.set_cons_zero, List.set_cons_succ]; rfl))
          | (refine WL.pure (lb' := ?_) (v := ?_) (ys := ?_) rfl rfl (by rfl) ?_ HT_.out ?_ (fun _ _ _ h => h) ?_ ?_ ?_; rotate_left 3; (focus dsimp only [List.set_cons_zero, List.set_cons_succ]; rfl); (focus kernel_rfl); (focus intro w'; go_simp; with_reducible rfl); (focus dsimp only [List.set_cons_zero, List.set_cons_succ]; rfl))
          | (refine WL.take (lb' := ?_) (v := ?_) (ys := ?_) rfl rfl (by rfl) ?_ HT_.out ?_ (fun _ _ _ h => h) hHeld ?_ ?_ ?_; rotate_left 3; (focus dsimp only [List.set_cons_zero, List.set_cons_succ]; rfl); (focus kernel_rfl); (focus rintro w' ⟨s0, s1⟩; go_simp; with_reducible rfl); (focus dsimp only [List.set_cons_zero, List.set_cons_succ]; rfl))
          | (refine WL.one (lb' := ?_) rfl rfl ?_ HT_.out ?_ (by decide) (fun K hK => ?_); rotate_left; (focus dsimp only [List.set_cons_zero, List.set_cons_succ]; rfl); (focus kernel_rfl); first
              | (refine goes_ Tryz.func36 (by kernel_rfl) rfl #[.int .i64 t] (by rfl) rfl rfl (by simp only [List.map_toArray, List.map_cons, List.map_nil]; rfl) ?_; (with_reducible refine ((HIT.out _ hHeld.1.out).out).mono ?_); rintro e w7 ⟨rfl, hb⟩; refine ⟨_, rfl, ?_⟩; refine hK.out _ _ (by have h_ := hHeld.2; refine ⟨⟨below_tr hHeld.1.out hb⟩, ?_⟩; repeat (first | exact below_cell hb h_ | (refine ⟨below_cell hb h_.1, ?_⟩; replace h_ := h_.2))) (fun hHeld => ?_); clear hK K; refine WL.put (ys := ?_) ?_ ?_; rotate_left; (focus dsimp only [List.set_cons_zero, List.set_cons_succ]; rfl))))
        refine WL.more [2] ?_
        repeat (first
          | (refine WL.off (lb' := ?_) (ys := ?_) rfl rfl (by rfl) ?_ HT_.out ?_ (fun _ _ _ h => h) ?_ ?_; rotate_left 2; (focus dsimp only [List.set_cons_zero, List.set_cons_succ]; rfl); (focus kernel_rfl); (focus dsimp only [List.set_cons_zero, List.set_cons_succ]; rfl))
          | (refine WL.pure (lb' := ?_) (v := ?_) (ys := ?_) rfl rfl (by rfl) ?_ HT_.out ?_ (fun _ _ _ h => h) ?_ ?_ ?_; rotate_left 3; (focus dsimp only [List.set_cons_zero, List.set_cons_succ]; rfl); (focus kernel_rfl); (focus intro w'; go_simp; with_reducible rfl); (focus dsimp only [List.set_cons_zero, List.set_cons_succ]; rfl))
          | (refine WL.take (lb' := ?_) (v := ?_) (ys := ?_) rfl rfl (by rfl) ?_ HT_.out ?_ (fun _ _ _ h => h) hHeld ?_ ?_ ?_; rotate_left 3; (focus dsimp only [List.set_cons_zero, List.set_cons_succ]; rfl); (focus kernel_rfl); (focus rintro w' ⟨s0, s1⟩; go_simp; with_reducible rfl); (focus dsimp only [List.set_cons_zero, List.set_cons_succ]; rfl)))
        refine WL.more [4] ?_
        repeat (first
          | (refine WL.off (lb' := ?_) (ys := ?_) rfl rfl (by rfl) ?_ HT_.out ?_ (fun _ _ _ h => h) ?_ ?_; rotate_left 2; (focus dsimp only [List.set_cons_zero, List.set_cons_succ]; rfl); (focus kernel_rfl); (focus dsimp only [List.set_cons_zero, List.set_cons_succ]; rfl))
          | (refine WL.pure (lb' := ?_) (v := ?_) (ys := ?_) rfl rfl (by rfl) ?_ HT_.out ?_ (fun _ _ _ h => h) ?_ ?_ ?_; rotate_left 3; (focus dsimp only [List.set_cons_zero, List.set_cons_succ]; rfl); (focus kernel_rfl); (focus intro w'; go_simp; with_reducible rfl); (focus dsimp only [List.set_cons_zero, List.set_cons_succ]; rfl))
          | (refine WL.take (lb' := ?_) (v := ?_) (ys := ?_) rfl rfl (by rfl) ?_ HT_.out ?_ (fun _ _ _ h => h) hHeld ?_ ?_ ?_; rotate_left 3; (focus dsimp only [List.set_cons_zero, List.set_cons_succ]; rfl); (focus kernel_rfl); (focus rintro w' ⟨s0, s1⟩; go_simp; with_reducible rfl); (focus dsimp only [List.set_cons_zero, List.set_cons_succ]; rfl))
          | (refine WL.one (lb' := ?_) rfl rfl ?_ HT_.out ?_ (by decide) (fun K hK => ?_); rotate_left; (focus dsimp only [List.set_cons_zero, List.set_cons_succ]; rfl); (focus kernel_rfl); first
              | (refine goes_ Tryz.func46 (by kernel_rfl) rfl #[.int .i64 a] (by rfl) rfl rfl (by simp only [List.map_toArray, List.map_cons, List.map_nil]; rfl) ?_; (with_reducible refine ((HWD.out _).out).mono ?_); rintro e w8 ⟨rfl, rfl⟩; refine ⟨_, rfl, ?_⟩; refine hK.out _ _ hHeld (fun hHeld => ?_); clear hK K; refine WL.put (ys := ?_) ?_ ?_; rotate_left; (focus dsimp only [List.set_cons_zero, List.set_cons_succ]; rfl))))
        refine WL.more [5, 6, 9, 10] ?_
        repeat (first
          | (refine WL.off (lb' := ?_) (ys := ?_) rfl rfl (by rfl) ?_ HT_.out ?_ (fun _ _ _ h => h) ?_ ?_; rotate_left 2; (focus dsimp only [List.set_cons_zero, List.set_cons_succ]; rfl); (focus kernel_rfl); (focus dsimp only [List.set_cons_zero, List.set_cons_succ]; rfl))
          | (refine WL.pure (lb' := ?_) (v := ?_) (ys := ?_) rfl rfl (by rfl) ?_ HT_.out ?_ (fun _ _ _ h => h) ?_ ?_ ?_; rotate_left 3; (focus dsimp only [List.set_cons_zero, List.set_cons_succ]; rfl); (focus kernel_rfl); (focus intro w'; go_simp; with_reducible rfl); (focus dsimp only [List.set_cons_zero, List.set_cons_succ]; rfl))
          | (refine WL.take (lb' := ?_) (v := ?_) (ys := ?_) rfl rfl (by rfl) ?_ HT_.out ?_ (fun _ _ _ h => h) hHeld ?_ ?_ ?_; rotate_left 3; (focus dsimp only [List.set_cons_zero, List.set_cons_succ]; rfl); (focus kernel_rfl); (focus rintro w' ⟨s0, s1⟩; go_simp; with_reducible rfl); (focus dsimp only [List.set_cons_zero, List.set_cons_succ]; rfl)))
        refine WL.done HT_.out (by kernel_rfl) ?_
        have hb8 := hHeld.1.out
        clear hHeld x0
        have HB8 := Lib.hid (below_tr HB5.out hb8)
        have HY8 := Lib.hid ((hb8.block W.heap.size (blk_lt HY5.out)).trans HY5.out)
        have HR8 := Lib.hid ((hb8.block (W.heap.size + 1) (blk_lt HR5.out)).trans HR5.out)
        have HD8 := Lib.hid ((hb8.block (W.heap.size + 1 + 1) (blk_lt HD5.out)).trans HD5.out)
        have HS8 := Lib.hid (HS5.out.below hb8)
        clear hb8
        have x0 : (w8).cell? ⟨(W.heap.size + 1), 0, none⟩ = some (.string r.f0) := (blk_cell HR8.out 0).trans rfl
        have x1 : (w8).cell? ⟨(W.heap.size + 1), 1, none⟩ = some (.string r.f1) := (blk_cell HR8.out 1).trans rfl
        have x2 : (w8).cell? ⟨(W.heap.size + 1), 2, none⟩ = some (.string r.f2) := (blk_cell HR8.out 2).trans rfl
        have x3 : (w8).cell? ⟨(W.heap.size + 1), 3, none⟩ = some (.string r.f3) := (blk_cell HR8.out 3).trans rfl
        have x4 : (w8).cell? ⟨(W.heap.size + 1), 4, none⟩ = some (.int .i64 r.f4) := (blk_cell HR8.out 4).trans rfl
        have x5 : (w8).cell? ⟨(W.heap.size + 1), 5, none⟩ = some (.int .i64 r.f5) := (blk_cell HR8.out 5).trans rfl
        have q6 : w8.cell? ⟨W.heap.size, 6, none⟩ = some (.slice A6 s.f6.length c6) := (blk_cell HY8.out 6).trans rfl
        have HHE := Lib.hid (show Calls Tryz.prog 47 #[.slice A6 s.f6.length c6, .agg #[.string r.f0, .string r.f1, .string r.f2, .string r.f3, .int .i64 r.f4, .int .i64 r.f5]] w8 fun e w' => e = .returned (.bool (heldP d s.f6 r)) ∧ Below w8.heap.size w8 w' from Held_any d s.f6 r A6 c6 w8 HA.out.holds HS8.out.g6)
        generalize heldP d s.f6 r = hq at *
        go_wp2_with fail
        refine HHE.out.mono ?_
        rintro e w9 ⟨rfl, hb⟩
        have HB9 := Lib.hid (below_tr HB8.out hb)
        have HY9 := Lib.hid ((hb.block W.heap.size (blk_lt HY8.out)).trans HY8.out)
        have HR9 := Lib.hid ((hb.block (W.heap.size + 1) (blk_lt HR8.out)).trans HR8.out)
        have HD9 := Lib.hid ((hb.block (W.heap.size + 1 + 1) (blk_lt HD8.out)).trans HD8.out)
        have HS9 := Lib.hid (HS8.out.below hb)
        clear hb q6 x0 x1 x2 x3 x4 x5
        cases hq
        · rw [if_neg (by decide)] at HLX
          have d0 : w9.cell? ⟨(W.heap.size + 1 + 1), 0, none⟩ = some (.int .i64 0) := (blk_cell HD9.out 0).trans rfl
          have z0 : w9.frozen? ⟨(W.heap.size + 1 + 1), 0, none⟩ = false := blk_frozen HD9.out 0
          have d1 : w9.cell? ⟨(W.heap.size + 1 + 1), 1, none⟩ = some (.string ⟨#[]⟩) := (blk_cell HD9.out 1).trans rfl
          have z1 : w9.frozen? ⟨(W.heap.size + 1 + 1), 1, none⟩ = false := blk_frozen HD9.out 1
          go_wp2
          refine bodyPost_ret (results_ct rfl _ _ (W.heap.size + 1 + 1) 50 #[.int .i64 t, .string (tt ++ (⟨#[32]⟩ : ByteArray) ++ ws ++ (⟨#[32]⟩ : ByteArray) ++ r.f0)] (0, 0) _ rfl (date_put _ _ HD9.out) Tryz.underlying50 rfl (by kernel_rfl)) rfl ?_
          rw [HDS.out, HLX.out]
          exact ⟨rfl, below_set2 HB9.out HSZ.out⟩
        · rw [if_pos rfl] at HLX
          have d0 : w9.cell? ⟨(W.heap.size + 1 + 1), 0, none⟩ = some (.int .i64 0) := (blk_cell HD9.out 0).trans rfl
          have z0 : w9.frozen? ⟨(W.heap.size + 1 + 1), 0, none⟩ = false := blk_frozen HD9.out 0
          have d1 : w9.cell? ⟨(W.heap.size + 1 + 1), 1, none⟩ = some (.string ⟨#[]⟩) := (blk_cell HD9.out 1).trans rfl
          have z1 : w9.frozen? ⟨(W.heap.size + 1 + 1), 1, none⟩ = false := blk_frozen HD9.out 1
          go_wp2
          refine bodyPost_ret (results_ct rfl _ _ (W.heap.size + 1 + 1) 50 #[.int .i64 t, .string (tt ++ (⟨#[32]⟩ : ByteArray) ++ ws ++ (⟨#[32]⟩ : ByteArray) ++ r.f0 ++ (⟨#[32, 104, 101, 108, 100]⟩ : ByteArray))] (0, 0) _ rfl (date_put _ _ HD9.out) Tryz.underlying50 rfl (by kernel_rfl)) rfl ?_
          rw [HDS.out, HLX.out]
          exact ⟨rfl, below_set2 HB9.out HSZ.out⟩
    · have hixd : decide (ix (nm59 r.f1) s.f3 0 ≥ 0) = false := decide_eq_false hix
      obtain rfl : D = none := by rw [HDT.out, if_neg (fun h => hix h.2)]
      rw [hixd]
      clear hix
      have d0 : w4.cell? ⟨(W.heap.size + 1 + 1), 0, none⟩ = some (.int .i64 0) := (blk_cell HD4.out 0).trans rfl
      have z0 : w4.frozen? ⟨(W.heap.size + 1 + 1), 0, none⟩ = false := blk_frozen HD4.out 0
      have d1 : w4.cell? ⟨(W.heap.size + 1 + 1), 1, none⟩ = some (.string ⟨#[]⟩) := (blk_cell HD4.out 1).trans rfl
      have z1 : w4.frozen? ⟨(W.heap.size + 1 + 1), 1, none⟩ = false := blk_frozen HD4.out 1
      go_wp2
      refine bodyPost_ret (results_ct rfl _ _ (W.heap.size + 1 + 1) 50 #[.int .i64 0, .string ⟨#[]⟩] (0, 0) _ rfl (date_put _ _ HD4.out) Tryz.underlying50 rfl (by kernel_rfl)) rfl ?_
      exact ⟨rfl, below_set2 HB4.out HSZ.out⟩

  · have h5b : (r.f5 != 1) = true := by simp [h5]
    obtain rfl : D = none := by rw [HDT.out, if_neg (fun h => h5 h.1)]
    clear h5
    have d0 : w4.cell? ⟨(W.heap.size + 1 + 1), 0, none⟩ = some (.int .i64 0) := (blk_cell HD4.out 0).trans rfl
    have z0 : w4.frozen? ⟨(W.heap.size + 1 + 1), 0, none⟩ = false := blk_frozen HD4.out 0
    have d1 : w4.cell? ⟨(W.heap.size + 1 + 1), 1, none⟩ = some (.string ⟨#[]⟩) := (blk_cell HD4.out 1).trans rfl
    have z1 : w4.frozen? ⟨(W.heap.size + 1 + 1), 1, none⟩ = false := blk_frozen HD4.out 1
    go_wp2
    refine bodyPost_ret (results_ct rfl _ _ (W.heap.size + 1 + 1) 50 #[.int .i64 0, .string ⟨#[]⟩] (0, 0) _ rfl (date_put _ _ HD4.out) Tryz.underlying50 rfl (by kernel_rfl)) rfl ?_
    exact ⟨rfl, below_set2 HB4.out HSZ.out⟩

end Go.Proofs.YtafigkikblpbnaaGreatDoor.PG
namespace Go.Proofs.YtafigkikblpbnaaGreatDoor.PG
open Go.RowKit Go.Proofs.YtafigkikblpbnaaGreatDoorW.PrintWords Go.Proofs.YtafigkikblpbnaaGreatDoorW.PrintLast Go.Proofs.YtafigkikblpbnaaGreatDoorW.PrintMore
set_option linter.unusedVariables false
set_option linter.unusedSimpArgs false
set_option maxRecDepth 100000
theorem tab10_6 : rtab .any (opsOf Tryz.f10 6) = (true, [([], []), ([], []), ([0, 1], [0, 1]), ([2], [2]), ([], []), ([], []), ([4, 5], [4, 5]), ([6], [6]), ([3, 7], [3, 7])]) := by kernel_rfl

/-- Two lists that are the same: it answers true. -/
theorem SameNames_eq (xs : List ByteArray) (A B : Option Addr) (ca cb : Nat) (W : World) (hA : Kd.C Kd.string W A xs.length xs) (hB : Kd.C Kd.string W B xs.length xs) :
    Calls Tryz.prog 10 #[.slice A xs.length ca, .slice B xs.length cb] W fun e w' => e = .returned (.bool true) ∧ Below W.heap.size W w' := by
  have HA := Lib.hid hA
  have HB := Lib.hid hB
  have hm : xs.length ≤ 9223372036854775807 := hA.2.1
  clear hA hB
  go_enter Tryz.func10, Tryz.ntmps10
  go_wp2
  go_loopw [5] (fun v5 wr => ∃ k : Nat, v5 = .int .i64 k ∧ k ≤ xs.length ∧ Aside0 (Below W.heap.size W wr)) (fun v5 _ => xs.length - (intOf v5).toNat)
  case atStart => exact ⟨0, rfl, Nat.zero_le _, ⟨Below.refl _ _⟩⟩
  case round =>
    obtain ⟨k, rfl, hk, HW⟩ := hrel
    by_cases hlt : k < xs.length
    · have hlt2 : (k : Int) < (xs.length : Int) := by omega
      obtain ⟨ada, e, g0⟩ := Kd.at_string (Kd.C_below HA.out HW.out) (k : Int) (by omega) (by omega)
      obtain ⟨adb, e2, h0⟩ := Kd.at_string (Kd.C_below HB.out HW.out) (k : Int) (by omega) (by omega)
      subst e
      subst e2
      simp only [Int.toNat_natCast] at g0 h0
      generalize rdOf ByteArray.empty xs (k : Int) = y at *
      go_wp2_with fail
      refine WL.start (n := 9) (S := fun w' => w'.cell? (ada.add k) = some (.string y) ∧ w'.cell? (adb.add k) = some (.string y)) (ds := []) [false, false, false, false, false, false, false, false, false] (by kernel_rfl) rfl rfl ⟨g0, h0⟩ (fun hHeld => ?_)
      refine WL.tab tab10_6 (fun HT_ => ?_)
      refine WL.more [0, 1, 2, 4, 5, 6, 3, 7, 8] ?_
      repeat (first
        | (refine WL.off (lb' := ?_) (ys := ?_) rfl rfl (by rfl) ?_ HT_.out ?_ (fun _ _ _ h => h) ?_ ?_; rotate_left 2; (focus dsimp only [List.set_cons_zero, List.set_cons_succ]; rfl); (focus kernel_rfl); (focus dsimp only [List.set_cons_zero, List.set_cons_succ]; rfl))
        | (refine WL.pure (lb' := ?_) (v := ?_) (ys := ?_) rfl rfl (by rfl) ?_ HT_.out ?_ (fun _ _ _ h => h) ?_ ?_ ?_; rotate_left 3; (focus dsimp only [List.set_cons_zero, List.set_cons_succ]; rfl); (focus kernel_rfl); (focus intro w'; go_simp; with_reducible rfl); (focus dsimp only [List.set_cons_zero, List.set_cons_succ]; rfl))
        | (refine WL.take (lb' := ?_) (v := ?_) (ys := ?_) rfl rfl (by rfl) ?_ HT_.out ?_ (fun _ _ _ h => h) hHeld ?_ ?_ ?_; rotate_left 3; (focus dsimp only [List.set_cons_zero, List.set_cons_succ]; rfl); (focus kernel_rfl); (focus rintro w' ⟨s0, s1⟩; go_simp; with_reducible rfl); (focus dsimp only [List.set_cons_zero, List.set_cons_succ]; rfl)))
      refine WL.done HT_.out (by kernel_rfl) ?_
      clear hHeld g0 h0
      go_wp2
      go_roundw
      case rel => exact ⟨k + 1, by go_num, by omega, ⟨below_drew HW.out⟩⟩
      case measure => simp [intOf]; omega
    · have hk2 : k = xs.length := by omega
      subst hk2
      have hq : ¬ (xs.length : Int) < (xs.length : Int) := by omega
      go_wp2
      go_ret
      exact ⟨rfl, HW.out⟩
end Go.Proofs.YtafigkikblpbnaaGreatDoor.PG
namespace Go.Proofs.YtafigkikblpbnaaGreatDoor.PG
open Go.RowKit Go.Proofs.YtafigkikblpbnaaGreatDoorW.PrintWords Go.Proofs.YtafigkikblpbnaaGreatDoorW.PrintLast Go.Proofs.YtafigkikblpbnaaGreatDoorW.PrintMore
set_option linter.unusedVariables false
set_option linter.unusedSimpArgs false
set_option maxRecDepth 100000
/-- A record that a hold is good for; one that no other hold is good for. -/
def gd (d : Nat) (x : S78) (r : S48) : Bool := decide (r.f5 ≤ 2) && mt d x.f1 r
/-- It answers a list of names. -/
def RNm (l : List ByteArray) (W : World) (e : Ending) (w' : World) : Prop := ∃ (A : Option Addr) (c : Nat), e = .returned (.slice A l.length c) ∧ l.length ≤ c ∧ Kd.C Kd.string w' A l.length l ∧ Below W.heap.size W w'

end Go.Proofs.YtafigkikblpbnaaGreatDoor.PG
namespace Go.Proofs.YtafigkikblpbnaaGreatDoor.PG
open Go.RowKit Go.Proofs.YtafigkikblpbnaaGreatDoorW.PrintWords Go.Proofs.YtafigkikblpbnaaGreatDoorW.PrintLast Go.Proofs.YtafigkikblpbnaaGreatDoorW.PrintMore
set_option linter.unusedVariables false
set_option linter.unusedSimpArgs false
set_option maxRecDepth 100000

set_option maxHeartbeats 8000000 in
/-- report.Lines. -/
theorem LinesP_any (s : S31) (A2 A3 A4 A5 A6 A7 A8 : Option Addr) (c2 c3 c4 c5 c6 c7 c8 : Nat) (W : World) (hs : Rs W s A2 A3 A4 A5 A6 A7 A8 c2 c3 c4 c5 c6 c7 c8) (hst : ∀ k : Nat, k < s.f5.length → 1 ≤ (rd_T48 s.f5 (k : Int)).f5 ∧ (rd_T48 s.f5 (k : Int)).f5 ≤ 4) (hz : ∀ r ∈ s.f5, r.f3.size ≤ 140737488351232) (h5 : s.f5.length ≤ 24) :
    Calls Tryz.prog 12 #[.agg #[.int .i64 s.f0, .int .u64 s.f1, .slice A2 s.f2.length c2, .slice A3 s.f3.length c3, .slice A4 s.f4.length c4, .slice A5 s.f5.length c5, .slice A6 s.f6.length c6, .slice A7 s.f7.length c7, .slice A8 s.f8.length c8, .int .i64 s.f9]] W (RNm (lnL s) W) := by
  have HB1 := Lib.hid (show Below W.heap.size W (W.alloc (.cells #[.int .i64 s.f0, .int .u64 s.f1, .slice A2 s.f2.length c2, .slice A3 s.f3.length c3, .slice A4 s.f4.length c4, .slice A5 s.f5.length c5, .slice A6 s.f6.length c6, .slice A7 s.f7.length c7, .slice A8 s.f8.length c8, .int .i64 s.f9] 31 (0, 0))) from below_alloc (Below.refl _ _) _)
  have HY1 := Lib.hid (new_blk W (.cells #[.int .i64 s.f0, .int .u64 s.f1, .slice A2 s.f2.length c2, .slice A3 s.f3.length c3, .slice A4 s.f4.length c4, .slice A5 s.f5.length c5, .slice A6 s.f6.length c6, .slice A7 s.f7.length c7, .slice A8 s.f8.length c8, .int .i64 s.f9] 31 (0, 0)))
  have HS1 := Lib.hid (hs.below HB1.out)
  have z1 : (W.alloc (.cells #[.int .i64 s.f0, .int .u64 s.f1, .slice A2 s.f2.length c2, .slice A3 s.f3.length c3, .slice A4 s.f4.length c4, .slice A5 s.f5.length c5, .slice A6 s.f6.length c6, .slice A7 s.f7.length c7, .slice A8 s.f8.length c8, .int .i64 s.f9] 31 (0, 0))).heap.size = W.heap.size + 1 := by show (W.heap.push _).size = _; rw [Array.size_push]
  have z2 : ((W.alloc (.cells #[.int .i64 s.f0, .int .u64 s.f1, .slice A2 s.f2.length c2, .slice A3 s.f3.length c3, .slice A4 s.f4.length c4, .slice A5 s.f5.length c5, .slice A6 s.f6.length c6, .slice A7 s.f7.length c7, .slice A8 s.f8.length c8, .int .i64 s.f9] 31 (0, 0))).alloc (.cells #[.int .i64 0, .int .i64 0, .int .i64 0, .int .i64 0] 65 (0, 0))).heap.size = W.heap.size + 2 := by show ((W.alloc (.cells #[.int .i64 s.f0, .int .u64 s.f1, .slice A2 s.f2.length c2, .slice A3 s.f3.length c3, .slice A4 s.f4.length c4, .slice A5 s.f5.length c5, .slice A6 s.f6.length c6, .slice A7 s.f7.length c7, .slice A8 s.f8.length c8, .int .i64 s.f9] 31 (0, 0))).heap.push _).size = _; rw [Array.size_push, z1]
  have z3 : (((W.alloc (.cells #[.int .i64 s.f0, .int .u64 s.f1, .slice A2 s.f2.length c2, .slice A3 s.f3.length c3, .slice A4 s.f4.length c4, .slice A5 s.f5.length c5, .slice A6 s.f6.length c6, .slice A7 s.f7.length c7, .slice A8 s.f8.length c8, .int .i64 s.f9] 31 (0, 0))).alloc (.cells #[.int .i64 0, .int .i64 0, .int .i64 0, .int .i64 0] 65 (0, 0))).alloc (.map #[] 0)).heap.size = W.heap.size + 3 := by show (((W.alloc (.cells #[.int .i64 s.f0, .int .u64 s.f1, .slice A2 s.f2.length c2, .slice A3 s.f3.length c3, .slice A4 s.f4.length c4, .slice A5 s.f5.length c5, .slice A6 s.f6.length c6, .slice A7 s.f7.length c7, .slice A8 s.f8.length c8, .int .i64 s.f9] 31 (0, 0))).alloc (.cells #[.int .i64 0, .int .i64 0, .int .i64 0, .int .i64 0] 65 (0, 0))).heap.push _).size = _; rw [Array.size_push, z2]
  have g2 : ((W.alloc (.cells #[.int .i64 s.f0, .int .u64 s.f1, .slice A2 s.f2.length c2, .slice A3 s.f3.length c3, .slice A4 s.f4.length c4, .slice A5 s.f5.length c5, .slice A6 s.f6.length c6, .slice A7 s.f7.length c7, .slice A8 s.f8.length c8, .int .i64 s.f9] 31 (0, 0))).alloc (.cells #[.int .i64 0, .int .i64 0, .int .i64 0, .int .i64 0] 65 (0, 0))).heap[W.heap.size + 1]? = some (.cells #[.int .i64 0, .int .i64 0, .int .i64 0, .int .i64 0] 65 (0, 0)) := by have h_ := new_blk (W.alloc (.cells #[.int .i64 s.f0, .int .u64 s.f1, .slice A2 s.f2.length c2, .slice A3 s.f3.length c3, .slice A4 s.f4.length c4, .slice A5 s.f5.length c5, .slice A6 s.f6.length c6, .slice A7 s.f7.length c7, .slice A8 s.f8.length c8, .int .i64 s.f9] 31 (0, 0))) (.cells #[.int .i64 0, .int .i64 0, .int .i64 0, .int .i64 0] 65 (0, 0)); rw [z1] at h_; exact h_
  obtain ⟨W3, hW3⟩ : ∃ W3, (((W.alloc (.cells #[.int .i64 s.f0, .int .u64 s.f1, .slice A2 s.f2.length c2, .slice A3 s.f3.length c3, .slice A4 s.f4.length c4, .slice A5 s.f5.length c5, .slice A6 s.f6.length c6, .slice A7 s.f7.length c7, .slice A8 s.f8.length c8, .int .i64 s.f9] 31 (0, 0))).alloc (.cells #[.int .i64 0, .int .i64 0, .int .i64 0, .int .i64 0] 65 (0, 0))).alloc (.map #[] 0)) = W3 := ⟨_, rfl⟩
  have HB3 := Lib.hid (show Below (W.heap.size + 1) (W.alloc (.cells #[.int .i64 s.f0, .int .u64 s.f1, .slice A2 s.f2.length c2, .slice A3 s.f3.length c3, .slice A4 s.f4.length c4, .slice A5 s.f5.length c5, .slice A6 s.f6.length c6, .slice A7 s.f7.length c7, .slice A8 s.f8.length c8, .int .i64 s.f9] 31 (0, 0))) W3 by rw [← hW3, ← z1]; exact below_alloc (below_alloc (Below.refl _ _) _) _)
  have HG3 := Lib.hid (show W3.heap[(W.heap.size + 1)]? = some (tal (stN (cls true ⟨#[]⟩) (s.f5.take 0))) by rw [← hW3]; exact blk_alloc g2 _)
  have HM3 := Lib.hid (show HasP W3 (W.heap.size + 1 + 1) 0 (fun _ => none) by have h_ := HasP.made ((W.alloc (.cells #[.int .i64 s.f0, .int .u64 s.f1, .slice A2 s.f2.length c2, .slice A3 s.f3.length c3, .slice A4 s.f4.length c4, .slice A5 s.f5.length c5, .slice A6 s.f6.length c6, .slice A7 s.f7.length c7, .slice A8 s.f8.length c8, .int .i64 s.f9] 31 (0, 0))).alloc (.cells #[.int .i64 0, .int .i64 0, .int .i64 0, .int .i64 0] 65 (0, 0))); rw [z2, hW3] at h_; exact h_)
  have HY3 := Lib.hid (show W3.heap[W.heap.size]? = some (.cells #[.int .i64 s.f0, .int .u64 s.f1, .slice A2 s.f2.length c2, .slice A3 s.f3.length c3, .slice A4 s.f4.length c4, .slice A5 s.f5.length c5, .slice A6 s.f6.length c6, .slice A7 s.f7.length c7, .slice A8 s.f8.length c8, .int .i64 s.f9] 31 (0, 0)) by rw [← hW3]; exact blk_alloc (blk_alloc HY1.out _) _)
  have HSZ3 := Lib.hid (show W3.heap.size = W.heap.size + 3 by rw [← hW3]; exact z3)
  have HW3 := Lib.hid hW3
  have HST := Lib.hid hst
  have HZ1 := Lib.hid z1
  have HZ := Lib.hid hz
  have h52 : (s.f5.length : Int) ≤ 24 := by omega
  have hmm := @run_makeMap Tryz.prog
  have q5 : (((W.alloc (.cells #[.int .i64 s.f0, .int .u64 s.f1, .slice A2 s.f2.length c2, .slice A3 s.f3.length c3, .slice A4 s.f4.length c4, .slice A5 s.f5.length c5, .slice A6 s.f6.length c6, .slice A7 s.f7.length c7, .slice A8 s.f8.length c8, .int .i64 s.f9] 31 (0, 0))).alloc (.cells #[.int .i64 0, .int .i64 0, .int .i64 0, .int .i64 0] 65 (0, 0))).alloc (.map #[] 0)).cell? ⟨W.heap.size, 5, none⟩ = some (.slice A5 s.f5.length c5) := by rw [hW3]; exact (blk_cell HY3.out 5).trans rfl
  clear hs hst hz z1 z2 z3 g2 hW3
  go_enter Tryz.func12, Tryz.ntmps12
  go_wp2
  rw [HW3.out]
  clear HW3 q5 hmm
  generalize (W.alloc (.cells #[.int .i64 s.f0, .int .u64 s.f1, .slice A2 s.f2.length c2, .slice A3 s.f3.length c3, .slice A4 s.f4.length c4, .slice A5 s.f5.length c5, .slice A6 s.f6.length c6, .slice A7 s.f7.length c7, .slice A8 s.f8.length c8, .int .i64 s.f9] 31 (0, 0))) = W1_ at *
  have HR0 := Lib.hid (show LRel s W1_ (W.heap.size + 1) 0 (fun _ => none) (.slice none 0 0) W3 from ⟨Kd.R_nil _ _ _ _ _, HM3.out, TL.none_ _ _ _, HG3.out, HB3.out, by rw [HSZ3.out]; omega⟩)
  clear HM3 HG3 HSZ3 HY3
  go_loopw [5, 15] (fun v5 v15 wr => ∃ (k : Nat) (T : ByteArray → Option Nat), v15 = .int .i64 k ∧ k ≤ s.f5.length ∧ Aside0 (LRel s W1_ (W.heap.size + 1) k T v5 wr)) (fun _ v15 _ => s.f5.length - (intOf v15).toNat)
  case atStart => exact ⟨0, fun _ => none, rfl, Nat.zero_le _, ⟨HR0.out⟩⟩
  case round =>
    obtain ⟨k, T, rfl, hk, HR⟩ := hrel
    have HYR := Lib.hid ((HR.out.below.block W.heap.size (by omega)).trans HY1.out)
    have HSR := Lib.hid (HS1.out.below (show Below W1_.heap.size W1_ wr by rw [HZ1.out]; exact HR.out.below))
    by_cases hlt : k < s.f5.length
    · have hlt2 : (k : Int) < (s.f5.length : Int) := by omega
      obtain ⟨ad, e, h0, h1, h2, h3, h4, h5_⟩ := at_T48 HSR.out.g5 (k : Int) (by omega) (by omega)
      simp only [Int.toNat_natCast] at h0 h1 h2 h3 h4 h5_
      have hzz := (HZ.out _ (rd_mem48 hlt))
      have hss := HST.out k hlt
      obtain ⟨y, hy⟩ : ∃ y, rd_T48 s.f5 (k : Int) = y := ⟨_, rfl⟩
      rw [hy] at h0 h1 h2 h3 h4 h5_ hzz hss
      obtain ⟨r0, r1, r2, r3, r4, r5⟩ := y
      dsimp only at h0 h1 h2 h3 h4 h5_ hzz hss
      have HRD3 := Lib.hid (show (rd_T48 s.f5 (k : Int)).f3 = r3 by rw [hy])
      have HRD5 := Lib.hid (show (rd_T48 s.f5 (k : Int)).f5 = r5 by rw [hy])
      have HZY := Lib.hid (show r3.size ≤ maxLen by show r3.size ≤ 9223372036854775807; omega)
      have HSS := Lib.hid hss
      have HNL := Lib.hid (Nat.le_trans (nms_len s k) hk)
      have HN1 := Lib.hid (fun j => stN_le2 (cls true ⟨#[]⟩) (s.f5.take k) j 1000 (by rw [List.length_take]; omega))
      have HN2 := Lib.hid (fun j => stN_le2 (cls false r3) (s.f5.take k) j 1000 (by rw [List.length_take]; omega))
      subst e
      clear hy hzz hss
      obtain ⟨w3, hw3⟩ : ∃ w3, wr.alloc (.cells #[.string r0, .string r1, .string r2, .string r3, .int .i64 r4, .int .i64 r5] 48 (0, 0)) = w3 := ⟨_, rfl⟩
      have HB3_ := Lib.hid (show Below wr.heap.size wr w3 by rw [← hw3]; exact below_alloc (Below.refl _ _) _)
      have HX3 := Lib.hid (show w3.heap[wr.heap.size]? = some (.cells #[.string r0, .string r1, .string r2, .string r3, .int .i64 r4, .int .i64 r5] 48 (0, 0)) by rw [← hw3]; exact new_blk wr _)
      have HSZ3_ := Lib.hid (show w3.heap.size = wr.heap.size + 1 by rw [← hw3]; show (wr.heap.push _).size = _; rw [Array.size_push])
      have HPX := Lib.hid (HR.out.map.kept (grown_of_below HB3_.out none) (by simp))
      have y3 : (wr.alloc (.cells #[.string r0, .string r1, .string r2, .string r3, .int .i64 r4, .int .i64 r5] 48 (0, 0))).cell? ⟨wr.heap.size, 3, none⟩ = some (.string r3) := by rw [hw3]; exact (blk_cell HX3.out 3).trans rfl
      have hlk := HPX.out.lookup r3 HZY.out
      rw [← hw3] at hlk
      have HW3_ := Lib.hid hw3
      clear hw3
      rcases hT : T r3 with _ | g
      · have HTX := Lib.hid hT
        rw [hT] at hlk
        clear hT
        unfold ptrV at hlk
        obtain ⟨w4, hw4⟩ : ∃ w4, w3.alloc (.cells #[.int .i64 0, .int .i64 0, .int .i64 0, .int .i64 0] 65 (0, 0)) = w4 := ⟨_, rfl⟩
        have HB4_ := Lib.hid (show Below wr.heap.size wr w4 by rw [← hw4]; exact below_alloc HB3_.out _)
        have HX4 := Lib.hid (show w4.heap[wr.heap.size]? = some (.cells #[.string r0, .string r1, .string r2, .string r3, .int .i64 r4, .int .i64 r5] 48 (0, 0)) by rw [← hw4]; exact blk_alloc HX3.out _)
        have HT4 := Lib.hid (show w4.heap[wr.heap.size + 1]? = some (tal (fun _ => 0)) by rw [← hw4, ← HSZ3_.out]; exact new_blk w3 _)
        have HP4 := Lib.hid (HR.out.map.kept (grown_of_below HB4_.out none) (by simp))
        obtain ⟨w5, hup, hp5, hg5⟩ := HP4.out.put (by have := HNL.out; show (nms s k).length < 9223372036854775807; omega) r3 HZY.out (wr.heap.size + 1)
        rw [← hw4, ← HW3_.out] at hup
        have HP5 := Lib.hid hp5
        have HG5 := Lib.hid hg5
        have HMID := Lib.hid (HR.out.mid HB4_.out hg5)
        have yb : w5.heap[wr.heap.size]? = some (.cells #[.string r0, .string r1, .string r2, .string r3, .int .i64 r4, .int .i64 r5] 48 (0, 0)) := (hg5.block _ (blk_lt HX4.out) (by have := HR.out.size; simp; omega)).trans HX4.out
        have y5 : w5.cell? ⟨wr.heap.size, 3, none⟩ = some (.string r3) := (blk_cell yb 3).trans rfl
        clear hw4 hp5 hg5 yb
        go_wp2_with ((with_reducible refine gate_builtin (b := .append) (xs := #[.tmp 29, .tmp 32]) rfl ?_); at_builtin; refine Kd.R_append Kd.string (w0 := W1_) (W.heap.size + 1) rfl (.tmp 29) (.tmp 32) 34 9 (.string ⟨#[]⟩) 16 rfl Tryz.underlying34 info9 rfl (by decide) (by omega) u5 (nms s k) r3 [.string r3] (fun k_ => W.heap.size + 1 + 2 ≤ k_) (fun _ => False) rfl rfl rfl (fun _ hk => hk.elim) (fun b_ hb_ => by have := HMID.out.2.2; omega) HMID.out.1 HMID.out.2.1 (by have := HMID.out.2.2; omega) (by have := HNL.out; omega) ?_; intro v9 w6 ho hb hg hat; clear hat; have HG6 := Lib.hid hg; have HO6 := Lib.hid ho; have HB6 := Lib.hid hb; have HX6 := Lib.hid (HR.out.kept HB4_.out.size HG5.out hg (Nat.le_refl _) HX4.out); have HT6 := Lib.hid (HR.out.kept HB4_.out.size HG5.out hg (Nat.le_succ _) HT4.out); have HP6 := Lib.hid (HP5.out.kept hg (fun e_ => by have := HR.out.names.1 _ e_.symm; omega)); have hlk6 : (Instr.lookup 66 (.map (some (W.heap.size + 1 + 1))) (.string r3) false).run Tryz.prog w6 = .ok (.pointer (some ⟨wr.heap.size + 1, 0, none⟩)) w6 := (HP6.out.lookup r3 HZY.out).trans (by simp [ptrV]); have x0 : w6.cell? ⟨wr.heap.size, 0, none⟩ = some (.string r0) := (blk_cell HX6.out 0).trans rfl; have x1 : w6.cell? ⟨wr.heap.size, 1, none⟩ = some (.string r1) := (blk_cell HX6.out 1).trans rfl; have x2 : w6.cell? ⟨wr.heap.size, 2, none⟩ = some (.string r2) := (blk_cell HX6.out 2).trans rfl; have x3 : w6.cell? ⟨wr.heap.size, 3, none⟩ = some (.string r3) := (blk_cell HX6.out 3).trans rfl; have x4 : w6.cell? ⟨wr.heap.size, 4, none⟩ = some (.int .i64 r4) := (blk_cell HX6.out 4).trans rfl; have x5 : w6.cell? ⟨wr.heap.size, 5, none⟩ = some (.int .i64 r5) := (blk_cell HX6.out 5).trans rfl; clear ho hb hg)
        refine (add_eq (wr.heap.size + 1) (fun _ => 0) (fun _ => Nat.zero_le _) ⟨r0, r1, r2, r3, r4, r5⟩ HSS.out w6 HT6.out).mono ?_
        rintro e w7 ⟨rfl, hn, hgr⟩
        have HN7 := Lib.hid hn
        have HGR7 := Lib.hid hgr
        have HXB := Lib.hid ((hgr.block wr.heap.size (blk_lt HX6.out) (by simp)).trans HX6.out)
        have HG0 := Lib.hid (show w7.heap[(W.heap.size + 1)]? = some (tal (stN (cls true ⟨#[]⟩) (s.f5.take k))) by
          have hbl := blk_lt HR.out.all
          have hs4 := HB4_.out.size
          have hs5 := HG5.out.size
          have hs6 := HG6.out.size
          rw [hgr.block _ (by omega) (by have := HR.out.size; simp; omega), HG6.out.block _ (by omega) (fun e_ => by have := HR.out.names.1 _ e_.symm; omega), HG5.out.block _ (by omega) (by simp), HB4_.out.block _ hbl]
          exact HR.out.all)
        clear hn hgr hlk y3 h0 h1 h2 h3 h4 h5_ x0 x1 x2 x3 x4 x5 hlk6 hup y5
        have x0 : (w7).cell? ⟨wr.heap.size, 0, none⟩ = some (.string r0) := (blk_cell HXB.out 0).trans rfl
        have x1 : (w7).cell? ⟨wr.heap.size, 1, none⟩ = some (.string r1) := (blk_cell HXB.out 1).trans rfl
        have x2 : (w7).cell? ⟨wr.heap.size, 2, none⟩ = some (.string r2) := (blk_cell HXB.out 2).trans rfl
        have x3 : (w7).cell? ⟨wr.heap.size, 3, none⟩ = some (.string r3) := (blk_cell HXB.out 3).trans rfl
        have x4 : (w7).cell? ⟨wr.heap.size, 4, none⟩ = some (.int .i64 r4) := (blk_cell HXB.out 4).trans rfl
        have x5 : (w7).cell? ⟨wr.heap.size, 5, none⟩ = some (.int .i64 r5) := (blk_cell HXB.out 5).trans rfl
        go_wp2_with fail
        refine (add_eq (W.heap.size + 1) (stN (cls true ⟨#[]⟩) (s.f5.take k)) HN1.out ⟨r0, r1, r2, r3, r4, r5⟩ HSS.out w7 HG0.out).mono ?_
        rintro e w8 ⟨rfl, hn, hgr⟩
        have HFIN := Lib.hid (HR.out.new hlt HRD3.out HRD5.out HTX.out HB4_.out (Nat.le_succ _) (blk_lt HT4.out) HG5.out HP5.out HG6.out HB6.out HO6.out HT6.out HGR7.out HN7.out hgr hn)
        clear hn hgr x0 x1 x2 x3 x4 x5
        go_wp2
        go_roundw
        case rel => exact ⟨k + 1, _, by go_num, by omega, ⟨HFIN.out⟩⟩
        case measure => simp [intOf]; omega
      · have HTX := Lib.hid hT
        rw [hT] at hlk
        clear hT
        unfold ptrV at hlk
        have HTS := Lib.hid (HR.out.tl.some_ HTX.out)
        have HG3_ := Lib.hid ((HB3_.out.block g (blk_lt HTS.out.2.2)).trans HTS.out.2.2)
        go_wp2_with fail
        rw [HW3_.out]
        refine (add_eq g (stN (cls false r3) (s.f5.take k)) HN2.out ⟨r0, r1, r2, r3, r4, r5⟩ HSS.out w3 HG3_.out).mono ?_
        rintro e w4 ⟨rfl, hn, hgr⟩
        have HN4 := Lib.hid hn
        have HGR4 := Lib.hid hgr
        have HXB := Lib.hid ((hgr.block wr.heap.size (blk_lt HX3.out) (by have := blk_lt HTS.out.2.2; simp; omega)).trans HX3.out)
        have HG0 := Lib.hid (show w4.heap[(W.heap.size + 1)]? = some (tal (stN (cls true ⟨#[]⟩) (s.f5.take k))) by
          have hbl := blk_lt HR.out.all
          rw [hgr.block _ (by have := HSZ3_.out; omega) (by have := HTS.out.2.1; simp; omega), HB3_.out.block _ hbl]
          exact HR.out.all)
        clear hn hgr hlk y3 h0 h1 h2 h3 h4 h5_
        have x0 : (w4).cell? ⟨wr.heap.size, 0, none⟩ = some (.string r0) := (blk_cell HXB.out 0).trans rfl
        have x1 : (w4).cell? ⟨wr.heap.size, 1, none⟩ = some (.string r1) := (blk_cell HXB.out 1).trans rfl
        have x2 : (w4).cell? ⟨wr.heap.size, 2, none⟩ = some (.string r2) := (blk_cell HXB.out 2).trans rfl
        have x3 : (w4).cell? ⟨wr.heap.size, 3, none⟩ = some (.string r3) := (blk_cell HXB.out 3).trans rfl
        have x4 : (w4).cell? ⟨wr.heap.size, 4, none⟩ = some (.int .i64 r4) := (blk_cell HXB.out 4).trans rfl
        have x5 : (w4).cell? ⟨wr.heap.size, 5, none⟩ = some (.int .i64 r5) := (blk_cell HXB.out 5).trans rfl
        go_wp2_with fail
        refine (add_eq (W.heap.size + 1) (stN (cls true ⟨#[]⟩) (s.f5.take k)) HN1.out ⟨r0, r1, r2, r3, r4, r5⟩ HSS.out w4 HG0.out).mono ?_
        rintro e w5 ⟨rfl, hn, hgr⟩
        have HFIN := Lib.hid (HR.out.old hlt HRD3.out HRD5.out HTX.out HB3_.out HGR4.out HN4.out hgr hn)
        clear hn hgr x0 x1 x2 x3 x4 x5
        go_wp2
        go_roundw
        case rel => exact ⟨k + 1, T, by go_num, by omega, ⟨HFIN.out⟩⟩
        case measure => simp [intOf]; omega
    · have hk2 : k = s.f5.length := by omega
      subst hk2
      have HLN := Lib.hid (nms_len s s.f5.length)
      have HSO := Lib.hid (sort_any HR.out.names (by have := HLN.out; omega))
      go_wp2_with fail
      refine HSO.out.mono ?_
      rintro e wS ⟨rfl, hso, hsg⟩
      have HOWN := Lib.hid HR.out.names.1
      have HPS := Lib.hid (HR.out.map.kept hsg (fun e_ => by have := HOWN.out _ e_.symm; omega))
      have HTS := Lib.hid (HR.out.tl.move (w1 := wS) (fun g f hg hb => hsg.block g (blk_lt hb) (fun e_ => Kd.R_ne HR.out.names hb (by decide) e_)))
      have HAS := Lib.hid ((hsg.block (W.heap.size + 1) (blk_lt HR.out.all) (fun e_ => by have := HOWN.out _ e_.symm; omega)).trans HR.out.all)
      have HBS := Lib.hid (show Below W.heap.size W wS from ⟨hsg.os.trans (HR.out.below.os.trans HB1.out.os), hsg.tape.trans (HR.out.below.tape.trans HB1.out.tape), hsg.output.trans (HR.out.below.output.trans HB1.out.output), by have := hsg.size; have := HR.out.below.size; have := HB1.out.size; omega, fun b hb => by
        rw [hsg.block b (by have := HR.out.size; omega) (fun e_ => by have := HOWN.out _ e_.symm; omega), HR.out.below.block b (by omega)]
        exact HB1.out.block b hb⟩)
      rw [List.take_length] at HAS
      obtain ⟨AM, cM, hv, hlM, hCM⟩ := Kd.R_reads hso
      have HMN := Lib.hid (show lnL s = (ordN (nms s s.f5.length)).map (lnC s) ++ [(⟨#[97, 108, 108, 32]⟩ : ByteArray) ++ tx4 (stN (cls true ⟨#[]⟩) s.f5)] from rfl)
      have HMM := Lib.hid (show ∀ c ∈ ordN (nms s s.f5.length), c.size ≤ 140737488351232 ∧ ∃ g, T c = some g ∧ wS.heap[g]? = some (tal (stN (cls false c) s.f5)) from fun c hc => by
        have hc2 := (ordN_perm _).mem_iff.1 hc
        obtain ⟨r, hr, e_⟩ := nms_mem s _ (Nat.le_refl _) c hc2
        obtain ⟨g, e1, _, e2⟩ := HTS.out.yes c hc2
        rw [List.take_length] at e2
        exact ⟨e_ ▸ HZ.out r hr, g, e1, e2⟩)
      have HML := Lib.hid (show (ordN (nms s s.f5.length)).length ≤ 24 by rw [ordN_len]; have := HLN.out; omega)
      have HCM := Lib.hid hCM
      have HTL1 := Lib.hid (fun j => stN_le2 (cls true ⟨#[]⟩) s.f5 j 99 (by omega))
      have HTL2 := Lib.hid (fun c j => stN_le2 (cls false c) s.f5 j 99 (by omega))
      generalize ordN (nms s s.f5.length) = M at *
      subst hv
      clear hso hsg hlM hCM HSO HTS HOWN
      have hml : (M.length : Int) ≤ 24 := by have := HML.out; omega
      generalize wr = wq at *
      go_wp2
      go_loopw [8, 47] (fun v8 v47 wr => ∃ j : Nat, v47 = .int .i64 j ∧ j ≤ M.length ∧ Aside0 (Kd.R Kd.string 9 wr wS.heap.size (fun _ => True) v8 ((M.take j).map (lnC s))) ∧ Aside0 (Below wS.heap.size wS wr)) (fun _ v47 _ => M.length - (intOf v47).toNat)
      case atStart => exact ⟨0, rfl, Nat.zero_le _, ⟨Kd.R_nil _ _ _ _ _⟩, ⟨Below.refl _ _⟩⟩
      case round =>
        obtain ⟨j, rfl, hj, HO, HBW⟩ := hrel
        by_cases hjt : j < M.length
        · have hjt2 : (j : Int) < (M.length : Int) := by omega
          obtain ⟨adm, e, hc0⟩ := Kd.at_string (Kd.C_below HCM.out HBW.out) (j : Int) (by omega) (by omega)
          subst e
          simp only [Int.toNat_natCast] at hc0
          have hcm : rdOf ByteArray.empty M (j : Int) = M[j] := by unfold rdOf; rw [Int.toNat_natCast, List.getD_eq_getElem?_getD, List.getElem?_eq_getElem hjt]; rfl
          have HTK := Lib.hid (show M.take (j + 1) = M.take j ++ [rdOf ByteArray.empty M (j : Int)] by rw [hcm, List.take_succ_eq_append_getElem hjt])
          obtain ⟨hzc, g, hTc, hgb⟩ := HMM.out (rdOf ByteArray.empty M (j : Int)) (by rw [hcm]; exact List.getElem_mem _)
          clear hcm
          generalize rdOf ByteArray.empty M (j : Int) = c at *
          have hlk := (HPS.out.kept (grown_of_below HBW.out none) (by simp)).lookup c (by show c.size ≤ 9223372036854775807; omega)
          rw [hTc] at hlk
          unfold ptrV at hlk
          have hgw := (HBW.out.block g (blk_lt hgb)).trans hgb
          have HTE := Lib.hid (show Calls Tryz.prog 30 #[.agg #[.int .i64 (stN (cls false c) s.f5 1 : Nat), .int .i64 (stN (cls false c) s.f5 2 : Nat), .int .i64 (stN (cls false c) s.f5 3 : Nat), .int .i64 (stN (cls false c) s.f5 4 : Nat)]] wr fun e w' => e = .returned (.string (tx4 (stN (cls false c) s.f5))) ∧ Below wr.heap.size wr w' from text_eq _ _ _ _ (by have := HTL2.out c 1; omega) (by have := HTL2.out c 2; omega) (by have := HTL2.out c 3; omega) (by have := HTL2.out c 4; omega) wr)
          have HLC := Lib.hid (show lnC s c = (⟨#[99, 108, 97, 115, 115, 32]⟩ : ByteArray) ++ c ++ (⟨#[32]⟩ : ByteArray) ++ tx4 (stN (cls false c) s.f5) from rfl)
          have x0 : wr.cell? ⟨g, 0, none⟩ = some (.int .i64 (stN (cls false c) s.f5 1 : Nat)) := (blk_cell hgw 0).trans rfl
          have x1 : wr.cell? ⟨g, 1, none⟩ = some (.int .i64 (stN (cls false c) s.f5 2 : Nat)) := (blk_cell hgw 1).trans rfl
          have x2 : wr.cell? ⟨g, 2, none⟩ = some (.int .i64 (stN (cls false c) s.f5 3 : Nat)) := (blk_cell hgw 2).trans rfl
          have x3 : wr.cell? ⟨g, 3, none⟩ = some (.int .i64 (stN (cls false c) s.f5 4 : Nat)) := (blk_cell hgw 3).trans rfl
          have zt := tx4_size (stN (cls false c) s.f5)
          generalize tx4 (stN (cls false c) s.f5) = tx at *
          generalize stN (cls false c) s.f5 1 = a1 at *
          generalize stN (cls false c) s.f5 2 = a2 at *
          generalize stN (cls false c) s.f5 3 = a3 at *
          generalize stN (cls false c) s.f5 4 = a4 at *
          have d0 : ¬ 9223372036854775807 < 6 + c.size := by omega
          have d1 : ¬ 9223372036854775807 < 6 + c.size + 1 := by omega
          have d2 : ¬ 9223372036854775807 < 6 + c.size + 1 + tx.size := by omega
          clear hgb hgw hTc zt
          go_wp2_with (first | (go_at_call 30; refine HTE.out.mono ?_; rintro e w4 ⟨rfl, hb4⟩; have HO4 := Lib.hid (Kd.R_below HO.out hb4); have HB4 := Lib.hid (below_tr HBW.out hb4); clear hb4) | ((with_reducible refine gate_builtin (b := .append) (xs := #[.tmp 51, .tmp 62]) rfl ?_); at_builtin; refine Kd.R_append Kd.string (w0 := wS) wS.heap.size rfl (.tmp 51) (.tmp 62) 34 9 (.string ⟨#[]⟩) 16 rfl Tryz.underlying34 info9 rfl (by decide) (by omega) u8 ((M.take j).map (lnC s)) ((⟨#[99, 108, 97, 115, 115, 32]⟩ : ByteArray) ++ c ++ (⟨#[32]⟩ : ByteArray) ++ tx) [.string ((⟨#[99, 108, 97, 115, 115, 32]⟩ : ByteArray) ++ c ++ (⟨#[32]⟩ : ByteArray) ++ tx)] (fun _ => True) (fun _ => False) rfl rfl rfl (fun _ hk => hk.elim) (fun _ _ => trivial) HO4.out HB4.out HB4.out.size (by rw [List.length_map]; (try rw [List.length_take]); have := HML.out; omega) ?_; intro v9 w5 ho hb hg hat; clear hg hat))
          go_roundw
          case rel => exact ⟨j + 1, by go_num, by omega, ⟨by rw [HTK.out, List.map_append, List.map_cons, List.map_nil, HLC.out]; exact ho⟩, ⟨hb⟩⟩
          case measure => simp [intOf]; omega
        · have hj2 : j = M.length := by omega
          subst hj2
          rw [List.take_length] at HO
          have hgw := (HBW.out.block (W.heap.size + 1) (blk_lt HAS.out)).trans HAS.out
          have HTE := Lib.hid (show Calls Tryz.prog 30 #[.agg #[.int .i64 (stN (cls true ⟨#[]⟩) s.f5 1 : Nat), .int .i64 (stN (cls true ⟨#[]⟩) s.f5 2 : Nat), .int .i64 (stN (cls true ⟨#[]⟩) s.f5 3 : Nat), .int .i64 (stN (cls true ⟨#[]⟩) s.f5 4 : Nat)]] wr fun e w' => e = .returned (.string (tx4 (stN (cls true ⟨#[]⟩) s.f5))) ∧ Below wr.heap.size wr w' from text_eq _ _ _ _ (by have := HTL1.out 1; omega) (by have := HTL1.out 2; omega) (by have := HTL1.out 3; omega) (by have := HTL1.out 4; omega) wr)
          have x0 : wr.cell? ⟨(W.heap.size + 1), 0, none⟩ = some (.int .i64 (stN (cls true ⟨#[]⟩) s.f5 1 : Nat)) := (blk_cell hgw 0).trans rfl
          have x1 : wr.cell? ⟨(W.heap.size + 1), 1, none⟩ = some (.int .i64 (stN (cls true ⟨#[]⟩) s.f5 2 : Nat)) := (blk_cell hgw 1).trans rfl
          have x2 : wr.cell? ⟨(W.heap.size + 1), 2, none⟩ = some (.int .i64 (stN (cls true ⟨#[]⟩) s.f5 3 : Nat)) := (blk_cell hgw 2).trans rfl
          have x3 : wr.cell? ⟨(W.heap.size + 1), 3, none⟩ = some (.int .i64 (stN (cls true ⟨#[]⟩) s.f5 4 : Nat)) := (blk_cell hgw 3).trans rfl
          have zt := tx4_size (stN (cls true ⟨#[]⟩) s.f5)
          generalize tx4 (stN (cls true ⟨#[]⟩) s.f5) = tx at *
          generalize stN (cls true ⟨#[]⟩) s.f5 1 = a1 at *
          generalize stN (cls true ⟨#[]⟩) s.f5 2 = a2 at *
          generalize stN (cls true ⟨#[]⟩) s.f5 3 = a3 at *
          generalize stN (cls true ⟨#[]⟩) s.f5 4 = a4 at *
          have d0 : ¬ 9223372036854775807 < 4 + tx.size := by omega
          clear hgw zt
          go_wp2_with (first | (go_at_call 30; refine HTE.out.mono ?_; rintro e w4 ⟨rfl, hb4⟩; have HO4 := Lib.hid (Kd.R_below HO.out hb4); have HB4 := Lib.hid (below_tr HBW.out hb4); clear hb4) | ((with_reducible refine gate_builtin (b := .append) (xs := #[.tmp 65, .tmp 69]) rfl ?_); at_builtin; refine Kd.R_append Kd.string (w0 := wS) wS.heap.size rfl (.tmp 65) (.tmp 69) 34 9 (.string ⟨#[]⟩) 16 rfl Tryz.underlying34 info9 rfl (by decide) (by omega) u8 (M.map (lnC s)) ((⟨#[97, 108, 108, 32]⟩ : ByteArray) ++ tx) [.string ((⟨#[97, 108, 108, 32]⟩ : ByteArray) ++ tx)] (fun _ => True) (fun _ => False) rfl rfl rfl (fun _ hk => hk.elim) (fun _ _ => trivial) HO4.out HB4.out HB4.out.size (by rw [List.length_map]; (try rw [List.length_take]); have := HML.out; omega) ?_; intro v9 w5 ho hb hg hat; clear hg hat); obtain ⟨AR, cR, hvr, hlr, hcr⟩ := Kd.R_reads ho; subst hvr; have HF := Lib.hid (And.intro hlr (And.intro hcr (below_tr HBS.out hb))); clear hlr hcr ho hb)
          go_ret
          rw [← HMN.out] at HF
          refine ⟨AR, cR, ?_, HF.out.1, HF.out.2.1, HF.out.2.2⟩
          rw [HMN.out, List.length_append, List.length_map]
          rfl
end Go.Proofs.YtafigkikblpbnaaGreatDoor.PG
namespace Go.Proofs.YtafigkikblpbnaaGreatDoor.PG
open Go.RowKit Go.Proofs.YtafigkikblpbnaaGreatDoorW.PrintWords Go.Proofs.YtafigkikblpbnaaGreatDoorW.PrintLast Go.Proofs.YtafigkikblpbnaaGreatDoorW.PrintMore
set_option linter.unusedVariables false
set_option linter.unusedSimpArgs false
set_option maxRecDepth 100000

theorem num_eq (n : Int) (w : World) : Calls Tryz.prog 11 #[.int .i64 n] w fun e w' => e = .returned (.int .i64 n) ∧ w' = w := by
  go_enter Tryz.func11, Tryz.ntmps11
  go_wp2
  go_ret
  exact ⟨rfl, rfl⟩
def zst : S31 := ⟨0, 0, [], [], [], [], [], [], [], 0⟩
theorem zst_rs (W : World) : Rs W zst none none none none none none none 0 0 0 0 0 0 0 :=
  ⟨Kd.C_nil _ _, Nat.le_refl _, Kd.C_nil _ _, Nat.le_refl _, Kd.C_nil _ _, Nat.le_refl _, Kd.C_nil _ _, Nat.le_refl _, Kd.C_nil _ _, Nat.le_refl _, Kd.C_nil _ _, Nat.le_refl _, Kd.C_nil _ _, Nat.le_refl _⟩
theorem zst_ln : lnL zst = [(⟨#[97, 108, 108, 32, 48, 32, 48, 32, 48, 32, 48]⟩ : ByteArray)] := by
  have h : nms zst zst.f5.length = [] := rfl
  unfold lnL
  rw [h, ordN_nil]
  rfl
/-- The document's and the program's: days that may not be. -/
theorem ComingP_neg (s : S31) (A2 A3 A4 A5 A6 A7 A8 : Option Addr) (c2 c3 c4 c5 c6 c7 c8 : Nat) (W : World) : Calls Tryz.prog 8 #[.agg #[.int .i64 s.f0, .int .u64 s.f1, .slice A2 s.f2.length c2, .slice A3 s.f3.length c3, .slice A4 s.f4.length c4, .slice A5 s.f5.length c5, .slice A6 s.f6.length c6, .slice A7 s.f7.length c7, .slice A8 s.f8.length c8, .int .i64 s.f9], .int .i64 (-1)] W fun e w' => e = .returned (.tuple #[.slice none 0 0, .int .i64 1]) ∧ Below W.heap.size W w' := by
  have HB := Lib.hid (show Below W.heap.size W (W.alloc (.cells #[.int .i64 s.f0, .int .u64 s.f1, .slice A2 s.f2.length c2, .slice A3 s.f3.length c3, .slice A4 s.f4.length c4, .slice A5 s.f5.length c5, .slice A6 s.f6.length c6, .slice A7 s.f7.length c7, .slice A8 s.f8.length c8, .int .i64 s.f9] 31 (0, 0))) from below_alloc (Below.refl _ _) _)
  go_enter Tryz.func8, Tryz.ntmps8
  go_wp2
  go_ret2
  exact ⟨rfl, HB.out⟩
set_option maxHeartbeats 1000000 in
/-- The page's example. -/
theorem live_eq (W : World) : Calls Tryz.prog 7 #[] W fun e w' => e = .returned (.bool true) ∧ Below W.heap.size W w' := by
  have HC := Lib.hid (show Calls Tryz.prog 8 #[.agg #[.int .i64 0, .int .u64 0, .slice none 0 0, .slice none 0 0, .slice none 0 0, .slice none 0 0, .slice none 0 0, .slice none 0 0, .slice none 0 0, .int .i64 0], .int .i64 (-1)] W fun e w' => e = .returned (.tuple #[.slice none 0 0, .int .i64 1]) ∧ Below W.heap.size W w' from ComingP_neg zst none none none none none none none 0 0 0 0 0 0 0 W)
  have HL := Lib.hid (fun w => (show Calls Tryz.prog 12 #[.agg #[.int .i64 0, .int .u64 0, .slice none 0 0, .slice none 0 0, .slice none 0 0, .slice none 0 0, .slice none 0 0, .slice none 0 0, .slice none 0 0, .int .i64 0]] w (RNm [(⟨#[97, 108, 108, 32, 48, 32, 48, 32, 48, 32, 48]⟩ : ByteArray)] w) by
    have h := LinesP_any zst none none none none none none none 0 0 0 0 0 0 0 w (zst_rs w) (fun k h => absurd h (Nat.not_lt_zero _)) (fun r h => absurd h List.not_mem_nil) (Nat.zero_le _)
    rw [zst_ln] at h
    exact h))
  have HN := Lib.hid num_eq
  go_enter Tryz.func7, Tryz.ntmps7
  go_wp2_with fail
  refine HC.out.mono ?_
  rintro e w2 ⟨rfl, hb⟩
  have HB2 := Lib.hid hb
  clear hb
  go_wp2_with fail
  refine (HL.out w2).mono ?_
  rintro e w3 ⟨A, c, rfl, hl, hC, hb⟩
  have HB3 := Lib.hid (below_tr HB2.out hb)
  have HC3 := Lib.hid hC
  clear hl hC hb
  obtain ⟨w4, hw4⟩ : ∃ w4, w3.alloc (.cells #[.string (⟨#[97, 108, 108, 32, 48, 32, 48, 32, 48, 32, 48]⟩ : ByteArray)] 9 (0, 0)) = w4 := ⟨_, rfl⟩
  have HB4 := Lib.hid (show Below w3.heap.size w3 w4 by rw [← hw4]; exact below_alloc (Below.refl _ _) _)
  have HX4 := Lib.hid (show w4.heap[w3.heap.size]? = some (.cells #[.string (⟨#[97, 108, 108, 32, 48, 32, 48, 32, 48, 32, 48]⟩ : ByteArray)] 9 (0, 0)) by rw [← hw4]; exact new_blk w3 _)
  have HW4 := Lib.hid hw4
  have HS := Lib.hid (SameNames_eq [(⟨#[97, 108, 108, 32, 48, 32, 48, 32, 48, 32, 48]⟩ : ByteArray)] A (some ⟨w3.heap.size, 0, none⟩) c 1 w4 (Kd.C_below HC3.out HB4.out) (Kd.C_of_reads (d := ByteArray.empty) ⟨rfl, by decide, fun _ => ⟨_, rfl, fun j hj => by
    have : j = 0 := by have h_ : j < 1 := hj; omega
    subst this
    exact (blk_cell HX4.out 0).trans rfl⟩⟩))
  clear hw4
  go_wp2_with fail
  rw [HW4.out]
  refine HS.out.mono ?_
  rintro e w5 ⟨rfl, hb⟩
  have HB5 := Lib.hid (below_tr HB3.out (below_tr HB4.out hb))
  clear hb
  go_wp2_with (go_at_call 11; refine (HN.out _ _).mono ?_; rintro e w6 ⟨rfl, rfl⟩)
  go_ret
  exact ⟨rfl, HB5.out⟩
end Go.Proofs.YtafigkikblpbnaaGreatDoor.PG
