/- Contracts of the package stamp's functions, next part: Normal. -/
import Derived.Test.YtdpcfamgmicboadStampH
namespace Go.Proofs.Ytdpcfamgmicboad
open Go.RowKit Go.Flt Go.Proofs.YtdpcfamgmicboadW.PrintWords
attribute [local go_sem] run_neg_float run_store_complex run_store_float
set_option linter.unusedVariables false
theorem Laid.snoc2 {W w6 : World} {base : Nat} {v v1 : Value} {hs : List Hdr} {zs : List CX} {n : Nat} {p q : Hdr} {b1 b2 : List (Nat × Nat)} (hl : Laid W base v hs zs n)
    (hp : Kd.R kb 35 W base (fun q => some q ≠ v.ownBlock) (encH p) b1) (hpr : Rels b1 (wayZ zs n)) (hpl : p.2.1 = (wayZ zs n).length)
    (hq : Kd.R kb 35 W base (fun q => some q ≠ v.ownBlock) (encH q) b2) (hqr : Rels b2 (wayZ zs (n + 1))) (hql : q.2.1 = (wayZ zs (n + 1)).length)
    (hR : Kd.R ks 27 w6 base (fun _ => True) v1 (hs ++ [p, q])) (hg : W.grownBy w6 v.ownBlock) (ho : v1.ownBlock = v.ownBlock ∨ ∃ b, v1.ownBlock = some b ∧ W.heap.size ≤ b) :
    Laid w6 base v1 (hs ++ [p, q]) zs (n + 2) := by
  obtain ⟨hn, _, hj⟩ := hl
  have key : ∀ (u : Value) (bs : List (Nat × Nat)), Kd.R kb 35 W base (fun q => some q ≠ v.ownBlock) u bs → Kd.R kb 35 w6 base (fun q => some q ≠ v1.ownBlock) u bs := by
    intro u bs h
    have h2 : Kd.R kb 35 W base (fun q => some q ≠ v.ownBlock ∧ q < W.heap.size) u bs := Kd.R_mono (Kd.R_bound h) (fun k hk => ⟨hk.1, hk.2.2.1⟩)
    refine Kd.R_mono (Kd.R_grown h2 hg (fun k hk => hk.1)) (fun k hk => ?_)
    rcases ho with e | ⟨b, e, hb⟩
    · rw [e]; exact hk.1
    · rw [e]; intro e2; have := Option.some.inj e2; have := hk.2; omega
  refine ⟨by simp [hn], hR, fun j hjn => ?_⟩
  by_cases h1 : j < n
  · have e : (hs ++ [p, q]).getD j (none, 0, 0) = hs.getD j (none, 0, 0) := by
      rw [List.getD_eq_getElem?_getD, List.getElem?_append_left (by omega), ← List.getD_eq_getElem?_getD]
    obtain ⟨bs, h2, h3, h4⟩ := hj j h1
    rw [e]
    exact ⟨bs, h2, key _ _ h3, h4⟩
  · by_cases h2 : j = n
    · subst h2
      have e : (hs ++ [p, q]).getD j (none, 0, 0) = p := by
        rw [List.getD_eq_getElem?_getD, List.getElem?_append_right (by omega), hn, Nat.sub_self]; rfl
      rw [e]
      exact ⟨b1, hpl, key _ _ hp, hpr⟩
    · obtain rfl : j = n + 1 := by omega
      have e : (hs ++ [p, q]).getD (n + 1) (none, 0, 0) = q := by
        rw [List.getD_eq_getElem?_getD, List.getElem?_append_right (by omega), hn, show n + 1 - n = 1 by omega]; rfl
      rw [e]
      exact ⟨b2, hql, key _ _ hq, hqr⟩
/-- A new block of two headers. -/
theorem two_cell (w : World) (p q : Hdr) (j : Nat) (x : Hdr) (hj : [p, q][j]? = some x) : (w.alloc (.cells #[encH p, encH q] 27)).cell? ⟨w.heap.size, j, none⟩ = some (encH x) := by
  have e : (w.alloc (.cells #[encH p, encH q] 27)).heap[w.heap.size]? = some (.cells #[encH p, encH q] 27) := by
    show (w.heap.push _)[w.heap.size]? = _
    simp
  unfold World.cell?
  simp only [e]
  match j, hj with
  | 0, hj => obtain rfl : p = x := by simpa using hj
             rfl
  | 1, hj => obtain rfl : q = x := by simpa using hj
             rfl
  | j + 2, hj => simp at hj
theorem two_C (w : World) (p q : Hdr) : Kd.C ks (w.alloc (.cells #[encH p, encH q] 27)) (some ⟨w.heap.size, 0, none⟩) 2 [p, q] := by
  refine ⟨rfl, by omega, fun _ => ⟨_, rfl, fun j x hj => ?_⟩⟩
  refine ⟨[encH x], rfl, rfl, fun i u hu => ?_⟩
  cases i with
  | succ i => simp at hu
  | zero =>
    obtain rfl : encH x = u := by simpa using hu
    have h := two_cell w p q j x hj
    have e : (Addr.mk w.heap.size 0 none).add (j * ks.sz + 0) = ⟨w.heap.size, j, none⟩ := by
      show Addr.add _ (j * 1 + 0) = _
      rw [Nat.mul_one, Nat.add_zero]
      unfold Addr.add
      by_cases h0 : j = 0 <;> simp [h0]
    rw [e]
    exact h
theorem info27 : (Try.prog.info? 27).map (fun i => (i.zero, i.size, i.bytes)) = some (some (.slice none 0 0), 1, 24) := by kernel_rfl
theorem way_even (zs : List CX) (k : Nat) : wayZ zs (2 * k) = cornerZ (zs.map fun z => mulz z (qn k)) := by
  unfold wayZ
  rw [if_pos (by omega), show 2 * k / 2 = k by omega]
theorem way_odd (zs : List CX) (k : Nat) : wayZ zs (2 * k + 1) = cornerZ ((zs.map conjz).map fun z => mulz z (qn k)) := by
  unfold wayZ
  rw [if_neg (by omega), show (2 * k + 1) / 2 = k by omega]
theorem way_len (zs : List CX) (j : Nat) : (wayZ zs j).length = zs.length := by
  unfold wayZ cornerZ
  rw [List.length_map, List.length_map]
  split
  · rfl
  · exact List.length_map _
theorem corner_sm {zs : List CX} (h : ∀ z ∈ zs, sm 1000000 z) : ∀ z ∈ cornerZ zs, sm 2000000 z := by
  have hb := low_bd h zs.length
  refine map_sm _ h (fun z hz => ?_)
  obtain ⟨h1, h2⟩ := hz
  unfold addz sm
  simp only
  omega
theorem way_sm {zs : List CX} (h : ∀ z ∈ zs, sm 100000 z) (j : Nat) : ∀ z ∈ wayZ zs j, sm 2000000 z := by
  unfold wayZ
  refine corner_sm (map_sm (B := 100000) _ ?_ (fun z hz => sm_le (turn_sm hz _) (by omega)))
  split
  · exact h
  · exact map_sm conjz h (fun z hz => conj_sm hz)
abbrev waysZ (zs : List CX) : List (List CX) := (List.range 8).map (wayZ zs)
theorem rowOf_ways (zs : List CX) (i : Nat) (hi : i < 8) : rowOf (waysZ zs) i = wayZ zs i := by
  simp [rowOf, waysZ, List.getD_eq_getElem?_getD, hi]
/-- Points as the least of all ways to lay them. -/
def normZ (zs : List CX) : List CX := wayZ zs (leastAt (waysZ zs) 7)
theorem Laid.ways {w : World} {base : Nat} {v : Value} {hs : List Hdr} {zs : List CX} (h : Laid w base v hs zs 8) (hsm : ∀ z ∈ zs, sm 100000 z) (hlen : zs.length ≤ 1000) :
    ∃ g c, v = .slice (some ⟨g, 0, none⟩) 8 c ∧ Ways w g (waysZ zs) (fun i => encH (hs.getD i (none, 0, 0))) := by
  obtain ⟨hn, hR, hj⟩ := h
  obtain ⟨inner, ho⟩ := Kd.R_own hR
  rcases ho.2 with ⟨_, h0⟩ | ⟨g, cap, cur, hv, hx⟩
  · omega
  · subst hv
    rw [hn] at hR ⊢
    refine ⟨g, cap, rfl, fun i hi => ?_⟩
    have hi8 : i < 8 := by simpa [waysZ] using hi
    have hC := (Kd.R_reads' hR).2.2
    rw [hn] at hC
    obtain ⟨hl, _, hc⟩ := hC
    obtain ⟨ad, e, hc2⟩ := hc (by omega)
    obtain rfl := Option.some.inj e
    have hx : hs[i]? = some (hs.getD i (none, 0, 0)) := by rw [List.getD_eq_getElem?_getD, List.getElem?_eq_getElem (by omega)]; rfl
    obtain ⟨cs, _, ecs, hcell⟩ := hc2 i _ hx
    obtain ⟨bs, h1, h2, h3⟩ := hj i hi8
    have hcell2 : w.cell? ⟨g, i, none⟩ = some (encH (hs.getD i (none, 0, 0))) := by
      have h5 : cs = [encH (hs.getD i (none, 0, 0))] := ecs
      subst h5
      have h4 := hcell 0 _ rfl
      have e : (Addr.mk g 0 none).add (i * ks.sz + 0) = ⟨g, i, none⟩ := by
        show Addr.add _ (i * 1 + 0) = _
        rw [Nat.mul_one, Nat.add_zero]
        unfold Addr.add
        by_cases h0 : i = 0 <;> simp [h0]
      rwa [e] at h4
    show w.cell? ⟨g, i, none⟩ = some (encH (hs.getD i (none, 0, 0))) ∧ ∃ A c bs, encH (hs.getD i (none, 0, 0)) = .slice A (rowOf (waysZ zs) i).length c ∧ Kd.C kb w A (rowOf (waysZ zs) i).length bs ∧ Rels bs (rowOf (waysZ zs) i) ∧ (rowOf (waysZ zs) i).length ≤ 1000000 ∧ ∀ z ∈ rowOf (waysZ zs) i, sm 1000000000000 z
    rw [rowOf_ways zs i hi8]
    generalize hs.getD i (none, 0, 0) = p at *
    obtain ⟨Ap, np, cp⟩ := p
    obtain rfl : np = (wayZ zs i).length := h1
    have h6 := (Kd.R_reads' h2).2.2
    rw [h3.1] at h6
    refine ⟨hcell2, Ap, cp, bs, rfl, h6, h3, ?_, fun z hz => sm_le (way_sm hsm i z hz) (by omega)⟩
    rw [way_len]; omega
set_option maxHeartbeats 8000000 in
theorem normal_any (A : Option Addr) (c : Nat) (bs : List (Nat × Nat)) (zs : List CX) (w : World) (hsm : ∀ z ∈ zs, sm 100000 z) (hr : Kd.C kb w A zs.length bs) (t : Rels bs zs) (hlen : zs.length ≤ 1000) :
    Calls Try.prog 19 #[.slice A zs.length c] w fun e w' => ∃ v, e = .returned v ∧ Row w w' v (normZ zs) ∧ Below w.heap.size w w' := by
  have hs1 : ∀ z ∈ zs, sm 1000000 z := fun z hz => sm_le (hsm z hz) (by omega)
  generalize hn : zs.length = n at *
  have HN := Lib.hid hn
  clear hn
  go_enter Try.func19, Try.ntmps19
  go_wp2
  go_loopw [3, 5] (fun v3 v5 wr => ∃ (k : Nat) (hs : List Hdr), k ≤ 4 ∧ v5 = .int .i64 k ∧ Aside0 (Laid wr w.heap.size v3 hs zs (2 * k)) ∧ Aside0 (Below w.heap.size w wr)) (fun _ v5 _ => 4 - (intOf v5).toNat)
  case atStart => exact ⟨0, [], by omega, rfl, ⟨rfl, Kd.R_nil _ _ _ _ _, fun j hj => by omega⟩, ⟨Below.refl _ _⟩⟩
  case round =>
    obtain ⟨k, hs, hk, rfl, HL, HB⟩ := hrel
    by_cases hlt : k < 4
    · have hk4 : (k : Int) < 4 := by omega
      have HK := Lib.hid hlt
      clear hlt
      go_wp2_with fail
      refine (turn_n n A c bs zs HN.out k HK.out wr hs1 (Kd.C_below hr HB.out) t hlen).mono ?_
      rintro e w1 ⟨u1, rfl, hR1, hb1⟩
      obtain ⟨A1, c1, bs1, rfl, hC1, hr1⟩ := row_n hR1 n (by rw [List.length_map]; exact HN.out)
      have B1 := Lib.hid hb1
      have C1 := Lib.hid hC1
      have D1 := Lib.hid hr1
      clear hR1 hb1 hC1 hr1
      go_wp2_with fail
      refine (corner_n n A1 c1 bs1 _ (by rw [List.length_map]; exact HN.out) w1 (map_sm _ hsm (fun z hz => sm_le (turn_sm hz k) (by omega))) C1.out D1.out hlen).mono ?_
      rintro e w2 ⟨u2, rfl, hR2, hb2⟩
      have R2 := Lib.hid hR2
      have B2 := Lib.hid hb2
      clear hR2 hb2
      go_wp2_with fail
      refine (mirror_n n A c bs zs HN.out w2 hs1 (Kd.C_below (Kd.C_below hr HB.out) (below_tr B1.out B2.out)) t hlen).mono ?_
      rintro e w3 ⟨u3, rfl, hR3, hb3⟩
      obtain ⟨A3, c3, bs3, rfl, hC3, hr3⟩ := row_n hR3 n (by rw [List.length_map]; exact HN.out)
      have B3 := Lib.hid hb3
      have C3 := Lib.hid hC3
      have D3 := Lib.hid hr3
      clear hR3 hb3 hC3 hr3
      go_wp2_with fail
      refine (turn_n n A3 c3 bs3 (zs.map conjz) (by rw [List.length_map]; exact HN.out) k HK.out w3 (map_sm conjz hs1 (fun z hz => conj_sm hz)) C3.out D3.out hlen).mono ?_
      rintro e w4 ⟨u4, rfl, hR4, hb4⟩
      obtain ⟨A4, c4, bs4, rfl, hC4, hr4⟩ := row_n hR4 n (by rw [List.length_map, List.length_map]; exact HN.out)
      have B4 := Lib.hid hb4
      have C4 := Lib.hid hC4
      have D4 := Lib.hid hr4
      clear hR4 hb4 hC4 hr4
      go_wp2_with fail
      refine (corner_n n A4 c4 bs4 ((zs.map conjz).map fun z => mulz z (qn k)) (by rw [List.length_map, List.length_map]; exact HN.out) w4 (map_sm _ (map_sm conjz hsm (fun z hz => conj_sm hz)) (fun z hz => sm_le (turn_sm hz k) (by omega))) C4.out D4.out hlen).mono ?_
      rintro e w5 ⟨u5, rfl, hR5, hb5⟩
      have R5 := Lib.hid hR5
      have B5 := Lib.hid hb5
      clear hR5 hb5
      have B15 := Lib.hid (below_tr B1.out (below_tr B2.out (below_tr B3.out (below_tr B4.out B5.out))))
      have B25 := Lib.hid (below_tr B3.out (below_tr B4.out B5.out))
      obtain ⟨⟨Ap, np, cp⟩, bp, rfl, hpl, hpR, hpr⟩ := row_hdr (HL.out.below B1.out) (Nat.le_trans HB.out.size B1.out.size) R2.out
      obtain ⟨⟨Aq, nq, cq⟩, bq, rfl, hql, hqR, hqr⟩ := row_hdr ((HL.out.below B1.out).below (below_tr B2.out (below_tr B3.out B4.out))) (Nat.le_trans HB.out.size (Nat.le_trans B1.out.size (below_tr B2.out (below_tr B3.out B4.out)).size)) R5.out
      have PL := Lib.hid hpl
      have PR := Lib.hid (Kd.R_below (Kd.R_mono (ok' := fun q => some q ≠ u3.ownBlock) hpR (fun k hk => hk.1)) B25.out)
      have PE := Lib.hid hpr
      have QL := Lib.hid hql
      have QR := Lib.hid (Kd.R_mono (ok' := fun q => some q ≠ u3.ownBlock) hqR (fun k hk => hk.1))
      have QE := Lib.hid hqr
      clear hpl hpR hpr hql hqR hqr R2 R5
      have LR := Lib.hid (Kd.R_below (Kd.R_below HL.out.2.1 B15.out) (below_alloc (Below.refl _ _) (.cells #[encH (Ap, np, cp), encH (Aq, nq, cq)] 27)))
      have LL : (hs.length + 2) * 24 ≤ 140737488355328 := by have := HL.out.1; omega
      go_wp2_with (with_reducible refine gate_builtin (b := .append) (xs := #[.tmp 8, .tmp 18]) rfl ?_; at_builtin; refine Kd.R_append_row (h1 := fun _ => rfl) encH (none, 0, 0) (w0 := w) w.heap.size rfl (.tmp 8) (.tmp 18) 51 27 (.slice none 0 0) 24 rfl Try.underlying51 info27 rfl (by decide) u3 hs [(Ap, np, cp), (Aq, nq, cq)] _ 2 2 (fun _ => True) rfl rfl (fun _ _ => trivial) LR.out (two_C w5 (Ap, np, cp) (Aq, nq, cq)) (below_tr HB.out (below_alloc B15.out _)) (below_tr HB.out (below_alloc B15.out _)).size LL ?_; rintro v1 w6 hR6 hb6 hg6 ho6; have R6 := Lib.hid hR6; have B6 := Lib.hid hb6; have G6 := Lib.hid hg6; have O6 := Lib.hid ho6; clear hR6 hb6 hg6 ho6)
      go_roundw
      case rel => exact ⟨k + 1, _, by have := HK.out; omega, by go_num, ⟨(HL.out.below (below_alloc B15.out _)).snoc2 (Kd.R_below PR.out (below_alloc (Below.refl _ _) _)) (by rw [way_even]; exact PE.out) (by rw [way_even]; exact PL.out) (Kd.R_below QR.out (below_alloc (Below.refl _ _) _)) (by rw [way_odd]; exact QE.out) (by rw [way_odd]; exact QL.out) R6.out G6.out O6.out⟩, ⟨B6.out⟩⟩
      case measure => simp [intOf]; omega
    · obtain rfl : k = 4 := by omega
      obtain ⟨g, cg, rfl, hW⟩ := HL.out.ways hsm (by rw [HN.out]; exact hlen)
      have HC := Lib.hid (minfunc_any g cg (waysZ zs) _ wr hW (by simp [waysZ]) (by simp [waysZ]))
      clear hW
      go_wp2_with fail
      refine HC.out.mono ?_
      rintro e w7 ⟨rfl, hb7⟩
      have e8 : (waysZ zs).length = 8 := by simp [waysZ]
      rw [e8]
      clear e8
      have hj7 : leastAt (waysZ zs) (8 - 1) < 8 := by have := leastAt_le (waysZ zs) (8 - 1); omega
      obtain ⟨bs7, h71, h72, h73⟩ := HL.out.2.2 _ hj7
      have R7 := Lib.hid (show Row w w7 _ (normZ zs) from ⟨bs7, Kd.R_mono (Kd.R_below h72 hb7) (fun _ _ => trivial), h73⟩)
      have B7 := Lib.hid (below_tr HB.out hb7)
      clear h71 h72 h73 hj7 hb7 HC
      go_wp2
      go_ret
      exact ⟨_, rfl, R7.out, B7.out⟩
end Go.Proofs.Ytdpcfamgmicboad
