-- made by hprint.py out of the translation and the hand texts
import Derived.Test.YtidobdhkncaljaaDoorK0
import Derived.Test.YtidobdhkncaljaaDoorK2
import Derived.Test.YtidobdhkncaljaaDoorK3
namespace Go.Proofs.YtidobdhkncaljaaDoorK
open Go.RowKit Go.Proofs.YtidobdhkncaljaaDoorW.PrintWords Go.Proofs.YtidobdhkncaljaaDoorW.PrintLast Go.Proofs.YtidobdhkncaljaaDoorW.PrintMore
attribute [local go_sem] max2_int min2_int max_two min_two max_three min_three max_four min_four   -- for this text's walks alone
set_option linter.unusedVariables false
set_option linter.unusedSimpArgs false

/-! ### slices_Clone_api_Hop_api_Hop: function 40, by hand -/
def slices_Clone_api_Hop_api_Hop.f (l0 : List (S69)) : Option (List (S69)) := if l0.length < 8796093022208 then some l0 else none
set_option maxHeartbeats 1000000 in
set_option maxRecDepth 100000 in
theorem slices_Clone_api_Hop_api_Hop.calls (A0 : Option Addr) (c0 : Nat) (l0 : List (S69)) (r : List (S69)) (w : World) (hr0 : Kd.C k69 w A0 l0.length l0) (hc0 : l0.length ≤ c0) (h : slices_Clone_api_Hop_api_Hop.f l0 = some r) :
  Calls Tryd.prog 40 #[.slice A0 l0.length c0] w fun e w' => ∃ v0_ : Value, e = .returned (v0_) ∧ Kd.R k69 69 w' w.heap.size (fun _ => True) v0_ r ∧ Below w.heap.size w w' := by
 unfold slices_Clone_api_Hop_api_Hop.f at h
 by_cases hl : l0.length < 8796093022208
 ·rw [if_pos hl] at h
  obtain rfl : l0 = r := by simpa using h
  clear h
  have hq : ∀ (W : World) (x : Option Addr) (n c : Nat), (binOp .eql 38 (.slice x n c) (.slice none 0 0)).run Tryd.prog W = .ok (.bool x.isNone) W := fun W x n c => Lib.run_eql_slice_nil W _ _ x n c 0 0 Tryd.underlying38
  cases A0 with
  | none =>
   obtain rfl : l0 = [] := by
    rcases Nat.eq_zero_or_pos l0.length with h0 | h0
    ·exact List.eq_nil_of_length_eq_zero h0
    ·obtain ⟨ad, he, _⟩ := hr0.2.2 h0
     cases he
   go_enter Tryd.func40, Tryd.ntmps40
   go_wp2
   go_ret
   exact ⟨_, rfl, Kd.R_nil _ _ _ _ _, Below.refl _ _⟩
  | some ad =>
   have HR := Aside0.mk hr0
   clear hr0
   have HL := Aside0.mk hl
   clear hl
   go_enter Tryd.func40, Tryd.ntmps40
   go_wp2_with (first | ((with_reducible refine gate_dst (N := 5) rfl ?_); refine Kd.R_lit k69 _ 69 ?hg (N := 5) ?hd (xs := ([] : List (S69))) (inner := []) (ok := fun _ => True) (okp := fun _ => True) ?hr ?hp (fun _ hk => hk) trivial (Below.refl _ _) (Nat.le_refl _) (by simp) ?_; (case hd => rfl); (case hg => rfl); (case hr => first | (go_simp; done) | (go_simp; rfl)); (case hp => exact (Reps.none _ _)); intro v5 w5 ho5 hb5 _ _; have HO5 := Aside0.mk ho5; have HB5 := Aside0.mk hb5; clear ho5 hb5) | ((with_reducible refine gate_builtin (b := .append) (xs := #[.tmp 5, .tmp 6]) rfl ?_); at_builtin; refine Kd.R_append_rows k69 (w0 := w) w.heap.size rfl (.tmp 5) (.tmp 6) 38 69 ((.agg #[(.int .i64 0), (.int .i64 0)])) 16 rfl Tryd.underlying38 info69 rfl (by decide) (by omega) v5 [] l0 _ _ _ (fun _ => True) (fun _ => False) rfl rfl ?aO ?aR (fun _ _ h => h) (fun _ h => h.elim) ?aF ?aB ?aS ?aL ?_; (case aR => exact Kd.C_below HR.out HB5.out); (case aB => exact HB5.out); (case aF => exact (fun _ _ => trivial)); (case aO => exact HO5.out); (case aS => exact HB5.out.size); (case aL => have := HL.out; simp only [List.length_nil]; omega); intro v7 w7 ho7 hb7 _ _; have HO7 := Aside0.mk ho7; have HB7 := Aside0.mk hb7; clear ho7 hb7))
   go_ret
   exact ⟨_, rfl, HO7.out, HB7.out⟩
 ·rw [if_neg hl] at h
  cases h

/-! ### ident_Child: function 19, by hand -/
theorem hop_cells (W : World) (l : List Value) (t : Nat) (g : Nat) (hg : W.heap[g]? = some (.cells l.toArray t (0, 0))) : ∀ j u, l[j]? = some u → W.cell? ((⟨g, 0, none⟩ : Addr).add j) = some u := by
 intro j u hj
 have h := blk_cell hg j
 rw [show (⟨g, 0, none⟩ : Addr).add j = ⟨g, j, none⟩ from by (simp [Addr.add]; try (intro h0; exact h0.symm))]
 exact h.trans (by simpa using hj)
set_option maxHeartbeats 2000000 in
set_option maxRecDepth 100000 in
theorem ident_Child.at (a b : Int) (A2 : Option Addr) (c2 : Nat) (l : List S69) (i o : Int) (w : World) (r2 : Kd.C k69 w A2 l.length l) (q2 : l.length ≤ c2) :
  Calls Tryd.prog 19 #[.agg #[.int .i64 a, .int .i64 b, .slice A2 l.length c2], .int .i64 i, .int .i64 o] w (fun e W' => ∃ v2 : Value, e = .returned (.tuple #[.agg #[.int .i64 (if (idOk a b l && idOk a b (l ++ [⟨i, o⟩])) = true then a else 0), .int .i64 (if (idOk a b l && idOk a b (l ++ [⟨i, o⟩])) = true then b else 0), v2], .int .i64 (if (idOk a b l && idOk a b (l ++ [⟨i, o⟩])) = true then 0 else 30)]) ∧ Kd.R k69 69 W' w.heap.size (fun _ => True) v2 (if (idOk a b l && idOk a b (l ++ [⟨i, o⟩])) = true then l ++ [⟨i, o⟩] else []) ∧ Below w.heap.size w W') := by
 have hck : ident_Check.f a b l = some (if idOk a b l = true then 0 else 30) := rfl
 have hck2 : ident_Check.f a b (l ++ [⟨i, o⟩]) = some (if idOk a b (l ++ [⟨i, o⟩]) = true then 0 else 30) := rfl
 have hlen : idOk a b l = true → l.length ≤ 4 := by intro h; simp [idOk] at h; omega
 obtain ⟨L2, hL2⟩ : ∃ L2, L2 = l ++ [(⟨i, o⟩ : S69)] := ⟨_, rfl⟩
 have hl2 : L2.length = l.length + 1 := by rw [hL2]; simp
 rw [← hL2] at hck2 ⊢
 generalize idOk a b l = k1 at hck hlen ⊢
 generalize idOk a b L2 = k2 at hck2 ⊢
 obtain ⟨W2, hW2⟩ : ∃ W2, W2 = (w.alloc (.cells #[.int .i64 a, .int .i64 b, .slice A2 l.length c2] 40)).alloc (.cells #[.int .i64 0, .int .i64 0, .slice none 0 0] 40) := ⟨_, rfl⟩
 have hb2 : Below w.heap.size w W2 := by rw [hW2]; exact below_alloc (below_alloc (Below.refl _ _) _) _
 have hbx : W2.heap[w.heap.size]? = some (.cells #[.int .i64 a, .int .i64 b, .slice A2 l.length c2] 40 (0, 0)) := by rw [hW2]; exact blk_alloc (blk_new w _) _
 have hbz : W2.heap[w.heap.size + 1]? = some (.cells #[.int .i64 0, .int .i64 0, .slice none 0 0] 40 (0, 0)) := by
  rw [hW2]
  have h := blk_new (w.alloc (.cells #[.int .i64 a, .int .i64 b, .slice A2 l.length c2] 40)) (.cells #[.int .i64 0, .int .i64 0, .slice none 0 0] 40)
  rw [World.size_alloc] at h
  exact h
 have HCK := Aside0.mk hck
 have HCK2 := Aside0.mk hck2
 have HLEN := Aside0.mk hlen
 have HL2 := Aside0.mk hL2
 have HL2L := Aside0.mk hl2
 have HR2 := Aside0.mk r2
 have HQ2 := Aside0.mk q2
 have HB2 := Aside0.mk hb2
 have HBX := Aside0.mk hbx
 have HBZ := Aside0.mk hbz
 have HW2 := Aside0.mk hW2
 have GE := Aside0.mk (show w.heap.size ≤ w.heap.size + 1 from Nat.le_succ _)
 clear r2 q2 hb2 hbx hbz hW2 hck hck2 hlen hL2 hl2
 go_enter Tryd.func19, Tryd.ntmps19
 go_wp2_with (fail)
 rw [← HW2.out]
 refine (ident_Check.calls a b A2 c2 l (if k1 = true then 0 else 30) _ (Kd.C_below HR2.out HB2.out) HQ2.out HCK.out).mono ?_
 rintro e w5 ⟨rfl, hb5⟩
 have HB5 := Aside0.mk (below_step HB2.out hb5)
 have hbx := blk_below HBX.out hb5
 have hbz := blk_below HBZ.out hb5
 have HBX := Aside0.mk hbx
 have HBZ := Aside0.mk hbz
 have z0x : w5.cell? ⟨w.heap.size + 1, 0, none⟩ = some (.int .i64 0) := (blk_cell hbz 0).trans rfl
 have zf0x := blk_frozen hbz 0
 have z1x : w5.cell? ⟨w.heap.size + 1, 1, none⟩ = some (.int .i64 0) := (blk_cell hbz 1).trans rfl
 have zf1x := blk_frozen hbz 1
 have z2x : w5.cell? ⟨w.heap.size + 1, 2, none⟩ = some (.slice none 0 0) := (blk_cell hbz 2).trans rfl
 have zf2x := blk_frozen hbz 2
 have x0x : w5.cell? ⟨w.heap.size, 0, none⟩ = some (.int .i64 a) := (blk_cell hbx 0).trans rfl
 have x1x : w5.cell? ⟨w.heap.size, 1, none⟩ = some (.int .i64 b) := (blk_cell hbx 1).trans rfl
 have x2x : w5.cell? ⟨w.heap.size, 2, none⟩ = some (.slice A2 l.length c2) := (blk_cell hbx 2).trans rfl
 clear hb5 hbx hbz
 cases k1 with
 | false =>
  go_wp2
  refine bodyPost_ret (results_ct rfl _ _ (w.heap.size + 1) 40 #[.int .i64 0, .int .i64 0, .slice none 0 0] (0, 0) _ rfl (blk_put (blk_put (blk_put HBZ.out 0 _ rfl) 1 _ rfl) 2 _ rfl) Tryd.underlying40 rfl (by kernel_rfl)) rfl ?_
  exact ⟨_, rfl, Kd.R_nil _ _ _ _ _, below_set (below_set (below_set HB5.out GE.out) GE.out) GE.out⟩
 | true =>
  have hlen := HLEN.out rfl
  have HCL := Aside0.mk (show slices_Clone_api_Hop_api_Hop.f l = some l by unfold slices_Clone_api_Hop_api_Hop.f; rw [if_pos (by omega)])
  have HLL := Aside0.mk (show (l.length + 1) * 16 ≤ 140737488355328 by omega)
  clear hlen
  obtain ⟨N5, hN5⟩ : ∃ N, N = w5.heap.size := ⟨_, rfl⟩
  have HN5 := Aside0.mk hN5
  have hlx : w.heap.size + 1 < N5 := by rw [hN5]; exact blk_lt HBZ.out
  have HLX := Aside0.mk hlx
  clear hN5 hlx
  go_upto_region 4 with (fail)
  refine wp_region_held_drew (S := fun W => Below N5 w5 W) (by kernel_rfl) (by rw [HN5.out]; exact below_drew (Below.refl _ _)) (fun hH => ?_)
  change wpAnyH _ _ _ _ _ 15 #[false, false, false, false, false, false, false, false, false, false, false, false, false, false, false] _ _
  refine wpAnyH_take (i := 0) (oi := ⟨some 17, _, _, _, _, _⟩) (v := ?_) rfl (by kernel_rfl) (by kernel_rfl) (by kernel_rfl) (fun _ _ _ h => h) (Or.inl ⟨by rfl, ?_⟩) (by assumption) ?_
  rotate_left
  focus
   intro w7 hSw
   go_simp
   all_goals (with_reducible rfl)
  simp only [Act.put, List.setIfInBounds_toArray, List.set_cons_zero, List.set_cons_succ]
  refine wpAnyH_take (i := 1) (oi := ⟨some 18, _, _, _, _, _⟩) (v := ?_) rfl (by kernel_rfl) (by kernel_rfl) (by kernel_rfl) (fun _ _ _ h => h) (Or.inl ⟨by rfl, ?_⟩) (by assumption) ?_
  rotate_left
  focus
   intro w7 hSw
   rw [HN5.out] at hSw
   have g0 := pw_cell_below hSw x0x
   go_simp
   all_goals (with_reducible rfl)
  simp only [Act.put, List.setIfInBounds_toArray, List.set_cons_zero, List.set_cons_succ]
  refine wpAnyH_take (i := 2) (oi := ⟨some 19, _, _, _, _, _⟩) (v := ?_) rfl (by kernel_rfl) (by kernel_rfl) (by kernel_rfl) (fun _ _ _ h => h) (Or.inl ⟨by rfl, ?_⟩) (by assumption) ?_
  rotate_left
  focus
   intro w7 hSw
   go_simp
   all_goals (with_reducible rfl)
  simp only [Act.put, List.setIfInBounds_toArray, List.set_cons_zero, List.set_cons_succ]
  refine wpAnyH_take (i := 3) (oi := ⟨some 20, _, _, _, _, _⟩) (v := ?_) rfl (by kernel_rfl) (by kernel_rfl) (by kernel_rfl) (fun _ _ _ h => h) (Or.inl ⟨by rfl, ?_⟩) (by assumption) ?_
  rotate_left
  focus
   intro w7 hSw
   rw [HN5.out] at hSw
   have g0 := pw_cell_below hSw x1x
   go_simp
   all_goals (with_reducible rfl)
  simp only [Act.put, List.setIfInBounds_toArray, List.set_cons_zero, List.set_cons_succ]
  refine wpAnyH_take (i := 4) (oi := ⟨some 21, _, _, _, _, _⟩) (v := ?_) rfl (by kernel_rfl) (by kernel_rfl) (by kernel_rfl) (fun _ _ _ h => h) (Or.inl ⟨by rfl, ?_⟩) (by assumption) ?_
  rotate_left
  focus
   intro w7 hSw
   go_simp
   all_goals (with_reducible rfl)
  simp only [Act.put, List.setIfInBounds_toArray, List.set_cons_zero, List.set_cons_succ]
  refine wpAnyH_take (i := 5) (oi := ⟨some 22, _, _, _, _, _⟩) (v := ?_) rfl (by kernel_rfl) (by kernel_rfl) (by kernel_rfl) (fun _ _ _ h => h) (Or.inl ⟨by rfl, ?_⟩) (by assumption) ?_
  rotate_left
  focus
   intro w7 hSw
   rw [HN5.out] at hSw
   have g0 := pw_cell_below hSw x2x
   go_simp
   all_goals (with_reducible rfl)
  simp only [Act.put, List.setIfInBounds_toArray, List.set_cons_zero, List.set_cons_succ]
  refine wpAnyH_take (i := 7) (oi := ⟨some 24, _, _, _, _, _⟩) (v := ?_) rfl (by kernel_rfl) (by kernel_rfl) (by kernel_rfl) (fun _ _ _ h => h) (Or.inl ⟨by rfl, ?_⟩) (by assumption) ?_
  rotate_left
  focus
   intro w7 hSw
   go_simp
   all_goals (with_reducible rfl)
  simp only [Act.put, List.setIfInBounds_toArray, List.set_cons_zero, List.set_cons_succ]
  refine wpAnyH_take (i := 8) (oi := ⟨some 25, _, _, _, _, _⟩) (v := ?_) rfl (by kernel_rfl) (by kernel_rfl) (by kernel_rfl) (fun _ _ _ h => h) (Or.inl ⟨by rfl, ?_⟩) (by assumption) ?_
  rotate_left
  focus
   intro w7 hSw
   go_simp
   all_goals (with_reducible rfl)
  simp only [Act.put, List.setIfInBounds_toArray, List.set_cons_zero, List.set_cons_succ]
  refine wpAnyH_take (i := 9) (oi := ⟨some 26, _, _, _, _, _⟩) (v := ?_) rfl (by kernel_rfl) (by kernel_rfl) (by kernel_rfl) (fun _ _ _ h => h) (Or.inl ⟨by rfl, ?_⟩) (by assumption) ?_
  rotate_left
  focus
   intro w7 hSw
   go_simp
   all_goals (with_reducible rfl)
  simp only [Act.put, List.setIfInBounds_toArray, List.set_cons_zero, List.set_cons_succ]
  have hS : Below w5.heap.size w5 w5.drew := below_drew (Below.refl _ _)
  clear hH x0x x1x x2x z0x zf0x z1x zf1x z2x zf2x
  generalize w5.drew = V0 at hS ⊢
  refine wpAnyH_ready (rs := [6, 10, 13]) (by kernel_rfl) (by simp) ?_
  refine AllReadyH.cons (o := ⟨some 23, _, _, _, _, _⟩) rfl (fun K9 hK => ?_) ?_
  focus
   go_simp
   refine (slices_Clone_api_Hop_api_Hop.calls A2 c2 l l _ (Kd.C_below HR2.out (below_step HB5.out hS)) HQ2.out HCL.out).mono ?_
   rintro e V1 ⟨v3, rfl, hrow, hbo⟩
   obtain ⟨Ao, co, eo⟩ := Kd.R_slice hrow
   subst eo
   have hrow := Kd.R_mono (ok' := fun k => w5.heap.size ≤ k) (Kd.R_lower (base' := w.heap.size) (Kd.R_bound hrow) (Nat.le_trans HB5.out.size hS.size)) (fun k hk => Nat.le_trans hS.size hk.2.1)
   have hS := below_step hS hbo
   refine hK.out _ _ (by rw [HN5.out]; exact hS) (fun _ => ?_)
   clear hK K9 hbo
   change wpAnyH _ _ _ _ _ 5 #[true, true, true, true, true, true, true, true, true, true, false, false, false, false, false] _ _
   refine wpAnyH_ready (rs := [10, 13]) (by kernel_rfl) (by simp) ?_
   refine AllReadyH.cons (o := ⟨some 27, _, _, _, _, _⟩) rfl (fun K9 hK => ?_) ?_
   focus
    go_simp
    have hgb := blk_new V1 (.cells #[.int .i64 i, .int .i64 o] 69)
    have hleB := hS.size
    have hS9 := below_alloc hS (.cells #[.int .i64 i, .int .i64 o] 69)
    have hrow := Kd.R_alloc hrow (.cells #[.int .i64 i, .int .i64 o] 69)
    refine hK.out _ _ (by rw [HN5.out]; exact hS9) (fun _ => ?_)
    clear hK K9 hS
    have hS := hS9
    clear hS9
    generalize V1.alloc (.cells #[.int .i64 i, .int .i64 o] 69) = V2 at hS hgb hrow ⊢
    generalize V1.heap.size = gb at hleB hgb ⊢
    change wpAnyH _ _ _ _ _ 4 #[true, true, true, true, true, true, true, true, true, true, true, false, false, false, false] _ _
    refine wpAnyH_ready (rs := [11, 13]) (by kernel_rfl) (by simp) ?_
    refine AllReadyH.cons (o := ⟨some 28, _, _, _, _, _⟩) rfl (fun K9 hK => ?_) ?_
    focus
     rw [if_pos (by rfl)]
     refine wpOper_append_R k69 _ _ 38 69 _ 16 rfl Tryd.underlying38 info69 rfl (by decide) (by decide) w.heap.size _ l (⟨i, o⟩ : S69) [.int .i64 i, .int .i64 o] (fun k => w5.heap.size ≤ k) (fun _ => False) rfl ⟨gb, 0, none⟩ 1 rfl (k69_mkM _ _ _ (⟨i, o⟩ : S69)) (fun _ h => h.elim) (fun k hk => Nat.le_trans hS.size hk) (hop_cells _ _ _ _ hgb) hrow (Nat.le_trans HB5.out.size hS.size) HLL.out ?_
     intro v9 V3 hra hgA hatA
     obtain ⟨Aq, cq, eqq⟩ := Kd.R_slice hra
     subst eqq
     have hS := hS.grown hgA hS.size (fun k hk => hrow.1 k hk)
     refine hK.out _ _ (by rw [HN5.out]; exact hS) (fun _ => ?_)
     clear hK K9 hgA hatA hrow hgb
     simp only [Act.put, List.setIfInBounds_toArray, List.set_cons_zero, List.set_cons_succ]
     change wpAnyH _ _ _ _ _ 3 #[true, true, true, true, true, true, true, true, true, true, true, true, false, false, false] _ _
     refine wpAnyH_take (i := 12) (oi := ⟨some 29, _, _, _, _, _⟩) (v := ?_) rfl (by kernel_rfl) (by kernel_rfl) (by kernel_rfl) (fun _ _ _ h => h) (Or.inl ⟨by rfl, ?_⟩) (by rw [HN5.out]; exact hS) ?_
     rotate_left
     focus
      intro w7 hSw
      go_simp
      all_goals (with_reducible rfl)
     simp only [Act.put, List.setIfInBounds_toArray, List.set_cons_zero, List.set_cons_succ]
     refine wpAnyH_ready (rs := [13]) (by kernel_rfl) (by simp) ?_
     refine AllReadyH.cons (o := ⟨some 9, _, _, _, _, _⟩) rfl (fun K9 hK => ?_) AllReadyH.nil
     go_simp
     have hnb := blk_new V3 (.cells #[.int .i64 0, .int .i64 0, .slice none 0 0] 40)
     have hleL := hS.size
     have hS9 := below_alloc hS (.cells #[.int .i64 0, .int .i64 0, .slice none 0 0] 40)
     have hra := Kd.R_alloc hra (.cells #[.int .i64 0, .int .i64 0, .slice none 0 0] 40)
     refine hK.out _ _ (by rw [HN5.out]; exact hS9) (fun _ => ?_)
     clear hK K9 hS
     have hS := hS9
     clear hS9
     generalize V3.alloc (.cells #[.int .i64 0, .int .i64 0, .slice none 0 0] 40) = V4 at hS hnb hra ⊢
     generalize V3.heap.size = nb at hleL hnb ⊢
     change wpAnyH _ _ _ _ _ 1 #[true, true, true, true, true, true, true, true, true, true, true, true, true, true, false] _ _
     refine wpAnyH_ready (rs := [14]) (by kernel_rfl) (by simp) (AllReadyH.cons (o := ⟨none, _, _, _, _, _⟩) rfl (fun K9 hK => ?_) AllReadyH.nil)
    rotate_left 1
    refine AllReadyH.cons (o := ⟨some 9, _, _, _, _, _⟩) rfl (fun K9 hK => ?_) AllReadyH.nil
    go_simp
    have hnb := blk_new V2 (.cells #[.int .i64 0, .int .i64 0, .slice none 0 0] 40)
    have hleL := hS.size
    have hS9 := below_alloc hS (.cells #[.int .i64 0, .int .i64 0, .slice none 0 0] 40)
    have hrow := Kd.R_alloc hrow (.cells #[.int .i64 0, .int .i64 0, .slice none 0 0] 40)
    have hgb := blk_alloc hgb (.cells #[.int .i64 0, .int .i64 0, .slice none 0 0] 40)
    refine hK.out _ _ (by rw [HN5.out]; exact hS9) (fun _ => ?_)
    clear hK K9 hS
    have hS := hS9
    clear hS9
    generalize V2.alloc (.cells #[.int .i64 0, .int .i64 0, .slice none 0 0] 40) = V3 at hS hnb hrow hgb ⊢
    generalize V2.heap.size = nb at hleL hnb ⊢
    change wpAnyH _ _ _ _ _ 3 #[true, true, true, true, true, true, true, true, true, true, true, false, false, true, false] _ _
    refine wpAnyH_ready (rs := [11]) (by kernel_rfl) (by simp) ?_
    refine AllReadyH.cons (o := ⟨some 28, _, _, _, _, _⟩) rfl (fun K9 hK => ?_) AllReadyH.nil
    rw [if_pos (by rfl)]
    refine wpOper_append_R k69 _ _ 38 69 _ 16 rfl Tryd.underlying38 info69 rfl (by decide) (by decide) w.heap.size _ l (⟨i, o⟩ : S69) [.int .i64 i, .int .i64 o] (fun k => w5.heap.size ≤ k) (fun _ => False) rfl ⟨gb, 0, none⟩ 1 rfl (k69_mkM _ _ _ (⟨i, o⟩ : S69)) (fun _ h => h.elim) (fun k hk => Nat.le_trans hS.size hk) (hop_cells _ _ _ _ hgb) hrow (Nat.le_trans HB5.out.size hS.size) HLL.out ?_
    intro v9 V4 hra hgA hatA
    obtain ⟨Aq, cq, eqq⟩ := Kd.R_slice hra
    subst eqq
    have hnb := blk_grown hnb hgA (Kd.R_ne hrow hnb (by decide))
    have hS := hS.grown hgA hS.size (fun k hk => hrow.1 k hk)
    refine hK.out _ _ (by rw [HN5.out]; exact hS) (fun _ => ?_)
    clear hK K9 hgA hatA hrow hgb
    simp only [Act.put, List.setIfInBounds_toArray, List.set_cons_zero, List.set_cons_succ]
    change wpAnyH _ _ _ _ _ 2 #[true, true, true, true, true, true, true, true, true, true, true, true, false, true, false] _ _
    refine wpAnyH_take (i := 12) (oi := ⟨some 29, _, _, _, _, _⟩) (v := ?_) rfl (by kernel_rfl) (by kernel_rfl) (by kernel_rfl) (fun _ _ _ h => h) (Or.inl ⟨by rfl, ?_⟩) (by rw [HN5.out]; exact hS) ?_
    rotate_left
    focus
     intro w7 hSw
     go_simp
     all_goals (with_reducible rfl)
    simp only [Act.put, List.setIfInBounds_toArray, List.set_cons_zero, List.set_cons_succ]
    refine wpAnyH_ready (rs := [14]) (by kernel_rfl) (by simp) (AllReadyH.cons (o := ⟨none, _, _, _, _, _⟩) rfl (fun K9 hK => ?_) AllReadyH.nil)
   rotate_left 2
   refine AllReadyH.cons (o := ⟨some 9, _, _, _, _, _⟩) rfl (fun K9 hK => ?_) AllReadyH.nil
   go_simp
   have hnb := blk_new V1 (.cells #[.int .i64 0, .int .i64 0, .slice none 0 0] 40)
   have hleL := hS.size
   have hS9 := below_alloc hS (.cells #[.int .i64 0, .int .i64 0, .slice none 0 0] 40)
   have hrow := Kd.R_alloc hrow (.cells #[.int .i64 0, .int .i64 0, .slice none 0 0] 40)
   refine hK.out _ _ (by rw [HN5.out]; exact hS9) (fun _ => ?_)
   clear hK K9 hS
   have hS := hS9
   clear hS9
   generalize V1.alloc (.cells #[.int .i64 0, .int .i64 0, .slice none 0 0] 40) = V2 at hS hnb hrow ⊢
   generalize V1.heap.size = nb at hleL hnb ⊢
   change wpAnyH _ _ _ _ _ 4 #[true, true, true, true, true, true, true, true, true, true, false, false, false, true, false] _ _
   refine wpAnyH_ready (rs := [10]) (by kernel_rfl) (by simp) ?_
   refine AllReadyH.cons (o := ⟨some 27, _, _, _, _, _⟩) rfl (fun K9 hK => ?_) AllReadyH.nil
   go_simp
   have hgb := blk_new V2 (.cells #[.int .i64 i, .int .i64 o] 69)
   have hleB := hS.size
   have hS9 := below_alloc hS (.cells #[.int .i64 i, .int .i64 o] 69)
   have hrow := Kd.R_alloc hrow (.cells #[.int .i64 i, .int .i64 o] 69)
   have hnb := blk_alloc hnb (.cells #[.int .i64 i, .int .i64 o] 69)
   refine hK.out _ _ (by rw [HN5.out]; exact hS9) (fun _ => ?_)
   clear hK K9 hS
   have hS := hS9
   clear hS9
   generalize V2.alloc (.cells #[.int .i64 i, .int .i64 o] 69) = V3 at hS hgb hrow hnb ⊢
   generalize V2.heap.size = gb at hleB hgb ⊢
   change wpAnyH _ _ _ _ _ 3 #[true, true, true, true, true, true, true, true, true, true, true, false, false, true, false] _ _
   refine wpAnyH_ready (rs := [11]) (by kernel_rfl) (by simp) ?_
   refine AllReadyH.cons (o := ⟨some 28, _, _, _, _, _⟩) rfl (fun K9 hK => ?_) AllReadyH.nil
   rw [if_pos (by rfl)]
   refine wpOper_append_R k69 _ _ 38 69 _ 16 rfl Tryd.underlying38 info69 rfl (by decide) (by decide) w.heap.size _ l (⟨i, o⟩ : S69) [.int .i64 i, .int .i64 o] (fun k => w5.heap.size ≤ k) (fun _ => False) rfl ⟨gb, 0, none⟩ 1 rfl (k69_mkM _ _ _ (⟨i, o⟩ : S69)) (fun _ h => h.elim) (fun k hk => Nat.le_trans hS.size hk) (hop_cells _ _ _ _ hgb) hrow (Nat.le_trans HB5.out.size hS.size) HLL.out ?_
   intro v9 V4 hra hgA hatA
   obtain ⟨Aq, cq, eqq⟩ := Kd.R_slice hra
   subst eqq
   have hnb := blk_grown hnb hgA (Kd.R_ne hrow hnb (by decide))
   have hS := hS.grown hgA hS.size (fun k hk => hrow.1 k hk)
   refine hK.out _ _ (by rw [HN5.out]; exact hS) (fun _ => ?_)
   clear hK K9 hgA hatA hrow hgb
   simp only [Act.put, List.setIfInBounds_toArray, List.set_cons_zero, List.set_cons_succ]
   change wpAnyH _ _ _ _ _ 2 #[true, true, true, true, true, true, true, true, true, true, true, true, false, true, false] _ _
   refine wpAnyH_take (i := 12) (oi := ⟨some 29, _, _, _, _, _⟩) (v := ?_) rfl (by kernel_rfl) (by kernel_rfl) (by kernel_rfl) (fun _ _ _ h => h) (Or.inl ⟨by rfl, ?_⟩) (by rw [HN5.out]; exact hS) ?_
   rotate_left
   focus
    intro w7 hSw
    go_simp
    all_goals (with_reducible rfl)
   simp only [Act.put, List.setIfInBounds_toArray, List.set_cons_zero, List.set_cons_succ]
   refine wpAnyH_ready (rs := [14]) (by kernel_rfl) (by simp) (AllReadyH.cons (o := ⟨none, _, _, _, _, _⟩) rfl (fun K9 hK => ?_) AllReadyH.nil)
  rotate_left 3
  refine AllReadyH.cons (o := ⟨some 27, _, _, _, _, _⟩) rfl (fun K9 hK => ?_) ?_
  focus
   go_simp
   have hgb := blk_new V0 (.cells #[.int .i64 i, .int .i64 o] 69)
   have hleB := hS.size
   have hS9 := below_alloc hS (.cells #[.int .i64 i, .int .i64 o] 69)
   refine hK.out _ _ (by rw [HN5.out]; exact hS9) (fun _ => ?_)
   clear hK K9 hS
   have hS := hS9
   clear hS9
   generalize V0.alloc (.cells #[.int .i64 i, .int .i64 o] 69) = V1 at hS hgb ⊢
   generalize V0.heap.size = gb at hleB hgb ⊢
   change wpAnyH _ _ _ _ _ 5 #[true, true, true, true, true, true, false, true, true, true, true, false, false, false, false] _ _
   refine wpAnyH_ready (rs := [6, 13]) (by kernel_rfl) (by simp) ?_
   refine AllReadyH.cons (o := ⟨some 23, _, _, _, _, _⟩) rfl (fun K9 hK => ?_) ?_
   focus
    go_simp
    refine (slices_Clone_api_Hop_api_Hop.calls A2 c2 l l _ (Kd.C_below HR2.out (below_step HB5.out hS)) HQ2.out HCL.out).mono ?_
    rintro e V2 ⟨v3, rfl, hrow, hbo⟩
    obtain ⟨Ao, co, eo⟩ := Kd.R_slice hrow
    subst eo
    have hrow := Kd.R_mono (ok' := fun k => w5.heap.size ≤ k) (Kd.R_lower (base' := w.heap.size) (Kd.R_bound hrow) (Nat.le_trans HB5.out.size hS.size)) (fun k hk => Nat.le_trans hS.size hk.2.1)
    have hgb := blk_below hgb hbo
    have hS := below_step hS hbo
    refine hK.out _ _ (by rw [HN5.out]; exact hS) (fun _ => ?_)
    clear hK K9 hbo
    change wpAnyH _ _ _ _ _ 4 #[true, true, true, true, true, true, true, true, true, true, true, false, false, false, false] _ _
    refine wpAnyH_ready (rs := [11, 13]) (by kernel_rfl) (by simp) ?_
    refine AllReadyH.cons (o := ⟨some 28, _, _, _, _, _⟩) rfl (fun K9 hK => ?_) ?_
    focus
     rw [if_pos (by rfl)]
     refine wpOper_append_R k69 _ _ 38 69 _ 16 rfl Tryd.underlying38 info69 rfl (by decide) (by decide) w.heap.size _ l (⟨i, o⟩ : S69) [.int .i64 i, .int .i64 o] (fun k => w5.heap.size ≤ k) (fun _ => False) rfl ⟨gb, 0, none⟩ 1 rfl (k69_mkM _ _ _ (⟨i, o⟩ : S69)) (fun _ h => h.elim) (fun k hk => Nat.le_trans hS.size hk) (hop_cells _ _ _ _ hgb) hrow (Nat.le_trans HB5.out.size hS.size) HLL.out ?_
     intro v9 V3 hra hgA hatA
     obtain ⟨Aq, cq, eqq⟩ := Kd.R_slice hra
     subst eqq
     have hS := hS.grown hgA hS.size (fun k hk => hrow.1 k hk)
     refine hK.out _ _ (by rw [HN5.out]; exact hS) (fun _ => ?_)
     clear hK K9 hgA hatA hrow hgb
     simp only [Act.put, List.setIfInBounds_toArray, List.set_cons_zero, List.set_cons_succ]
     change wpAnyH _ _ _ _ _ 3 #[true, true, true, true, true, true, true, true, true, true, true, true, false, false, false] _ _
     refine wpAnyH_take (i := 12) (oi := ⟨some 29, _, _, _, _, _⟩) (v := ?_) rfl (by kernel_rfl) (by kernel_rfl) (by kernel_rfl) (fun _ _ _ h => h) (Or.inl ⟨by rfl, ?_⟩) (by rw [HN5.out]; exact hS) ?_
     rotate_left
     focus
      intro w7 hSw
      go_simp
      all_goals (with_reducible rfl)
     simp only [Act.put, List.setIfInBounds_toArray, List.set_cons_zero, List.set_cons_succ]
     refine wpAnyH_ready (rs := [13]) (by kernel_rfl) (by simp) ?_
     refine AllReadyH.cons (o := ⟨some 9, _, _, _, _, _⟩) rfl (fun K9 hK => ?_) AllReadyH.nil
     go_simp
     have hnb := blk_new V3 (.cells #[.int .i64 0, .int .i64 0, .slice none 0 0] 40)
     have hleL := hS.size
     have hS9 := below_alloc hS (.cells #[.int .i64 0, .int .i64 0, .slice none 0 0] 40)
     have hra := Kd.R_alloc hra (.cells #[.int .i64 0, .int .i64 0, .slice none 0 0] 40)
     refine hK.out _ _ (by rw [HN5.out]; exact hS9) (fun _ => ?_)
     clear hK K9 hS
     have hS := hS9
     clear hS9
     generalize V3.alloc (.cells #[.int .i64 0, .int .i64 0, .slice none 0 0] 40) = V4 at hS hnb hra ⊢
     generalize V3.heap.size = nb at hleL hnb ⊢
     change wpAnyH _ _ _ _ _ 1 #[true, true, true, true, true, true, true, true, true, true, true, true, true, true, false] _ _
     refine wpAnyH_ready (rs := [14]) (by kernel_rfl) (by simp) (AllReadyH.cons (o := ⟨none, _, _, _, _, _⟩) rfl (fun K9 hK => ?_) AllReadyH.nil)
    rotate_left 1
    refine AllReadyH.cons (o := ⟨some 9, _, _, _, _, _⟩) rfl (fun K9 hK => ?_) AllReadyH.nil
    go_simp
    have hnb := blk_new V2 (.cells #[.int .i64 0, .int .i64 0, .slice none 0 0] 40)
    have hleL := hS.size
    have hS9 := below_alloc hS (.cells #[.int .i64 0, .int .i64 0, .slice none 0 0] 40)
    have hrow := Kd.R_alloc hrow (.cells #[.int .i64 0, .int .i64 0, .slice none 0 0] 40)
    have hgb := blk_alloc hgb (.cells #[.int .i64 0, .int .i64 0, .slice none 0 0] 40)
    refine hK.out _ _ (by rw [HN5.out]; exact hS9) (fun _ => ?_)
    clear hK K9 hS
    have hS := hS9
    clear hS9
    generalize V2.alloc (.cells #[.int .i64 0, .int .i64 0, .slice none 0 0] 40) = V3 at hS hnb hrow hgb ⊢
    generalize V2.heap.size = nb at hleL hnb ⊢
    change wpAnyH _ _ _ _ _ 3 #[true, true, true, true, true, true, true, true, true, true, true, false, false, true, false] _ _
    refine wpAnyH_ready (rs := [11]) (by kernel_rfl) (by simp) ?_
    refine AllReadyH.cons (o := ⟨some 28, _, _, _, _, _⟩) rfl (fun K9 hK => ?_) AllReadyH.nil
    rw [if_pos (by rfl)]
    refine wpOper_append_R k69 _ _ 38 69 _ 16 rfl Tryd.underlying38 info69 rfl (by decide) (by decide) w.heap.size _ l (⟨i, o⟩ : S69) [.int .i64 i, .int .i64 o] (fun k => w5.heap.size ≤ k) (fun _ => False) rfl ⟨gb, 0, none⟩ 1 rfl (k69_mkM _ _ _ (⟨i, o⟩ : S69)) (fun _ h => h.elim) (fun k hk => Nat.le_trans hS.size hk) (hop_cells _ _ _ _ hgb) hrow (Nat.le_trans HB5.out.size hS.size) HLL.out ?_
    intro v9 V4 hra hgA hatA
    obtain ⟨Aq, cq, eqq⟩ := Kd.R_slice hra
    subst eqq
    have hnb := blk_grown hnb hgA (Kd.R_ne hrow hnb (by decide))
    have hS := hS.grown hgA hS.size (fun k hk => hrow.1 k hk)
    refine hK.out _ _ (by rw [HN5.out]; exact hS) (fun _ => ?_)
    clear hK K9 hgA hatA hrow hgb
    simp only [Act.put, List.setIfInBounds_toArray, List.set_cons_zero, List.set_cons_succ]
    change wpAnyH _ _ _ _ _ 2 #[true, true, true, true, true, true, true, true, true, true, true, true, false, true, false] _ _
    refine wpAnyH_take (i := 12) (oi := ⟨some 29, _, _, _, _, _⟩) (v := ?_) rfl (by kernel_rfl) (by kernel_rfl) (by kernel_rfl) (fun _ _ _ h => h) (Or.inl ⟨by rfl, ?_⟩) (by rw [HN5.out]; exact hS) ?_
    rotate_left
    focus
     intro w7 hSw
     go_simp
     all_goals (with_reducible rfl)
    simp only [Act.put, List.setIfInBounds_toArray, List.set_cons_zero, List.set_cons_succ]
    refine wpAnyH_ready (rs := [14]) (by kernel_rfl) (by simp) (AllReadyH.cons (o := ⟨none, _, _, _, _, _⟩) rfl (fun K9 hK => ?_) AllReadyH.nil)
   rotate_left 2
   refine AllReadyH.cons (o := ⟨some 9, _, _, _, _, _⟩) rfl (fun K9 hK => ?_) AllReadyH.nil
   go_simp
   have hnb := blk_new V1 (.cells #[.int .i64 0, .int .i64 0, .slice none 0 0] 40)
   have hleL := hS.size
   have hS9 := below_alloc hS (.cells #[.int .i64 0, .int .i64 0, .slice none 0 0] 40)
   have hgb := blk_alloc hgb (.cells #[.int .i64 0, .int .i64 0, .slice none 0 0] 40)
   refine hK.out _ _ (by rw [HN5.out]; exact hS9) (fun _ => ?_)
   clear hK K9 hS
   have hS := hS9
   clear hS9
   generalize V1.alloc (.cells #[.int .i64 0, .int .i64 0, .slice none 0 0] 40) = V2 at hS hnb hgb ⊢
   generalize V1.heap.size = nb at hleL hnb ⊢
   change wpAnyH _ _ _ _ _ 4 #[true, true, true, true, true, true, false, true, true, true, true, false, false, true, false] _ _
   refine wpAnyH_ready (rs := [6]) (by kernel_rfl) (by simp) ?_
   refine AllReadyH.cons (o := ⟨some 23, _, _, _, _, _⟩) rfl (fun K9 hK => ?_) AllReadyH.nil
   go_simp
   refine (slices_Clone_api_Hop_api_Hop.calls A2 c2 l l _ (Kd.C_below HR2.out (below_step HB5.out hS)) HQ2.out HCL.out).mono ?_
   rintro e V3 ⟨v3, rfl, hrow, hbo⟩
   obtain ⟨Ao, co, eo⟩ := Kd.R_slice hrow
   subst eo
   have hrow := Kd.R_mono (ok' := fun k => w5.heap.size ≤ k) (Kd.R_lower (base' := w.heap.size) (Kd.R_bound hrow) (Nat.le_trans HB5.out.size hS.size)) (fun k hk => Nat.le_trans hS.size hk.2.1)
   have hgb := blk_below hgb hbo
   have hnb := blk_below hnb hbo
   have hS := below_step hS hbo
   refine hK.out _ _ (by rw [HN5.out]; exact hS) (fun _ => ?_)
   clear hK K9 hbo
   change wpAnyH _ _ _ _ _ 3 #[true, true, true, true, true, true, true, true, true, true, true, false, false, true, false] _ _
   refine wpAnyH_ready (rs := [11]) (by kernel_rfl) (by simp) ?_
   refine AllReadyH.cons (o := ⟨some 28, _, _, _, _, _⟩) rfl (fun K9 hK => ?_) AllReadyH.nil
   rw [if_pos (by rfl)]
   refine wpOper_append_R k69 _ _ 38 69 _ 16 rfl Tryd.underlying38 info69 rfl (by decide) (by decide) w.heap.size _ l (⟨i, o⟩ : S69) [.int .i64 i, .int .i64 o] (fun k => w5.heap.size ≤ k) (fun _ => False) rfl ⟨gb, 0, none⟩ 1 rfl (k69_mkM _ _ _ (⟨i, o⟩ : S69)) (fun _ h => h.elim) (fun k hk => Nat.le_trans hS.size hk) (hop_cells _ _ _ _ hgb) hrow (Nat.le_trans HB5.out.size hS.size) HLL.out ?_
   intro v9 V4 hra hgA hatA
   obtain ⟨Aq, cq, eqq⟩ := Kd.R_slice hra
   subst eqq
   have hnb := blk_grown hnb hgA (Kd.R_ne hrow hnb (by decide))
   have hS := hS.grown hgA hS.size (fun k hk => hrow.1 k hk)
   refine hK.out _ _ (by rw [HN5.out]; exact hS) (fun _ => ?_)
   clear hK K9 hgA hatA hrow hgb
   simp only [Act.put, List.setIfInBounds_toArray, List.set_cons_zero, List.set_cons_succ]
   change wpAnyH _ _ _ _ _ 2 #[true, true, true, true, true, true, true, true, true, true, true, true, false, true, false] _ _
   refine wpAnyH_take (i := 12) (oi := ⟨some 29, _, _, _, _, _⟩) (v := ?_) rfl (by kernel_rfl) (by kernel_rfl) (by kernel_rfl) (fun _ _ _ h => h) (Or.inl ⟨by rfl, ?_⟩) (by rw [HN5.out]; exact hS) ?_
   rotate_left
   focus
    intro w7 hSw
    go_simp
    all_goals (with_reducible rfl)
   simp only [Act.put, List.setIfInBounds_toArray, List.set_cons_zero, List.set_cons_succ]
   refine wpAnyH_ready (rs := [14]) (by kernel_rfl) (by simp) (AllReadyH.cons (o := ⟨none, _, _, _, _, _⟩) rfl (fun K9 hK => ?_) AllReadyH.nil)
  rotate_left 3
  refine AllReadyH.cons (o := ⟨some 9, _, _, _, _, _⟩) rfl (fun K9 hK => ?_) AllReadyH.nil
  go_simp
  have hnb := blk_new V0 (.cells #[.int .i64 0, .int .i64 0, .slice none 0 0] 40)
  have hleL := hS.size
  have hS9 := below_alloc hS (.cells #[.int .i64 0, .int .i64 0, .slice none 0 0] 40)
  refine hK.out _ _ (by rw [HN5.out]; exact hS9) (fun _ => ?_)
  clear hK K9 hS
  have hS := hS9
  clear hS9
  generalize V0.alloc (.cells #[.int .i64 0, .int .i64 0, .slice none 0 0] 40) = V1 at hS hnb ⊢
  generalize V0.heap.size = nb at hleL hnb ⊢
  change wpAnyH _ _ _ _ _ 5 #[true, true, true, true, true, true, false, true, true, true, false, false, false, true, false] _ _
  refine wpAnyH_ready (rs := [6, 10]) (by kernel_rfl) (by simp) ?_
  refine AllReadyH.cons (o := ⟨some 23, _, _, _, _, _⟩) rfl (fun K9 hK => ?_) ?_
  focus
   go_simp
   refine (slices_Clone_api_Hop_api_Hop.calls A2 c2 l l _ (Kd.C_below HR2.out (below_step HB5.out hS)) HQ2.out HCL.out).mono ?_
   rintro e V2 ⟨v3, rfl, hrow, hbo⟩
   obtain ⟨Ao, co, eo⟩ := Kd.R_slice hrow
   subst eo
   have hrow := Kd.R_mono (ok' := fun k => w5.heap.size ≤ k) (Kd.R_lower (base' := w.heap.size) (Kd.R_bound hrow) (Nat.le_trans HB5.out.size hS.size)) (fun k hk => Nat.le_trans hS.size hk.2.1)
   have hnb := blk_below hnb hbo
   have hS := below_step hS hbo
   refine hK.out _ _ (by rw [HN5.out]; exact hS) (fun _ => ?_)
   clear hK K9 hbo
   change wpAnyH _ _ _ _ _ 4 #[true, true, true, true, true, true, true, true, true, true, false, false, false, true, false] _ _
   refine wpAnyH_ready (rs := [10]) (by kernel_rfl) (by simp) ?_
   refine AllReadyH.cons (o := ⟨some 27, _, _, _, _, _⟩) rfl (fun K9 hK => ?_) AllReadyH.nil
   go_simp
   have hgb := blk_new V2 (.cells #[.int .i64 i, .int .i64 o] 69)
   have hleB := hS.size
   have hS9 := below_alloc hS (.cells #[.int .i64 i, .int .i64 o] 69)
   have hrow := Kd.R_alloc hrow (.cells #[.int .i64 i, .int .i64 o] 69)
   have hnb := blk_alloc hnb (.cells #[.int .i64 i, .int .i64 o] 69)
   refine hK.out _ _ (by rw [HN5.out]; exact hS9) (fun _ => ?_)
   clear hK K9 hS
   have hS := hS9
   clear hS9
   generalize V2.alloc (.cells #[.int .i64 i, .int .i64 o] 69) = V3 at hS hgb hrow hnb ⊢
   generalize V2.heap.size = gb at hleB hgb ⊢
   change wpAnyH _ _ _ _ _ 3 #[true, true, true, true, true, true, true, true, true, true, true, false, false, true, false] _ _
   refine wpAnyH_ready (rs := [11]) (by kernel_rfl) (by simp) ?_
   refine AllReadyH.cons (o := ⟨some 28, _, _, _, _, _⟩) rfl (fun K9 hK => ?_) AllReadyH.nil
   rw [if_pos (by rfl)]
   refine wpOper_append_R k69 _ _ 38 69 _ 16 rfl Tryd.underlying38 info69 rfl (by decide) (by decide) w.heap.size _ l (⟨i, o⟩ : S69) [.int .i64 i, .int .i64 o] (fun k => w5.heap.size ≤ k) (fun _ => False) rfl ⟨gb, 0, none⟩ 1 rfl (k69_mkM _ _ _ (⟨i, o⟩ : S69)) (fun _ h => h.elim) (fun k hk => Nat.le_trans hS.size hk) (hop_cells _ _ _ _ hgb) hrow (Nat.le_trans HB5.out.size hS.size) HLL.out ?_
   intro v9 V4 hra hgA hatA
   obtain ⟨Aq, cq, eqq⟩ := Kd.R_slice hra
   subst eqq
   have hnb := blk_grown hnb hgA (Kd.R_ne hrow hnb (by decide))
   have hS := hS.grown hgA hS.size (fun k hk => hrow.1 k hk)
   refine hK.out _ _ (by rw [HN5.out]; exact hS) (fun _ => ?_)
   clear hK K9 hgA hatA hrow hgb
   simp only [Act.put, List.setIfInBounds_toArray, List.set_cons_zero, List.set_cons_succ]
   change wpAnyH _ _ _ _ _ 2 #[true, true, true, true, true, true, true, true, true, true, true, true, false, true, false] _ _
   refine wpAnyH_take (i := 12) (oi := ⟨some 29, _, _, _, _, _⟩) (v := ?_) rfl (by kernel_rfl) (by kernel_rfl) (by kernel_rfl) (fun _ _ _ h => h) (Or.inl ⟨by rfl, ?_⟩) (by rw [HN5.out]; exact hS) ?_
   rotate_left
   focus
    intro w7 hSw
    go_simp
    all_goals (with_reducible rfl)
   simp only [Act.put, List.setIfInBounds_toArray, List.set_cons_zero, List.set_cons_succ]
   refine wpAnyH_ready (rs := [14]) (by kernel_rfl) (by simp) (AllReadyH.cons (o := ⟨none, _, _, _, _, _⟩) rfl (fun K9 hK => ?_) AllReadyH.nil)
  rotate_left 1
  refine AllReadyH.cons (o := ⟨some 27, _, _, _, _, _⟩) rfl (fun K9 hK => ?_) AllReadyH.nil
  go_simp
  have hgb := blk_new V1 (.cells #[.int .i64 i, .int .i64 o] 69)
  have hleB := hS.size
  have hS9 := below_alloc hS (.cells #[.int .i64 i, .int .i64 o] 69)
  have hnb := blk_alloc hnb (.cells #[.int .i64 i, .int .i64 o] 69)
  refine hK.out _ _ (by rw [HN5.out]; exact hS9) (fun _ => ?_)
  clear hK K9 hS
  have hS := hS9
  clear hS9
  generalize V1.alloc (.cells #[.int .i64 i, .int .i64 o] 69) = V2 at hS hgb hnb ⊢
  generalize V1.heap.size = gb at hleB hgb ⊢
  change wpAnyH _ _ _ _ _ 4 #[true, true, true, true, true, true, false, true, true, true, true, false, false, true, false] _ _
  refine wpAnyH_ready (rs := [6]) (by kernel_rfl) (by simp) ?_
  refine AllReadyH.cons (o := ⟨some 23, _, _, _, _, _⟩) rfl (fun K9 hK => ?_) AllReadyH.nil
  go_simp
  refine (slices_Clone_api_Hop_api_Hop.calls A2 c2 l l _ (Kd.C_below HR2.out (below_step HB5.out hS)) HQ2.out HCL.out).mono ?_
  rintro e V3 ⟨v3, rfl, hrow, hbo⟩
  obtain ⟨Ao, co, eo⟩ := Kd.R_slice hrow
  subst eo
  have hrow := Kd.R_mono (ok' := fun k => w5.heap.size ≤ k) (Kd.R_lower (base' := w.heap.size) (Kd.R_bound hrow) (Nat.le_trans HB5.out.size hS.size)) (fun k hk => Nat.le_trans hS.size hk.2.1)
  have hgb := blk_below hgb hbo
  have hnb := blk_below hnb hbo
  have hS := below_step hS hbo
  refine hK.out _ _ (by rw [HN5.out]; exact hS) (fun _ => ?_)
  clear hK K9 hbo
  change wpAnyH _ _ _ _ _ 3 #[true, true, true, true, true, true, true, true, true, true, true, false, false, true, false] _ _
  refine wpAnyH_ready (rs := [11]) (by kernel_rfl) (by simp) ?_
  refine AllReadyH.cons (o := ⟨some 28, _, _, _, _, _⟩) rfl (fun K9 hK => ?_) AllReadyH.nil
  rw [if_pos (by rfl)]
  refine wpOper_append_R k69 _ _ 38 69 _ 16 rfl Tryd.underlying38 info69 rfl (by decide) (by decide) w.heap.size _ l (⟨i, o⟩ : S69) [.int .i64 i, .int .i64 o] (fun k => w5.heap.size ≤ k) (fun _ => False) rfl ⟨gb, 0, none⟩ 1 rfl (k69_mkM _ _ _ (⟨i, o⟩ : S69)) (fun _ h => h.elim) (fun k hk => Nat.le_trans hS.size hk) (hop_cells _ _ _ _ hgb) hrow (Nat.le_trans HB5.out.size hS.size) HLL.out ?_
  intro v9 V4 hra hgA hatA
  obtain ⟨Aq, cq, eqq⟩ := Kd.R_slice hra
  subst eqq
  have hnb := blk_grown hnb hgA (Kd.R_ne hrow hnb (by decide))
  have hS := hS.grown hgA hS.size (fun k hk => hrow.1 k hk)
  refine hK.out _ _ (by rw [HN5.out]; exact hS) (fun _ => ?_)
  clear hK K9 hgA hatA hrow hgb
  simp only [Act.put, List.setIfInBounds_toArray, List.set_cons_zero, List.set_cons_succ]
  change wpAnyH _ _ _ _ _ 2 #[true, true, true, true, true, true, true, true, true, true, true, true, false, true, false] _ _
  refine wpAnyH_take (i := 12) (oi := ⟨some 29, _, _, _, _, _⟩) (v := ?_) rfl (by kernel_rfl) (by kernel_rfl) (by kernel_rfl) (fun _ _ _ h => h) (Or.inl ⟨by rfl, ?_⟩) (by rw [HN5.out]; exact hS) ?_
  rotate_left
  focus
   intro w7 hSw
   go_simp
   all_goals (with_reducible rfl)
  simp only [Act.put, List.setIfInBounds_toArray, List.set_cons_zero, List.set_cons_succ]
  refine wpAnyH_ready (rs := [14]) (by kernel_rfl) (by simp) (AllReadyH.cons (o := ⟨none, _, _, _, _, _⟩) rfl (fun K9 hK => ?_) AllReadyH.nil)
  all_goals
   have n0x : V4.cell? ⟨nb, 0, none⟩ = some (.int .i64 0) := (blk_cell hnb 0).trans rfl
   have nf0x := blk_frozen hnb 0
   have n1x : V4.cell? ⟨nb, 1, none⟩ = some (.int .i64 0) := (blk_cell hnb 1).trans rfl
   have nf1x := blk_frozen hnb 1
   have n2x : V4.cell? ⟨nb, 2, none⟩ = some (.slice none 0 0) := (blk_cell hnb 2).trans rfl
   have nf2x := blk_frozen hnb 2
   go_simp
   have h1 := blk_put hnb 0 (.int .i64 a) rfl
   have h2 := blk_put h1 1 (.int .i64 b) rfl
   have h3 := blk_put h2 2 (.slice Aq (l.length + 1) cq) rfl
   have hS8 := below_set (j := 2) (v := .slice Aq (l.length + 1) cq) (below_set (j := 1) (v := .int .i64 b) (below_set (j := 0) (v := .int .i64 a) hS hleL) hleL) hleL
   have hr8 := Kd.R_set (Kd.R_set (Kd.R_set hra hnb (by decide) 0 (.int .i64 a)) h1 (by decide) 1 (.int .i64 b)) h2 (by decide) 2 (.slice Aq (l.length + 1) cq)
   generalize (((V4.setCell ⟨nb, 0, none⟩ (.int .i64 a)).setCell ⟨nb, 1, none⟩ (.int .i64 b)).setCell ⟨nb, 2, none⟩ (.slice Aq (l.length + 1) cq)) = V8 at h3 hS8 hr8 ⊢
   refine hK.out _ _ (by rw [HN5.out]; exact hS8) (fun _ => ?_)
   refine wpAnyH_done (by kernel_rfl) ?_ _
   rw [← HL2.out, HL2L.out] at hr8
   have HR8 := Aside0.mk hr8
   have HS8 := Aside0.mk hS8
   have H3 := Aside0.mk h3
   have hbz := blk_below HBZ.out hS8
   have HBZ8 := Aside0.mk hbz
   have hrd := Kd.R_reads' hr8
   have HRD := Aside0.mk hrd
   clear hK K9 h1 h2 hr8 hS8 hS hra hnb hleL hrd
   have p0x : V8.cell? ⟨nb, 0, none⟩ = some (.int .i64 a) := (blk_cell h3 0).trans rfl
   have p1x : V8.cell? ⟨nb, 1, none⟩ = some (.int .i64 b) := (blk_cell h3 1).trans rfl
   have p2x : V8.cell? ⟨nb, 2, none⟩ = some (.slice Aq (l.length + 1) cq) := (blk_cell h3 2).trans rfl
   have z0x : V8.cell? ⟨w.heap.size + 1, 0, none⟩ = some (.int .i64 0) := (blk_cell hbz 0).trans rfl
   have zf0x := blk_frozen hbz 0
   have z1x : V8.cell? ⟨w.heap.size + 1, 1, none⟩ = some (.int .i64 0) := (blk_cell hbz 1).trans rfl
   have zf1x := blk_frozen hbz 1
   have z2x : V8.cell? ⟨w.heap.size + 1, 2, none⟩ = some (.slice none 0 0) := (blk_cell hbz 2).trans rfl
   have zf2x := blk_frozen hbz 2
   clear h3 hbz n0x n1x n2x nf0x nf1x nf2x
   go_wp2_with (fail)
   have hc := ident_Check.calls a b Aq cq L2 (if k2 = true then 0 else 30) V8 HRD.out.2.2 (by rw [← HRD.out.1]; exact HRD.out.2.1) HCK2.out
   rw [HL2L.out] at hc
   refine hc.mono ?_
   rintro e w9 ⟨rfl, hb9⟩
   have hn9 := blk_below H3.out hb9
   have hbz := blk_below HBZ8.out hb9
   have HB9 := Aside0.mk (below_step (below_step HB5.out HS8.out) hb9)
   have HBZ9 := Aside0.mk hbz
   have HR9 := Aside0.mk (Kd.R_below HR8.out hb9)
   clear hc hb9 p0x p1x p2x z0x z1x z2x zf0x zf1x zf2x
   have p0x : w9.cell? ⟨nb, 0, none⟩ = some (.int .i64 a) := (blk_cell hn9 0).trans rfl
   have p1x : w9.cell? ⟨nb, 1, none⟩ = some (.int .i64 b) := (blk_cell hn9 1).trans rfl
   have p2x : w9.cell? ⟨nb, 2, none⟩ = some (.slice Aq (l.length + 1) cq) := (blk_cell hn9 2).trans rfl
   have z0x : w9.cell? ⟨w.heap.size + 1, 0, none⟩ = some (.int .i64 0) := (blk_cell hbz 0).trans rfl
   have zf0x := blk_frozen hbz 0
   have z1x : w9.cell? ⟨w.heap.size + 1, 1, none⟩ = some (.int .i64 0) := (blk_cell hbz 1).trans rfl
   have zf1x := blk_frozen hbz 1
   have z2x : w9.cell? ⟨w.heap.size + 1, 2, none⟩ = some (.slice none 0 0) := (blk_cell hbz 2).trans rfl
   have zf2x := blk_frozen hbz 2
   clear hn9 hbz
   have HNE := Aside0.mk (show ∀ k, w5.heap.size ≤ k → k ≠ w.heap.size + 1 from fun k hk => by have := HLX.out; have := HN5.out; omega)
   cases k2 with
   | false =>
    go_wp2
    refine bodyPost_ret (results_ct rfl _ _ (w.heap.size + 1) 40 #[.int .i64 0, .int .i64 0, .slice none 0 0] (0, 0) _ rfl (blk_put (blk_put (blk_put HBZ9.out 0 _ rfl) 1 _ rfl) 2 _ rfl) Tryd.underlying40 rfl (by kernel_rfl)) rfl ?_
    exact ⟨_, rfl, Kd.R_nil _ _ _ _ _, below_set (below_set (below_set HB9.out GE.out) GE.out) GE.out⟩
   | true =>
    go_wp2
    refine bodyPost_ret (results_ct rfl _ _ (w.heap.size + 1) 40 #[.int .i64 a, .int .i64 b, .slice Aq (l.length + 1) cq] (0, 0) _ rfl (blk_put (blk_put (blk_put HBZ9.out 0 _ rfl) 1 _ rfl) 2 _ rfl) Tryd.underlying40 rfl (by kernel_rfl)) rfl ?_
    exact ⟨_, rfl, Kd.R_mono (Kd.R_far (p := ⟨w.heap.size + 1, 2, none⟩) (Kd.R_far (p := ⟨w.heap.size + 1, 1, none⟩) (Kd.R_far (p := ⟨w.heap.size + 1, 0, none⟩) HR9.out HNE.out _) HNE.out _) HNE.out _) (fun _ _ => trivial), below_set (below_set (below_set HB9.out GE.out) GE.out) GE.out⟩
def ident_Child.f (a0_0 : Int) (a0_1 : Int) (l0_2 : List (S69)) (a1 : Int) (a2 : Int) : Option (Int × Int × List S69 × Int) := some (if (idOk a0_0 a0_1 l0_2 && idOk a0_0 a0_1 (l0_2 ++ [⟨a1, a2⟩])) = true then (a0_0, a0_1, l0_2 ++ [⟨a1, a2⟩], 0) else (0, 0, [], 30))
theorem ident_Child.calls (a0_0 : Int) (a0_1 : Int) (A0_2 : Option Addr) (c0_2 : Nat) (l0_2 : List (S69)) (a1 : Int) (a2 : Int) (r1 : Int) (r2 : Int) (r3 : List (S69)) (r4 : Int) (w : World) (hr0_2 : Kd.C k69 w A0_2 l0_2.length l0_2) (hc0_2 : l0_2.length ≤ c0_2) (h : ident_Child.f a0_0 a0_1 l0_2 a1 a2 = some (r1, r2, r3, r4)) :
  Calls Tryd.prog 19 #[.agg #[.int .i64 a0_0, .int .i64 a0_1, .slice A0_2 l0_2.length c0_2], .int .i64 a1, .int .i64 a2] w fun e w' => ∃ v2_ : Value, e = .returned (.tuple #[.agg #[.int .i64 r1, .int .i64 r2, v2_], .int .i64 r4]) ∧ Kd.R k69 69 w' w.heap.size (fun _ => True) v2_ r3 ∧ Below w.heap.size w w' := by
 unfold ident_Child.f at h
 have hq := ident_Child.at a0_0 a0_1 A0_2 c0_2 l0_2 a1 a2 w hr0_2 hc0_2
 by_cases hk : (idOk a0_0 a0_1 l0_2 && idOk a0_0 a0_1 (l0_2 ++ [⟨a1, a2⟩])) = true
 ·simp only [hk, if_true, Option.some.injEq, Prod.mk.injEq] at h hq
  obtain ⟨rfl, rfl, rfl, rfl⟩ := h
  exact hq
 ·simp only [hk] at h hq
  simp only [Bool.false_eq_true, if_false, Option.some.injEq, Prod.mk.injEq] at h hq
  obtain ⟨rfl, rfl, rfl, rfl⟩ := h
  exact hq

/-! ### dues_children_1: function 67, by hand -/
attribute [local go_sem] Oper.semAt_some
structure YC where
 i : Nat
 a : Int
 b : Int
 v : Value
 h : List S69
def YC.enc (y : YC) : Array Value := #[.int .i64 (y.i : Int), .agg #[.int .i64 y.a, .int .i64 y.b, y.v]]
def YC.strip (y : YC) : Nat × Int × Int × List S69 := (y.i, y.a, y.b, y.h)
def dueHops (x : S50) (i : Nat) : List S69 := x.f0.f2 ++ [⟨(i : Int), (x.f1.f1.getD i z60).f1⟩]
def dueKidOk (x : S50) (i : Nat) : Bool := askAt x i && idOk x.f0.f0 x.f0.f1 x.f0.f2 && idOk x.f0.f0 x.f0.f1 (dueHops x i)
def dueKid (x : S50) (i : Nat) : Option (Nat × Int × Int × List S69) := if dueKidOk x i = true then some (i, x.f0.f0, x.f0.f1, dueHops x i) else none
def dueKids (x : S50) (k : Nat) : List (Nat × Int × Int × List S69) := (List.range k).filterMap (dueKid x)
theorem ident_Child_f (a b : Int) (l : List S69) (i o : Int) : ident_Child.f a b l i o = some (if (idOk a b l && idOk a b (l ++ [⟨i, o⟩])) = true then (a, b, l ++ [⟨i, o⟩], 0) else (0, 0, [], 30)) := rfl
def YP (n : Nat) (pre : List YC) (y : YC) (W0 W1 : World) : Prop := pre.length ≤ y.i ∧ y.i < n ∧ Kd.R k69 69 W1 W0.heap.size (fun _ => True) y.v y.h
set_option maxRecDepth 100000 in
set_option maxHeartbeats 2000000 in
theorem children_1_in (x : S50) (gs : Nat) (w : World) (A2 : Option Addr) (c2 : Nat) (A4 : Option Addr) (c4 : Nat) (OB : Array Value) (TB : Nat)
  (h0 : OB[0]? = some (.int .i64 x.f0.f0)) (h1 : OB[1]? = some (.int .i64 x.f0.f1)) (h2 : OB[2]? = some (.slice A2 x.f0.f2.length c2)) (h4 : OB[4]? = some (.slice A4 x.f1.f1.length c4))
  (r2 : Kd.C k69 w A2 x.f0.f2.length x.f0.f2) (q2 : x.f0.f2.length ≤ c2) (r4 : Kd.C k60 w A4 x.f1.f1.length x.f1.f1)
  (l : Nat) (J : List YC → World → Prop) (W : World) (hW : Below w.heap.size w W) (hG : W.heap[gs]? = some (.cells OB TB (0, 0))) (hJ : ∀ pre A B, J pre A → Below A.heap.size A B → J pre B)
  (hY : ∀ pre y W0 W1, J pre W0 → Below W0.heap.size W0 W1 → YP x.f1.f1.length pre y W0 W1 → YieldAt Fence.wide 0 Tryd.prog l y.enc W1 (fun e W' => e = .returned (.bool true) ∧ J (pre ++ [y]) W' ∧ (Below w.heap.size W1 W' ∧ W'.heap[gs]? = W1.heap[gs]?)))
  (hJ0 : J [] W) :
  CallsIn Fence.wide 0 Tryd.prog 67 (#[.func (.yield l) #[] #[]] ++ #[.pointer (some ⟨gs, 0, none⟩)]) W (fun e W' => (∃ v, e = .returned v) ∧ ∃ xs : List YC, xs.map YC.strip = dueKids x x.f1.f1.length ∧ J xs W') := by
 have HJ := Aside0.mk hJ
 have HY := Aside0.mk hY
 have HW := Aside0.mk hW
 have HR2 := Aside0.mk r2
 have HR4 := Aside0.mk r4
 have HQ2 := Aside0.mk q2
 have hm := Kd.C_max r4
 have g4 := (blk_cell hG 4).trans h4
 have HG0 := Aside0.mk hG
 have H0 := Aside0.mk h0
 have H1 := Aside0.mk h1
 have H2 := Aside0.mk h2
 clear hJ hY r2 r4 q2 hG h0 h1 h2 h4
 refine callsIn_of_wp Tryd.func67 rfl trivial ?_ rfl
 simp only [Tryd.ntmps67, List.size_toArray, List.length_cons, List.length_nil, Nat.reduceAdd, Nat.reduceSub, Array.replicate_succ, Array.replicate_zero, List.push_toArray, List.append_toArray, List.nil_append, List.cons_append]
 gi_wp2
 gi_loopw [11] (fun v wr => ∃ (k : Nat) (ys : List YC), v = .int .i64 (k : Int) ∧ k ≤ x.f1.f1.length ∧ ys.map YC.strip = dueKids x k ∧ J ys wr ∧ Below w.heap.size w wr ∧ wr.heap[gs]? = some (.cells OB TB (0, 0))) (fun v _ => x.f1.f1.length - (intOf v).toNat)
 case atStart => exact ⟨0, [], rfl, Nat.zero_le _, rfl, hJ0, hW, HG0.out⟩
 case round =>
  obtain ⟨k, ys, rfl, hk, hys, hJs, hb, hg⟩ := hrel
  have HG := Aside0.mk hg
  clear hg
  by_cases hlt : k < x.f1.f1.length
  ·have g0 := (blk_cell HG.out 0).trans H0.out
   have g1 := (blk_cell HG.out 1).trans H1.out
   have g2 := (blk_cell HG.out 2).trans H2.out
   obtain ⟨ad, he, hx0, hx1, hx2, hx3, hx4, hx5, hx6⟩ := at_T60 (Kd.C_below HR4.out hb) (k : Int) (by omega) (by omega)
   subst he
   simp only [Int.toNat_natCast] at hx0 hx1 hx2 hx3 hx4 hx5 hx6
   obtain ⟨s, hs⟩ : ∃ s, s = rd_T60 x.f1.f1 (k : Int) := ⟨_, rfl⟩
   rw [← hs] at hx0 hx1 hx2 hx3 hx4 hx5 hx6
   have hs' : x.f1.f1.getD k z60 = s := by rw [hs]; rfl
   have HSS := Aside0.mk hs'
   obtain ⟨be, hbe⟩ : ∃ b, s.f2.toList.isEmpty = b := ⟨_, rfl⟩
   obtain ⟨O, hO⟩ : ∃ O, O = (Obj.cells #[.int .i64 s.f0.f0, .string s.f0.f1, .int .i64 s.f0.f2, .int .i64 s.f1, .string s.f2, .int .i64 s.f3, .int .i64 s.f4] 60) := ⟨_, rfl⟩
   have hba : Below wr.heap.size wr (wr.alloc O) := below_alloc (Below.refl _ _) _
   have e0 := pw_cell_below hba g0
   have e1 := pw_cell_below hba g1
   have e2 := pw_cell_below hba g2
   obtain ⟨W2, hW2⟩ : ∃ W2, W2 = wr.alloc O := ⟨_, rfl⟩
   have HWB := Aside0.mk (show Below wr.heap.size wr W2 by rw [hW2]; exact hba)
   have hask : askAt x k = !be := by unfold askAt askS; rw [hs', hbe]
   have HASK := Aside0.mk hask
   rw [hO] at e0 e1 e2
   rw [hO] at hW2
   have HW2 := Aside0.mk hW2
   clear hs hs' hO hba hW2 hask
   cases be with
   | true =>
    gi_wp2
    go_roundw
    case rel =>
     refine ⟨k + 1, ys, by go_num, by omega, ?_, HJ.out _ _ _ hJs (by rw [← HW2.out]; exact HWB.out), by rw [← HW2.out]; exact below_step hb HWB.out, by rw [← HW2.out]; exact blk_below HG.out HWB.out⟩
     rw [hys]
     simp [dueKids, List.range_succ, dueKid, dueKidOk, HASK.out]
    case measure => first | (simp [intOf]; done) | (simp [intOf]; omega)
   | false =>
    have hcf := ident_Child_f x.f0.f0 x.f0.f1 x.f0.f2 (k : Int) s.f1
    obtain ⟨bk, hbk⟩ : ∃ b, (idOk x.f0.f0 x.f0.f1 x.f0.f2 && idOk x.f0.f0 x.f0.f1 (x.f0.f2 ++ [⟨(k : Int), s.f1⟩])) = b := ⟨_, rfl⟩
    rw [hbk] at hcf
    have hkid : dueKidOk x k = bk := by unfold dueKidOk dueHops; rw [HSS.out, HASK.out, ← hbk]; rfl
    have hhops : dueHops x k = x.f0.f2 ++ [⟨(k : Int), s.f1⟩] := by unfold dueHops; rw [HSS.out]
    have HKID := Aside0.mk hkid
    obtain ⟨H, hH⟩ : ∃ H, x.f0.f2 ++ [(⟨(k : Int), s.f1⟩ : S69)] = H := ⟨_, rfl⟩
    rw [hH] at hcf hhops
    have HHOPS := Aside0.mk hhops
    clear hbk hkid hhops hH
    have hb2 : Below w.heap.size w W2 := below_step hb HWB.out
    have HB2 := Aside0.mk hb2
    clear hb2
    cases bk with
    | false =>
     have HCF := Aside0.mk (show ident_Child.f x.f0.f0 x.f0.f1 x.f0.f2 (k : Int) s.f1 = some (0, 0, [], 30) from hcf)
     clear hcf
     gi_wp2_with (fail)
     refine ⟨trivial, rfl, ?_⟩
     rw [← HW2.out]
     refine (callsIn_wide.2 (ident_Child.calls x.f0.f0 x.f0.f1 A2 c2 x.f0.f2 (k : Int) s.f1 0 0 [] 30 _ (Kd.C_below HR2.out HB2.out) HQ2.out HCF.out)).mono ?_
     rintro e w3 ⟨v2, rfl, hrow, hb3⟩
     obtain ⟨Ao, co, eo⟩ := Kd.R_slice hrow
     subst eo
     have HB3 := Aside0.mk (below_step HWB.out hb3)
     clear hrow hb3
     gi_wp2
     refine ⟨fun _ h => (by cases h), ?_⟩
     gi_wp2
     go_roundw
     case rel =>
      refine ⟨k + 1, ys, by go_num, by omega, ?_, HJ.out _ _ _ hJs (below_alloc HB3.out _), below_step hb (below_alloc HB3.out _), blk_below HG.out (below_alloc HB3.out _)⟩
      rw [hys]
      simp [dueKids, List.range_succ, dueKid, HKID.out]
     case measure => first | (simp [intOf]; done) | (simp [intOf]; omega)
    | true =>
     have HCF := Aside0.mk (show ident_Child.f x.f0.f0 x.f0.f1 x.f0.f2 (k : Int) s.f1 = some (x.f0.f0, x.f0.f1, H, 0) from hcf)
     clear hcf
     gi_wp2_with (fail)
     refine ⟨trivial, rfl, ?_⟩
     rw [← HW2.out]
     refine (callsIn_wide.2 (ident_Child.calls x.f0.f0 x.f0.f1 A2 c2 x.f0.f2 (k : Int) s.f1 x.f0.f0 x.f0.f1 H 0 _ (Kd.C_below HR2.out HB2.out) HQ2.out HCF.out)).mono ?_
     rintro e w3 ⟨v2, rfl, hrow, hb3⟩
     obtain ⟨Ao, co, eo⟩ := Kd.R_slice hrow
     subst eo
     have HB3 := Aside0.mk (below_step HWB.out hb3)
     obtain ⟨y, hy⟩ : ∃ y : YC, y = ⟨k, x.f0.f0, x.f0.f1, .slice Ao H.length co, H⟩ := ⟨_, rfl⟩
     have hle : ys.length ≤ k := by
      have h1 := congrArg List.length hys
      rw [List.length_map] at h1
      have h2 : (dueKids x k).length ≤ (List.range k).length := List.length_filterMap_le _ _
      rw [List.length_range] at h2
      omega
     have hyp : ∀ o, YP x.f1.f1.length ys y wr (w3.alloc o) := fun o => by
      rw [hy]
      exact ⟨hle, hlt, Kd.R_alloc (Kd.R_lower hrow HWB.out.size) o⟩
     clear hle
     obtain ⟨O3, hO3⟩ : ∃ O, O = (Obj.cells #[.int .i64 x.f0.f0, .int .i64 x.f0.f1, .slice Ao H.length co] 40) := ⟨_, rfl⟩
     obtain ⟨fn, tmps, assign, body, hyy, hR⟩ := HY.out ys y wr (w3.alloc O3) hJs (below_alloc HB3.out _) (hyp _)
     rw [hO3] at hyy hR
     rw [hy] at hyy
     dsimp only [YC.enc] at hyy
     have HRR := Aside0.mk hR
     have HYY := Aside0.mk hy
     clear hrow hb3 hyp hO3 hR hy
     gi_wp2
     refine ⟨rfl, ?_⟩
     refine HRR.out.mono ?_
     rintro e W5 ⟨rfl, hJ5, hk5⟩
     have HK5 := Aside0.mk hk5
     clear hk5
     gi_wp2
     go_roundw
     case rel =>
      refine ⟨k + 1, ys ++ [y], by go_num, by omega, ?_, hJ5, (below_step hb (below_alloc HB3.out _)).trans HK5.out.1, HK5.out.2.trans (blk_below HG.out (below_alloc HB3.out _))⟩
      rw [List.map_append, hys]
      simp [dueKids, List.range_succ, dueKid, HKID.out, HHOPS.out, HYY.out, YC.strip]
     case measure => first | (simp [intOf]; done) | (simp [intOf]; omega)
  ·have hkl : k = x.f1.f1.length := by omega
   gi_wp2
   go_end0
   exact ⟨⟨_, rfl⟩, ys, by rw [hys, hkl], hJs⟩

/-! ### state_May: function 8, by hand -/
def state_May.f (a0_0 : Int) (a0_1 : Int) (a0_2 : Int) (l0_3 : List (S104)) (l0_4 : List (S67)) (l0_5 : List (S47)) (l0_6 : List (S50)) : Option Int := if a0_0 < 0 then some 230 else none
set_option maxHeartbeats 1000000 in
set_option maxRecDepth 100000 in
theorem state_May.calls (a0_0 : Int) (a0_1 : Int) (a0_2 : Int) (A0_3 : Option Addr) (c0_3 : Nat) (l0_3 : List (S104)) (A0_4 : Option Addr) (c0_4 : Nat) (l0_4 : List (S67)) (A0_5 : Option Addr) (c0_5 : Nat) (l0_5 : List (S47)) (A0_6 : Option Addr) (c0_6 : Nat) (l0_6 : List (S50)) (r : Int) (w : World) (hr0_3 : Kd.C k104 w A0_3 l0_3.length l0_3) (hc0_3 : l0_3.length ≤ c0_3) (hr0_4 : Kd.C k67 w A0_4 l0_4.length l0_4) (hc0_4 : l0_4.length ≤ c0_4) (hr0_5 : Kd.C k47 w A0_5 l0_5.length l0_5) (hc0_5 : l0_5.length ≤ c0_5) (hr0_6 : Kd.C k50 w A0_6 l0_6.length l0_6) (hc0_6 : l0_6.length ≤ c0_6) (h : state_May.f a0_0 a0_1 a0_2 l0_3 l0_4 l0_5 l0_6 = some r) :
  Calls Tryd.prog 8 #[.agg #[.int .i64 a0_0, .int .i64 a0_1, .int .i64 a0_2, .slice A0_3 l0_3.length c0_3, .slice A0_4 l0_4.length c0_4, .slice A0_5 l0_5.length c0_5, .slice A0_6 l0_6.length c0_6]] w fun e w' => e = .returned (.int .i64 r) ∧ Below w.heap.size w w' := by
 unfold state_May.f at h
 by_cases h0 : a0_0 < 0
 ·rw [if_pos h0] at h
  obtain rfl : 230 = r := by simpa using h
  clear h
  have HB := Aside0.mk (Below.refl w.heap.size w)
  go_enter Tryd.func8, Tryd.ntmps8
  go_wp2
  go_ret
  refine ⟨rfl, ?_⟩
  repeat (first | exact Below.refl _ _ | exact HB.out | apply pw_below_drewN | apply below_alloc)
 ·rw [if_neg h0] at h
  cases h

/-! ### dues_All: function 7, by hand -/
def dues_All.f (a0_0 : Int) (a0_1 : Int) (a0_2 : Int) (l0_3 : List (S104)) (l0_4 : List (S67)) (l0_5 : List (S47)) (l0_6 : List (S50)) : Option (List S42) := if a0_0 < 0 then some [] else none
set_option maxHeartbeats 1000000 in
set_option maxRecDepth 100000 in
theorem dues_All.calls (a0_0 : Int) (a0_1 : Int) (a0_2 : Int) (A0_3 : Option Addr) (c0_3 : Nat) (l0_3 : List (S104)) (A0_4 : Option Addr) (c0_4 : Nat) (l0_4 : List (S67)) (A0_5 : Option Addr) (c0_5 : Nat) (l0_5 : List (S47)) (A0_6 : Option Addr) (c0_6 : Nat) (l0_6 : List (S50)) (r : List (S42)) (w : World) (hr0_3 : Kd.C k104 w A0_3 l0_3.length l0_3) (hc0_3 : l0_3.length ≤ c0_3) (hr0_4 : Kd.C k67 w A0_4 l0_4.length l0_4) (hc0_4 : l0_4.length ≤ c0_4) (hr0_5 : Kd.C k47 w A0_5 l0_5.length l0_5) (hc0_5 : l0_5.length ≤ c0_5) (hr0_6 : Kd.C k50 w A0_6 l0_6.length l0_6) (hc0_6 : l0_6.length ≤ c0_6) (h : dues_All.f a0_0 a0_1 a0_2 l0_3 l0_4 l0_5 l0_6 = some r) :
  Calls Tryd.prog 7 #[.agg #[.int .i64 a0_0, .int .i64 a0_1, .int .i64 a0_2, .slice A0_3 l0_3.length c0_3, .slice A0_4 l0_4.length c0_4, .slice A0_5 l0_5.length c0_5, .slice A0_6 l0_6.length c0_6]] w fun e w' => ∃ v0_ : Value, e = .returned (v0_) ∧ Kd.S k42 42 w' w.heap.size (fun _ => True) v0_ r ∧ Below w.heap.size w w' := by
 unfold dues_All.f at h
 by_cases h0 : a0_0 < 0
 ·rw [if_pos h0] at h
  obtain rfl := Option.some.inj h
  clear h
  have H3 := Aside0.mk hr0_3
  have H4 := Aside0.mk hr0_4
  have H5 := Aside0.mk hr0_5
  have H6 := Aside0.mk hr0_6
  have G3 := Aside0.mk hc0_3
  have G4 := Aside0.mk hc0_4
  have G5 := Aside0.mk hc0_5
  have G6 := Aside0.mk hc0_6
  have H0 := Aside0.mk h0
  clear hr0_3 hr0_4 hr0_5 hr0_6 hc0_3 hc0_4 hc0_5 hc0_6 h0
  go_enter Tryd.func7, Tryd.ntmps7
  go_wp2_with (fail)
  obtain ⟨W1, hW1⟩ : ∃ W, W = w.alloc (.cells #[.int .i64 a0_0, .int .i64 a0_1, .int .i64 a0_2, .slice A0_3 l0_3.length c0_3, .slice A0_4 l0_4.length c0_4, .slice A0_5 l0_5.length c0_5, .slice A0_6 l0_6.length c0_6] 29) := ⟨_, rfl⟩
  have HB1 := Aside0.mk (show Below w.heap.size w W1 by rw [hW1]; exact below_alloc (Below.refl _ _) _)
  rw [← hW1]
  clear hW1
  refine (state_May.calls a0_0 a0_1 a0_2 A0_3 c0_3 l0_3 A0_4 c0_4 l0_4 A0_5 c0_5 l0_5 A0_6 c0_6 l0_6 230 _ (Kd.C_below H3.out HB1.out) G3.out (Kd.C_below H4.out HB1.out) G4.out (Kd.C_below H5.out HB1.out) G5.out (Kd.C_below H6.out HB1.out) G6.out (by unfold state_May.f; rw [if_pos H0.out])).mono ?_
  rintro e w2 ⟨rfl, hb⟩
  have HB2 := Aside0.mk (below_step HB1.out hb)
  clear hb
  go_wp2
  go_ret
  exact ⟨_, rfl, Kd.S_nil _ _ _ _ _, HB2.out⟩
 ·rw [if_neg h0] at h
  cases h

end Go.Proofs.YtidobdhkncaljaaDoorK
