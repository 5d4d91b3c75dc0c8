-- made by hprint.py out of the translation and the hand texts
import Derived.Test.YtidobdhkncaljaaDoorKMv
import Derived.Test.YtidobdhkncaljaaDoorK0
import Derived.Test.YtidobdhkncaljaaDoorK2
import Derived.Test.YtidobdhkncaljaaDoorK3
import Derived.Test.YtidobdhkncaljaaDoorK4
namespace Go.Proofs.YtidobdhkncaljaaDoorK
open Go.RowKit Go.Proofs.YtidobdhkncaljaaDoorW.PrintWords Go.Proofs.YtidobdhkncaljaaDoorW.PrintLast Go.Proofs.YtidobdhkncaljaaDoorW.PrintMore
attribute [local go_sem] max2_int min2_int max_two min_two max_three min_three max_four min_four   -- for this text's walks alone
set_option linter.unusedVariables false
set_option linter.unusedSimpArgs false

/-! ### ident_Parent: function 27 -/
def ident_Parent.f (a0_0 : Int) (a0_1 : Int) (l0_2 : List (S69)) : Option (Int × Int × (List (S69)) × Int × Bool) := (ident_Check.f a0_0 a0_1 l0_2).bind fun t136 => (if t136 = 0 then (if (wrap64 ((l0_2.length : Int) - 1)) < 0 then (some (0, 0, ([] : List (S69)), 0, false)) else (if 0 ≤ (wrap64 ((l0_2.length : Int) - 1)) then (if (wrap64 ((l0_2.length : Int) - 1)) ≤ (l0_2.length : Int) then ((slices_Clone_api_Hop_api_Hop.f (l0_2.take ((wrap64 ((l0_2.length : Int) - 1)) : Int).toNat)).bind fun t141 => (if (wrap64 ((l0_2.length : Int) - 1)) < (l0_2.length : Int) then (some (a0_0, a0_1, t141, (rd_T69 l0_2 (wrap64 ((l0_2.length : Int) - 1))).f0, true)) else (none))) else (none)) else (none))) else (some (0, 0, ([] : List (S69)), 0, false)))
def ident_Parent.T4 : Bool × List (List Nat × List Nat) := (true, [([], []), ([0], [0]), ([], []), ([2], [2]), ([], []), ([4], [4]), ([], []), ([5, 6], [5, 6]), ([7], [7]), ([1, 3, 8], [1, 3, 8]), ([], []), ([10], [10]), ([], []), ([11, 12], [11, 12]), ([13], [13]), ([14], [14]), ([9, 8, 0, 1, 2, 3, 4, 5, 6, 7, 8, 9], [9]), ([15, 16, 0, 1, 2, 3, 4, 5, 6, 7, 8, 9, 10, 11, 12, 13, 14, 15, 16], [15]), ([17, 0, 1, 2, 3, 4, 5, 6, 7, 8, 9, 10, 11, 12, 13, 14, 15, 16, 17], [])])
def ident_Parent.B4 : List Nat := [0, 1, 0, 4, 0, 16, 0, 112, 240, 511, 0, 1024, 0, 7168, 15360, 31744, 1023, 131071, 262143]
theorem ident_Parent.tab4 : rtab .any (opsOf Tryd.f27 4) = ident_Parent.T4 := by kernel_rfl
theorem ident_Parent.bits4 : waitsOk ident_Parent.T4.2 ident_Parent.B4 = true := by kernel_rfl
set_option maxHeartbeats 8000000 in
set_option maxRecDepth 100000 in
theorem ident_Parent.calls (a0_0 : Int) (a0_1 : Int) (A0_2 : Option Addr) (c0_2 : Nat) (l0_2 : List (S69)) (r1 : Int) (r2 : Int) (r3 : List (S69)) (r4 : Int) (r5 : Bool) (w : World) (hr0_2 : Kd.C k69 w A0_2 l0_2.length l0_2) (hc0_2 : l0_2.length ≤ c0_2) (h : ident_Parent.f a0_0 a0_1 l0_2 = some (r1, r2, r3, r4, r5)) :
  Calls Tryd.prog 27 #[.agg #[.int .i64 a0_0, .int .i64 a0_1, .slice A0_2 l0_2.length c0_2]] w fun e w' => ∃ v2_ : Value, e = .returned (.tuple #[.agg #[.int .i64 r1, .int .i64 r2, v2_], .int .i64 r4, .bool r5]) ∧ Kd.R k69 69 w' w.heap.size (fun _ => True) v2_ r3 ∧ Below w.heap.size w w' := by
 have hu40 := Tryd.underlying40
 have HR0_2 := Aside0.mk hr0_2
 have HC0_2 := Aside0.mk hc0_2
 clear hr0_2 hc0_2
 have HB := Aside0.mk (Below.refl w.heap.size w)
 have H : ((ident_Check.f a0_0 a0_1 l0_2).bind fun t136 => (if t136 = 0 then (if (wrap64 ((l0_2.length : Int) - 1)) < 0 then (some (0, 0, ([] : List (S69)), 0, false)) else (if 0 ≤ (wrap64 ((l0_2.length : Int) - 1)) then (if (wrap64 ((l0_2.length : Int) - 1)) ≤ (l0_2.length : Int) then ((slices_Clone_api_Hop_api_Hop.f (l0_2.take ((wrap64 ((l0_2.length : Int) - 1)) : Int).toNat)).bind fun t141 => (if (wrap64 ((l0_2.length : Int) - 1)) < (l0_2.length : Int) then (some (a0_0, a0_1, t141, (rd_T69 l0_2 (wrap64 ((l0_2.length : Int) - 1))).f0, true)) else (none))) else (none)) else (none))) else (some (0, 0, ([] : List (S69)), 0, false)))) = some (r1, r2, r3, r4, r5) := h
 clear h
 replace H := Option.bind_eq_some_iff.mp H
 obtain ⟨t136, A20, H⟩ := H
 replace H : (if t136 = 0 then (if (wrap64 ((l0_2.length : Int) - 1)) < 0 then (some (0, 0, ([] : List (S69)), 0, false)) else (if 0 ≤ (wrap64 ((l0_2.length : Int) - 1)) then (if (wrap64 ((l0_2.length : Int) - 1)) ≤ (l0_2.length : Int) then ((slices_Clone_api_Hop_api_Hop.f (l0_2.take ((wrap64 ((l0_2.length : Int) - 1)) : Int).toNat)).bind fun t141 => (if (wrap64 ((l0_2.length : Int) - 1)) < (l0_2.length : Int) then (some (a0_0, a0_1, t141, (rd_T69 l0_2 (wrap64 ((l0_2.length : Int) - 1))).f0, true)) else (none))) else (none)) else (none))) else (some (0, 0, ([] : List (S69)), 0, false))) = some (r1, r2, r3, r4, r5) := H
 have A2 := Aside0.mk A20
 clear A20
 by_cases c3 : t136 = 0
 ·rw [if_pos c3] at H
  have c3b0 : (t136 == 0) = true := beq_iff_eq.mpr c3
  have c3b1 : (t136 != 0) = false := bne_eq_false_iff_eq.mpr c3
  clear c3
  by_cases c4 : (wrap64 ((l0_2.length : Int) - 1)) < 0
  ·rw [if_pos c4] at H
   have c4b0 : decide ((wrap64 ((l0_2.length : Int) - 1)) < 0) = true := decide_eq_true c4
   clear c4
   simp only [Option.some.injEq, Prod.mk.injEq] at H
   obtain ⟨rfl, rfl, rfl, rfl, rfl⟩ := H
   go_enter Tryd.func27, Tryd.ntmps27
   go_wp2_with (first | ((with_reducible refine gate_dst (N := 1) rfl ?_); refine box_event ?hg (N := 1) ?hd (cs := #[.int .i64 a0_0, .int .i64 a0_1, .slice A0_2 l0_2.length c0_2]) (t := 40) ?hr ?_; (case hd => rfl); (case hg => rfl); (case hr => first | (go_simp; done) | (go_simp; rfl)); intro gb134 hg w5 hbox hb; have n0_ := Aside0.mk (below_step (mvL0 HB.out) hb); have n1_ := Aside0.mk (hbox); have n2_ := Aside0.mk ((by rw [hg]; exact (below_size (mvL0 HB.out)) : w.heap.size ≤ gb134)); have n3_ := Aside0.mk ((by rw [hg]; exact (below_size (mvL0 HB.out)) : w.heap.size ≤ gb134)); clear HB; have HB := n0_; have BK134 := n1_; have GW134 := n2_; have GE134 := n3_; clear n0_ n1_ n2_ n3_; clear hb hbox hg) | ((with_reducible refine gate_dst (N := 2) rfl ?_); refine box_event ?hg (N := 2) ?hd (cs := #[.int .i64 0, .int .i64 0, .slice none 0 0]) (t := 40) ?hr ?_; (case hd => rfl); (case hg => rfl); (case hr => first | (go_simp; done) | (go_simp; rfl)); intro gb135 hg w6 hbox hb; have n0_ := Aside0.mk (blk_below (g := gb134) (o := .cells #[.int .i64 a0_0, .int .i64 a0_1, .slice A0_2 l0_2.length c0_2] 40 (0, 0)) (mvB BK134.out) hb); have n1_ := Aside0.mk (below_step (mvL1 HB.out GE134.out) hb); have n2_ := Aside0.mk (hbox); have n3_ := Aside0.mk ((by rw [hg]; exact (below_size (mvL1 HB.out GE134.out)) : w.heap.size ≤ gb135)); have n4_ := Aside0.mk ((by rw [hg]; exact (below_size (mvL1 HB.out GE134.out)) : w.heap.size ≤ gb135)); have n5_ := Aside0.mk ((by rw [hg]; exact Nat.ne_of_lt (blk_lt (g := gb134) (o := .cells #[.int .i64 a0_0, .int .i64 a0_1, .slice A0_2 l0_2.length c0_2] 40 (0, 0)) (mvB BK134.out)) : gb134 ≠ gb135)); have n6_ := Aside0.mk ((by rw [hg]; exact Nat.ne_of_gt (blk_lt (g := gb134) (o := .cells #[.int .i64 a0_0, .int .i64 a0_1, .slice A0_2 l0_2.length c0_2] 40 (0, 0)) (mvB BK134.out)) : gb135 ≠ gb134)); clear BK134; clear HB; have BK134 := n0_; have HB := n1_; have BK135 := n2_; have GW135 := n3_; have GE135 := n4_; have NB134_135 := n5_; have NB135_134 := n6_; clear n0_ n1_ n2_ n3_ n4_ n5_ n6_; clear hb hbox hg; have hnb7 := NB134_135.out; have hnc7 := NB135_134.out; have hcz8_0 : w6.cell? ⟨gb134, 0, none⟩ = some (.int .i64 a0_0) := (blk_cell BK134.out 0).trans rfl; have hcz8_1 : w6.cell? ⟨gb134, 1, none⟩ = some (.int .i64 a0_1) := (blk_cell BK134.out 1).trans rfl; have hcz8_2 : w6.cell? ⟨gb134, 2, none⟩ = some (.slice A0_2 l0_2.length c0_2) := (blk_cell BK134.out 2).trans rfl; have hfz8_0 := blk_frozen BK134.out 0; have hfz8_1 := blk_frozen BK134.out 1; have hfz8_2 := blk_frozen BK134.out 2) | ((with_reducible refine gate_callee (f := 30) rfl ?_); refine goesL_ (some 11) rfl rfl Tryd.func30 (by kernel_rfl) rfl #[.agg #[.int .i64 a0_0, .int .i64 a0_1, .slice A0_2 l0_2.length c0_2]] rfl (by (try simp only [List.map_toArray, List.map_cons, List.map_nil]); first | done | rfl | (simp only [List.length_drop, List.length_take]; rfl)) ?_; (with_reducible refine (ident_Check.calls a0_0 a0_1 _ _ l0_2 t136 _ ?side1 ?side2 A2.out).mono ?_); (case side1 => repeat (first | exact (Kd.C_below HR0_2.out HB.out) | (with_reducible refine Kd.C_alloc ?_ _) | (with_reducible refine Kd.C_drewN ?_ _) | (with_reducible refine Kd.C_drew ?_))); (case side2 => exact HC0_2.out); rintro e w9 ⟨rfl, hb⟩; refine ⟨_, rfl, ?_⟩; have n0_ := Aside0.mk (blk_below (g := gb134) (o := .cells #[.int .i64 a0_0, .int .i64 a0_1, .slice A0_2 l0_2.length c0_2] 40 (0, 0)) (mvB BK134.out) hb); have n1_ := Aside0.mk (blk_below (g := gb135) (o := .cells #[.int .i64 0, .int .i64 0, .slice none 0 0] 40 (0, 0)) (mvB BK135.out) hb); have n2_ := Aside0.mk (below_step (mvL2 HB.out GE134.out GE135.out) hb); clear BK134; clear BK135; clear HB; have BK134 := n0_; have BK135 := n1_; have HB := n2_; clear n0_ n1_ n2_; (try clear hb); (try clear hb2); (try clear hk); (try clear hi); have hcz10_0 : w9.cell? ⟨gb135, 0, none⟩ = some (.int .i64 0) := (blk_cell BK135.out 0).trans rfl; have hcz10_1 : w9.cell? ⟨gb135, 1, none⟩ = some (.int .i64 0) := (blk_cell BK135.out 1).trans rfl; have hcz10_2 : w9.cell? ⟨gb135, 2, none⟩ = some (.slice none 0 0) := (blk_cell BK135.out 2).trans rfl; have hfz10_0 := blk_frozen BK135.out 0; have hfz10_1 := blk_frozen BK135.out 1; have hfz10_2 := blk_frozen BK135.out 2))
   refine bodyPost_ret (results_ctt rfl _ _ gb135 40 #[.int .i64 0, .int .i64 0, .slice none 0 0] (0, 0) _ rfl (by (with_reducible repeat (first | refine blk_drewN ?_ _ | refine blk_drew ?_ | refine blk_alloc ?_ _)); refine blk_put (cs := #[.int .i64 0, .int .i64 0, .slice none 0 0]) ?_ 2 _ rfl; (with_reducible repeat (first | refine blk_drewN ?_ _ | refine blk_drew ?_ | refine blk_alloc ?_ _)); refine blk_put (cs := #[.int .i64 0, .int .i64 0, .slice none 0 0]) ?_ 1 _ rfl; (with_reducible repeat (first | refine blk_drewN ?_ _ | refine blk_drew ?_ | refine blk_alloc ?_ _)); refine blk_put (cs := #[.int .i64 0, .int .i64 0, .slice none 0 0]) ?_ 0 _ rfl; (with_reducible repeat (first | refine blk_drewN ?_ _ | refine blk_drew ?_ | refine blk_alloc ?_ _)); exact BK135.out) Tryd.underlying40 rfl (by kernel_rfl)) rfl ?_
   exact ⟨_, by first | rfl | (simp [errW_none, errW_some] <;> rfl) | (simp [*, errW_none, errW_some] <;> rfl) | (simp only [h_bne_nil, h_beq_nil] <;> rfl), by first | exact Kd.R_nil _ _ _ _ _ | exact Kd.N_nil _ _ _ _ _ | exact Kd.V_nil _ _ _ _ _ | exact Kd.Q_nil _ _ _ _ _ | exact Kd.S_nil _ _ _ _ _, by repeat (first | (with_reducible first | exact HB.out | apply below_alloc | apply pw_below_drewN | apply below_drew1 | refine below_set ?_ GE134.out | refine below_set ?_ GE135.out) | exact HB.out)⟩
  ·rw [if_neg c4] at H
   have c4b0 : decide ((wrap64 ((l0_2.length : Int) - 1)) < 0) = false := decide_eq_false c4
   clear c4
   obtain ⟨ji11, hji11⟩ : ∃ j_ : Int, (wrap64 ((l0_2.length : Int) - 1)) = j_ := ⟨_, rfl⟩
   replace H : (if 0 ≤ (ji11) then (if (ji11) ≤ (l0_2.length : Int) then ((slices_Clone_api_Hop_api_Hop.f (l0_2.take ((ji11) : Int).toNat)).bind fun t141 => (if (ji11) < (l0_2.length : Int) then (some (a0_0, a0_1, t141, (rd_T69 l0_2 (ji11)).f0, true)) else (none))) else (none)) else (none)) = some (r1, r2, r3, r4, r5) := by first | (rw [hji11] at H; exact H) | (simp only [hji11] at H ⊢; exact H)
   (try rw [hji11] at c4b0)
   (try rw [hji11] at A2)
   have hji11w : (IntKind.i64.wrap ((l0_2.length : Int) - 1)) = ji11 := (i64_w _).trans hji11
   by_cases c12 : 0 ≤ (ji11)
   ·rw [if_pos c12] at H
    have c12b0 := eq_true c12
    have c12b1 : decide (0 ≤ (ji11)) = true := decide_eq_true c12
    clear c12
    by_cases c13 : (ji11) ≤ (l0_2.length : Int)
    ·rw [if_pos c13] at H
     have c13b0 := eq_true c13
     have c13b1 : decide ((ji11) ≤ (l0_2.length : Int)) = true := decide_eq_true c13
     clear c13
     obtain ⟨y137, hy137⟩ : ∃ y_ : List (S69), y_ = (l0_2.take ((ji11) : Int).toNat) := ⟨_, rfl⟩
     replace H : ((slices_Clone_api_Hop_api_Hop.f y137).bind fun t141 => (if (ji11) < (l0_2.length : Int) then (some (a0_0, a0_1, t141, (rd_T69 l0_2 (ji11)).f0, true)) else (none))) = some (r1, r2, r3, r4, r5) := by first | (rw [hy137]; with_reducible exact H) | (have H2_ := (Option.bind_some _ _).symm.trans H; rw [hy137]; with_reducible exact H2_) | (have H2_ := (Option.bind_some _ _).symm.trans H; with_reducible exact H2_) | with_reducible exact H | (rw [hy137]; exact H) | exact H
     have Ny137 := Aside0.mk hy137
     clear hy137
     replace H := Option.bind_eq_some_iff.mp H
     obtain ⟨t141, A140, H⟩ := H
     replace H : (if (ji11) < (l0_2.length : Int) then (some (a0_0, a0_1, t141, (rd_T69 l0_2 (ji11)).f0, true)) else (none)) = some (r1, r2, r3, r4, r5) := H
     have A14 := Aside0.mk A140
     clear A140
     by_cases c15 : (ji11) < (l0_2.length : Int)
     ·rw [if_pos c15] at H
      have c15b0 : decide ((ji11) < (l0_2.length : Int)) = true := decide_eq_true c15
      clear c15
      simp only [Option.some.injEq, Prod.mk.injEq] at H
      obtain ⟨rfl, rfl, rfl, rfl, rfl⟩ := H
      go_enter Tryd.func27, Tryd.ntmps27
      try go_wp2_with (first | ((with_reducible refine gate_dst (N := 1) rfl ?_); refine box_event ?hg (N := 1) ?hd (cs := #[.int .i64 a0_0, .int .i64 a0_1, .slice A0_2 l0_2.length c0_2]) (t := 40) ?hr ?_; (case hd => rfl); (case hg => rfl); (case hr => first | (go_simp; done) | (go_simp; rfl)); intro gb134 hg w16 hbox hb; have n0_ := Aside0.mk (below_step (mvL0 HB.out) hb); have n1_ := Aside0.mk (hbox); have n2_ := Aside0.mk ((by rw [hg]; exact (below_size (mvL0 HB.out)) : w.heap.size ≤ gb134)); have n3_ := Aside0.mk ((by rw [hg]; exact (below_size (mvL0 HB.out)) : w.heap.size ≤ gb134)); clear HB; have HB := n0_; have BK134 := n1_; have GW134 := n2_; have GE134 := n3_; clear n0_ n1_ n2_ n3_; clear hb hbox hg) | ((with_reducible refine gate_dst (N := 2) rfl ?_); refine box_event ?hg (N := 2) ?hd (cs := #[.int .i64 0, .int .i64 0, .slice none 0 0]) (t := 40) ?hr ?_; (case hd => rfl); (case hg => rfl); (case hr => first | (go_simp; done) | (go_simp; rfl)); intro gb135 hg w17 hbox hb; have n0_ := Aside0.mk (blk_below (g := gb134) (o := .cells #[.int .i64 a0_0, .int .i64 a0_1, .slice A0_2 l0_2.length c0_2] 40 (0, 0)) (mvB BK134.out) hb); have n1_ := Aside0.mk (below_step (mvL1 HB.out GE134.out) hb); have n2_ := Aside0.mk (hbox); have n3_ := Aside0.mk ((by rw [hg]; exact (below_size (mvL1 HB.out GE134.out)) : w.heap.size ≤ gb135)); have n4_ := Aside0.mk ((by rw [hg]; exact (below_size (mvL1 HB.out GE134.out)) : w.heap.size ≤ gb135)); have n5_ := Aside0.mk ((by rw [hg]; exact Nat.ne_of_lt (blk_lt (g := gb134) (o := .cells #[.int .i64 a0_0, .int .i64 a0_1, .slice A0_2 l0_2.length c0_2] 40 (0, 0)) (mvB BK134.out)) : gb134 ≠ gb135)); have n6_ := Aside0.mk ((by rw [hg]; exact Nat.ne_of_gt (blk_lt (g := gb134) (o := .cells #[.int .i64 a0_0, .int .i64 a0_1, .slice A0_2 l0_2.length c0_2] 40 (0, 0)) (mvB BK134.out)) : gb135 ≠ gb134)); clear BK134; clear HB; have BK134 := n0_; have HB := n1_; have BK135 := n2_; have GW135 := n3_; have GE135 := n4_; have NB134_135 := n5_; have NB135_134 := n6_; clear n0_ n1_ n2_ n3_ n4_ n5_ n6_; clear hb hbox hg; have hnb18 := NB134_135.out; have hnc18 := NB135_134.out; have hcz19_0 : w17.cell? ⟨gb134, 0, none⟩ = some (.int .i64 a0_0) := (blk_cell BK134.out 0).trans rfl; have hcz19_1 : w17.cell? ⟨gb134, 1, none⟩ = some (.int .i64 a0_1) := (blk_cell BK134.out 1).trans rfl; have hcz19_2 : w17.cell? ⟨gb134, 2, none⟩ = some (.slice A0_2 l0_2.length c0_2) := (blk_cell BK134.out 2).trans rfl; have hfz19_0 := blk_frozen BK134.out 0; have hfz19_1 := blk_frozen BK134.out 1; have hfz19_2 := blk_frozen BK134.out 2) | ((with_reducible refine gate_callee (f := 30) rfl ?_); refine goesL_ (some 11) rfl rfl Tryd.func30 (by kernel_rfl) rfl #[.agg #[.int .i64 a0_0, .int .i64 a0_1, .slice A0_2 l0_2.length c0_2]] rfl (by (try simp only [List.map_toArray, List.map_cons, List.map_nil]); first | done | rfl | (simp only [List.length_drop, List.length_take]; rfl)) ?_; (with_reducible refine (ident_Check.calls a0_0 a0_1 _ _ l0_2 t136 _ ?side1 ?side2 A2.out).mono ?_); (case side1 => repeat (first | exact (Kd.C_below HR0_2.out HB.out) | (with_reducible refine Kd.C_alloc ?_ _) | (with_reducible refine Kd.C_drewN ?_ _) | (with_reducible refine Kd.C_drew ?_))); (case side2 => exact HC0_2.out); rintro e w20 ⟨rfl, hb⟩; refine ⟨_, rfl, ?_⟩; have n0_ := Aside0.mk (blk_below (g := gb134) (o := .cells #[.int .i64 a0_0, .int .i64 a0_1, .slice A0_2 l0_2.length c0_2] 40 (0, 0)) (mvB BK134.out) hb); have n1_ := Aside0.mk (blk_below (g := gb135) (o := .cells #[.int .i64 0, .int .i64 0, .slice none 0 0] 40 (0, 0)) (mvB BK135.out) hb); have n2_ := Aside0.mk (below_step (mvL2 HB.out GE134.out GE135.out) hb); clear BK134; clear BK135; clear HB; have BK134 := n0_; have BK135 := n1_; have HB := n2_; clear n0_ n1_ n2_; (try clear hb); (try clear hb2); (try clear hk); (try clear hi)))
      have n0_ := Aside0.mk (blk_drew BK134.out)
      have n1_ := Aside0.mk (blk_drew BK135.out)
      have n2_ := Aside0.mk (below_drew1 HB.out)
      clear BK134
      clear BK135
      clear HB
      have BK134 := n0_
      have BK135 := n1_
      have HB := n2_
      clear n0_ n1_ n2_
      have q22 : ((ji11) : Int) ≤ ((l0_2.length : Int) : Int) := of_decide_eq_true (by first | (with_reducible assumption) | assumption)
      obtain ⟨i022, hi022, _, hsz22, _⟩ := info_parts info69
      have hroom22 : l0_2.length ≤ c0_2 := HC0_2.out
      have hC22 : Kd.C k69 _ A0_2 l0_2.length l0_2 := HR0_2.out
      have hcut22 := cut_to (P := Tryd.prog) 38 69 .i64 Tryd.underlying38 hi022 A0_2 l0_2.length c0_2 (ji11) (of_decide_eq_true (by first | (with_reducible assumption) | assumption)) q22 hroom22
      have hr22 := Kd.C_take (m := ((ji11) : Int).toNat) hC22 (by omega)
      have hy22 : y137.length = ((ji11) : Int).toNat := (by rw [Ny137.out, List.length_take]; omega)
      rw [← Ny137.out] at hr22
      rw [← hy22] at hcut22
      have HR140 := Aside0.mk hr22
      have HC140 := Aside0.mk (show y137.length ≤ c0_2 from by omega)
      clear hr22 hC22 hroom22 hi022 hsz22
      have KY22 := Aside0.mk hy22
      clear hy22
      replace q22 := eq_true q22
      have p144 : 0 ≤ ((ji11) : Int) := of_decide_eq_true (by first | (with_reducible assumption) | assumption)
      have q144 : (ji11) < (l0_2.length : Int) := of_decide_eq_true (by first | (with_reducible assumption) | assumption)
      obtain ⟨ad144, e144, hx144_0, hx144_1⟩ := at_T69 HR0_2.out (ji11) p144 q144
      have hw144_1 := hx144_1
      have hw144_0 := hx144_0
      cases e144
      replace hx144_0 := (HB.out.cell (World.block_lt_of_cell? w _ hx144_0)).trans hx144_0
      replace hx144_1 := (HB.out.cell (World.block_lt_of_cell? w _ hx144_1)).trans hx144_1
      replace p144 := eq_true p144
      replace q144 := eq_true q144
      refine start_ (n := 19) (S := fun w' => w'.cell? ⟨gb134, 0, none⟩ = some (.int .i64 a0_0) ∧ w'.cell? ⟨gb134, 1, none⟩ = some (.int .i64 a0_1) ∧ w'.cell? ⟨gb134, 2, none⟩ = some (.slice (some ad144) l0_2.length c0_2) ∧ w'.cell? (ad144.add (((ji11)).toNat * 2)) = some (.int .i64 ((rd_T69 l0_2 (ji11)).f0)) ∧ w'.cell? ⟨(ad144.add (((ji11)).toNat * 2)).block, (ad144.add (((ji11)).toNat * 2)).off + 1, none⟩ = some (.int .i64 ((rd_T69 l0_2 (ji11)).f1))) (ds := []) #[false, false, false, false, false, false, false, false, false, false, false, false, false, false, false, false, false, false, false] (by kernel_rfl) rfl rfl ⟨(blk_cell BK134.out 0).trans rfl, (blk_cell BK134.out 1).trans rfl, (blk_cell BK134.out 2).trans rfl, ((HB.out.cell (World.block_lt_of_cell? w _ hw144_0)).trans hw144_0), ((HB.out.cell (World.block_lt_of_cell? w _ hw144_1)).trans hw144_1)⟩ (fun hHeld => ?_); refine with_tabW ident_Parent.tab4 ident_Parent.bits4 (fun HT_ HW_ => ?_)
      generalize w20.drew = w21 at BK134 BK135 HB HR140 hx144_0 hx144_1 hHeld ⊢
      refine pure_ (i := 0) (N := some 18) (v := ?_) (a' := ?_) #[true, false, false, false, false, false, false, false, false, false, false, false, false, false, false, false, false, false, false] rfl rfl (any_of HT_.out (by kernel_rfl)) (fun _ _ _ h => h) (Or.inl ⟨by rfl, ?_⟩) ?_ ?_
      rotate_left
      ·intro w'
       go_simp
       with_reducible rfl
      rotate_left
      ·simp only [Act.put, List.setIfInBounds_toArray, List.set_cons_zero, List.set_cons_succ, i64_w, i32_w]
       rfl
      refine pure_ (i := 2) (N := some 20) (v := ?_) (a' := ?_) #[true, false, true, false, false, false, false, false, false, false, false, false, false, false, false, false, false, false, false] rfl rfl (any_of HT_.out (by kernel_rfl)) (fun _ _ _ h => h) (Or.inl ⟨by rfl, ?_⟩) ?_ ?_
      rotate_left
      ·intro w'
       go_simp
       with_reducible rfl
      rotate_left
      ·simp only [Act.put, List.setIfInBounds_toArray, List.set_cons_zero, List.set_cons_succ, i64_w, i32_w]
       rfl
      refine pure_ (i := 4) (N := some 22) (v := ?_) (a' := ?_) #[true, false, true, false, true, false, false, false, false, false, false, false, false, false, false, false, false, false, false] rfl rfl (any_of HT_.out (by kernel_rfl)) (fun _ _ _ h => h) (Or.inl ⟨by rfl, ?_⟩) ?_ ?_
      rotate_left
      ·intro w'
       go_simp
       with_reducible rfl
      rotate_left
      ·simp only [Act.put, List.setIfInBounds_toArray, List.set_cons_zero, List.set_cons_succ, i64_w, i32_w]
       rfl
      refine pure_ (i := 6) (N := some 24) (v := ?_) (a' := ?_) #[true, false, true, false, true, false, true, false, false, false, false, false, false, false, false, false, false, false, false] rfl rfl (any_of HT_.out (by kernel_rfl)) (fun _ _ _ h => h) (Or.inl ⟨by rfl, ?_⟩) ?_ ?_
      rotate_left
      ·intro w'
       go_simp
       with_reducible rfl
      rotate_left
      ·simp only [Act.put, List.setIfInBounds_toArray, List.set_cons_zero, List.set_cons_succ, i64_w, i32_w]
       rfl
      refine pure_ (i := 10) (N := some 28) (v := ?_) (a' := ?_) #[true, false, true, false, true, false, true, false, false, false, true, false, false, false, false, false, false, false, false] rfl rfl (any_of HT_.out (by kernel_rfl)) (fun _ _ _ h => h) (Or.inl ⟨by rfl, ?_⟩) ?_ ?_
      rotate_left
      ·intro w'
       go_simp
       with_reducible rfl
      rotate_left
      ·simp only [Act.put, List.setIfInBounds_toArray, List.set_cons_zero, List.set_cons_succ, i64_w, i32_w]
       rfl
      refine pure_ (i := 12) (N := some 30) (v := ?_) (a' := ?_) #[true, false, true, false, true, false, true, false, false, false, true, false, true, false, false, false, false, false, false] rfl rfl (any_of HT_.out (by kernel_rfl)) (fun _ _ _ h => h) (Or.inl ⟨by rfl, ?_⟩) ?_ ?_
      rotate_left
      ·intro w'
       go_simp
       with_reducible rfl
      rotate_left
      ·simp only [Act.put, List.setIfInBounds_toArray, List.set_cons_zero, List.set_cons_succ, i64_w, i32_w]
       rfl
      refine take_ (i := 1) (N := some 19) (v := ?_) (a' := ?_) #[true, true, true, false, true, false, true, false, false, false, true, false, true, false, false, false, false, false, false] rfl rfl (take_ofW HT_.out HW_.out (by kernel_rfl)) (fun _ _ _ h => h) (Or.inl ⟨by rfl, ?_⟩) hHeld ?_ ?_
      rotate_left
      ·rintro w' ⟨s0, s1, s2, s3, s4⟩
       go_simp
       with_reducible rfl
      rotate_left
      ·simp only [Act.put, List.setIfInBounds_toArray, List.set_cons_zero, List.set_cons_succ, i64_w, i32_w]
       rfl
      refine take_ (i := 3) (N := some 21) (v := ?_) (a' := ?_) #[true, true, true, true, true, false, true, false, false, false, true, false, true, false, false, false, false, false, false] rfl rfl (take_ofW HT_.out HW_.out (by kernel_rfl)) (fun _ _ _ h => h) (Or.inl ⟨by rfl, ?_⟩) hHeld ?_ ?_
      rotate_left
      ·rintro w' ⟨s0, s1, s2, s3, s4⟩
       go_simp
       with_reducible rfl
      rotate_left
      ·simp only [Act.put, List.setIfInBounds_toArray, List.set_cons_zero, List.set_cons_succ, i64_w, i32_w]
       rfl
      refine take_ (i := 5) (N := some 23) (v := ?_) (a' := ?_) #[true, true, true, true, true, true, true, false, false, false, true, false, true, false, false, false, false, false, false] rfl rfl (take_ofW HT_.out HW_.out (by kernel_rfl)) (fun _ _ _ h => h) (Or.inl ⟨by rfl, ?_⟩) hHeld ?_ ?_
      rotate_left
      ·rintro w' ⟨s0, s1, s2, s3, s4⟩
       go_simp
       with_reducible rfl
      rotate_left
      ·simp only [Act.put, List.setIfInBounds_toArray, List.set_cons_zero, List.set_cons_succ, i64_w, i32_w]
       rfl
      refine pure_ (i := 7) (N := some 25) (v := ?_) (a' := ?_) #[true, true, true, true, true, true, true, true, false, false, true, false, true, false, false, false, false, false, false] rfl rfl (any_of HT_.out (by kernel_rfl)) (fun _ _ _ h => h) (Or.inl ⟨by rfl, ?_⟩) ?_ ?_
      rotate_left
      ·intro w'
       go_simp
       with_reducible rfl
      rotate_left
      ·simp only [Act.put, List.setIfInBounds_toArray, List.set_cons_zero, List.set_cons_succ, i64_w, i32_w]
       rfl
      refine take_ (i := 11) (N := some 29) (v := ?_) (a' := ?_) #[true, true, true, true, true, true, true, true, false, false, true, true, true, false, false, false, false, false, false] rfl rfl (take_ofW HT_.out HW_.out (by kernel_rfl)) (fun _ _ _ h => h) (Or.inl ⟨by rfl, ?_⟩) hHeld ?_ ?_
      rotate_left
      ·rintro w' ⟨s0, s1, s2, s3, s4⟩
       go_simp
       with_reducible rfl
      rotate_left
      ·simp only [Act.put, List.setIfInBounds_toArray, List.set_cons_zero, List.set_cons_succ, i64_w, i32_w]
       rfl
      refine pure_ (i := 13) (N := some 31) (v := ?_) (a' := ?_) #[true, true, true, true, true, true, true, true, false, false, true, true, true, true, false, false, false, false, false] rfl rfl (any_of HT_.out (by kernel_rfl)) (fun _ _ _ h => h) (Or.inl ⟨by rfl, ?_⟩) ?_ ?_
      rotate_left
      ·intro w'
       go_simp
       with_reducible rfl
      rotate_left
      ·simp only [Act.put, List.setIfInBounds_toArray, List.set_cons_zero, List.set_cons_succ, i64_w, i32_w]
       rfl
      refine pure_ (i := 14) (N := some 32) (v := ?_) (a' := ?_) #[true, true, true, true, true, true, true, true, false, false, true, true, true, true, true, false, false, false, false] rfl rfl (any_of HT_.out (by kernel_rfl)) (fun _ _ _ h => h) (Or.inl ⟨by rfl, ?_⟩) ?_ ?_
      rotate_left
      ·intro w'
       go_simp
       with_reducible rfl
      rotate_left
      ·simp only [Act.put, List.setIfInBounds_toArray, List.set_cons_zero, List.set_cons_succ, i64_w, i32_w]
       rfl
      refine take_ (i := 15) (N := some 33) (v := ?_) (a' := ?_) #[true, true, true, true, true, true, true, true, false, false, true, true, true, true, true, true, false, false, false] rfl rfl (take_ofW HT_.out HW_.out (by kernel_rfl)) (fun _ _ _ h => h) (Or.inl ⟨by rfl, ?_⟩) hHeld ?_ ?_
      rotate_left
      ·rintro w' ⟨s0, s1, s2, s3, s4⟩
       go_simp
       with_reducible rfl
      rotate_left
      ·simp only [Act.put, List.setIfInBounds_toArray, List.set_cons_zero, List.set_cons_succ, i64_w, i32_w]
       rfl
      refine one_ (i := 8) (N := some 26) #[true, true, true, true, true, true, true, true, true, false, true, true, true, true, true, true, false, false, false] rfl rfl (one_of HT_.out (by kernel_rfl)) (by decide) (fun K hK => ?_)
      refine goes_ Tryd.func40 (by kernel_rfl) rfl #[.slice (some ad144) y137.length c0_2] (by rfl) rfl rfl (by (try simp only [List.map_toArray, List.map_cons, List.map_nil]); first | done | rfl | (simp only [List.length_drop, List.length_take]; rfl)) ?_
      with_reducible refine (slices_Clone_api_Hop_api_Hop.calls _ _ y137 t141 _ ?side1 ?side2 A14.out).mono ?_
      (case side1 => repeat (first | exact (Kd.C_below HR140.out HB.out) | (with_reducible refine Kd.C_alloc ?_ _) | (with_reducible refine Kd.C_drewN ?_ _) | (with_reducible refine Kd.C_drew ?_)))
      (case side2 => exact HC140.out)
      rintro e w23 ⟨v142, rfl, ho0, hb⟩
      refine ⟨_, rfl, ?_⟩
      have n0_ := Aside0.mk (Kd.R_lower ho0 (below_size (mvL2 HB.out GE134.out GE135.out)))
      have n1_ := Aside0.mk (blk_below (g := gb134) (o := .cells #[.int .i64 a0_0, .int .i64 a0_1, .slice (some ad144) l0_2.length c0_2] 40 (0, 0)) (mvB BK134.out) hb)
      have n2_ := Aside0.mk (blk_below (g := gb135) (o := .cells #[.int .i64 0, .int .i64 0, .slice none 0 0] 40 (0, 0)) (mvB BK135.out) hb)
      have n3_ := Aside0.mk (below_step (mvL2 HB.out GE134.out GE135.out) hb)
      clear BK134
      clear BK135
      clear HB
      have HO143 := n0_
      have BK134 := n1_
      have BK135 := n2_
      have HB := n3_
      clear n0_ n1_ n2_ n3_
      (try clear hb)
      (try clear hb2)
      (try clear hk)
      (try clear hi)
      (try clear ho0)
      obtain ⟨Ao24, co24, eo24⟩ := Kd.R_slice HO143.out
      (first | subst eo24 | (injection eo24 with f1_ f2_ f3_; have f4_ := f1_.symm; have f5_ := f3_.symm; clear f1_ f2_ f3_; subst f4_; subst f5_))
      refine hK.out _ _ ⟨(blk_cell BK134.out 0).trans rfl, (blk_cell BK134.out 1).trans rfl, (blk_cell BK134.out 2).trans rfl, ((HB.out.cell (World.block_lt_of_cell? w _ hw144_0)).trans hw144_0), ((HB.out.cell (World.block_lt_of_cell? w _ hw144_1)).trans hw144_1)⟩ (fun hHeld => ?_)
      clear hK K
      refine norm_ (a' := ?_) ?_ ?_
      rotate_left
      ·show Act.put _ (some 26) _ = _
       simp only [Act.put, List.setIfInBounds_toArray, List.set_cons_zero, List.set_cons_succ, i64_w, i32_w]
       rfl
      refine pure_ (i := 9) (N := some 27) (v := ?_) (a' := ?_) #[true, true, true, true, true, true, true, true, true, true, true, true, true, true, true, true, false, false, false] rfl rfl (any_of HT_.out (by kernel_rfl)) (fun _ _ _ h => h) (Or.inl ⟨by rfl, ?_⟩) ?_ ?_
      rotate_left
      ·intro w'
       go_simp
       with_reducible rfl
      rotate_left
      ·simp only [Act.put, List.setIfInBounds_toArray, List.set_cons_zero, List.set_cons_succ, i64_w, i32_w]
       rfl
      refine one_ (i := 16) (N := none) #[true, true, true, true, true, true, true, true, true, true, true, true, true, true, true, true, true, false, false] rfl rfl (one_of HT_.out (by kernel_rfl)) (by decide) (fun K hK => ?_)
      have hs25 : w23.cell? ⟨gb135, 0, none⟩ = some (.int .i64 0) := (blk_cell BK135.out 0).trans rfl
      have hfs25 := blk_frozen BK135.out 0
      have hns25_0 := NB134_135.out
      have hms25_0 := NB135_134.out
      have hs26 : w23.cell? ⟨gb135, 1, none⟩ = some (.int .i64 0) := (blk_cell BK135.out 1).trans rfl
      have hfs26 := blk_frozen BK135.out 1
      have hns26_0 := NB134_135.out
      have hms26_0 := NB135_134.out
      have hs27 : w23.cell? ⟨gb135, 2, none⟩ = some (.slice none 0 0) := (blk_cell BK135.out 2).trans rfl
      have hfs27 := blk_frozen BK135.out 2
      have hns27_0 := NB134_135.out
      have hms27_0 := NB135_134.out
      refine skip_ (w1 := ?_) (by rfl) rfl ?_ ?_
      rotate_left
      ·go_simp
       rfl
      refine hK.out _ _ ⟨((cell_far (p := ⟨gb135, _, none⟩) NB134_135.out _).trans (((cell_far (p := ⟨gb135, _, none⟩) NB134_135.out _).trans (((cell_far (p := ⟨gb135, _, none⟩) NB134_135.out _).trans (hHeld.1)))))), ((cell_far (p := ⟨gb135, _, none⟩) NB134_135.out _).trans (((cell_far (p := ⟨gb135, _, none⟩) NB134_135.out _).trans (((cell_far (p := ⟨gb135, _, none⟩) NB134_135.out _).trans (hHeld.2.1)))))), ((cell_far (p := ⟨gb135, _, none⟩) NB134_135.out _).trans (((cell_far (p := ⟨gb135, _, none⟩) NB134_135.out _).trans (((cell_far (p := ⟨gb135, _, none⟩) NB134_135.out _).trans (hHeld.2.2.1)))))), ((cell_far (p := ⟨gb135, _, none⟩) (mvF hw144_0 GW135.out) _).trans (((cell_far (p := ⟨gb135, _, none⟩) (mvF hw144_0 GW135.out) _).trans (((cell_far (p := ⟨gb135, _, none⟩) (mvF hw144_0 GW135.out) _).trans (hHeld.2.2.2.1)))))), ((cell_far (p := ⟨gb135, _, none⟩) (mvF hw144_1 GW135.out) _).trans (((cell_far (p := ⟨gb135, _, none⟩) (mvF hw144_1 GW135.out) _).trans (((cell_far (p := ⟨gb135, _, none⟩) (mvF hw144_1 GW135.out) _).trans (hHeld.2.2.2.2))))))⟩ (fun hHeld => ?_)
      clear hK K
      refine pure_ (i := 17) (N := some 3) (v := ?_) (a' := ?_) #[true, true, true, true, true, true, true, true, true, true, true, true, true, true, true, true, true, true, false] rfl rfl (any_of HT_.out (by kernel_rfl)) (fun _ _ _ h => h) (Or.inl ⟨by rfl, ?_⟩) ?_ ?_
      rotate_left
      ·intro w'
       go_simp
       with_reducible rfl
      rotate_left
      ·simp only [Act.put, List.setIfInBounds_toArray, List.set_cons_zero, List.set_cons_succ, i64_w, i32_w]
       rfl
      refine pure_ (i := 18) (N := some 4) (v := ?_) (a' := ?_) #[true, true, true, true, true, true, true, true, true, true, true, true, true, true, true, true, true, true, true] rfl rfl (any_of HT_.out (by kernel_rfl)) (fun _ _ _ h => h) (Or.inl ⟨by rfl, ?_⟩) ?_ ?_
      rotate_left
      ·intro w'
       go_simp
       with_reducible rfl
      rotate_left
      ·simp only [Act.put, List.setIfInBounds_toArray, List.set_cons_zero, List.set_cons_succ, i64_w, i32_w]
       rfl
      refine done_ (done_of HT_.out (by kernel_rfl)) ?_
      try go_wp2
      refine bodyPost_ret (results_ctt rfl _ _ gb135 40 #[.int .i64 a0_0, .int .i64 a0_1, .slice Ao24 t141.length co24] (0, 0) _ rfl (by (with_reducible repeat (first | refine blk_drewN ?_ _ | refine blk_drew ?_ | refine blk_alloc ?_ _)); refine blk_put (cs := #[.int .i64 a0_0, .int .i64 a0_1, .slice none 0 0]) ?_ 2 _ rfl; (with_reducible repeat (first | refine blk_drewN ?_ _ | refine blk_drew ?_ | refine blk_alloc ?_ _)); refine blk_put (cs := #[.int .i64 a0_0, .int .i64 0, .slice none 0 0]) ?_ 1 _ rfl; (with_reducible repeat (first | refine blk_drewN ?_ _ | refine blk_drew ?_ | refine blk_alloc ?_ _)); refine blk_put (cs := #[.int .i64 0, .int .i64 0, .slice none 0 0]) ?_ 0 _ rfl; (with_reducible repeat (first | refine blk_drewN ?_ _ | refine blk_drew ?_ | refine blk_alloc ?_ _)); exact BK135.out) Tryd.underlying40 rfl (by kernel_rfl)) rfl ?_
      exact ⟨_, by first | rfl | (simp [errW_none, errW_some] <;> rfl) | (simp only [← hji11]; first | rfl | (simp [errW_none, errW_some] <;> rfl)) | (simp [*, errW_none, errW_some] <;> rfl) | (simp only [h_bne_nil, h_beq_nil] <;> rfl), by (with_reducible repeat (first | apply Kd.R_alloc | apply Kd.R_drewN | apply Kd.R_drew)); exact Kd.R_mono (Kd.R_far (p := ⟨gb135, 2, none⟩) (Kd.R_far (p := ⟨gb135, 1, none⟩) (Kd.R_far (p := ⟨gb135, 0, none⟩) (Kd.R_types HO143.out BK135.out (by decide)) (fun _ hk => hk.2) (.int .i64 a0_0)) (fun _ hk => hk.2) (.int .i64 a0_1)) (fun _ hk => hk.2) (.slice Ao24 t141.length co24)) (fun _ hk => trivial), by repeat (first | (with_reducible first | exact HB.out | apply below_alloc | apply pw_below_drewN | apply below_drew1 | refine below_set ?_ GE134.out | refine below_set ?_ GE135.out) | exact HB.out)⟩
     ·rw [if_neg c15] at H
      exact absurd H (by simp)
    ·rw [if_neg c13] at H
     exact absurd H (by simp)
   ·rw [if_neg c12] at H
    exact absurd H (by simp)
 ·rw [if_neg c3] at H
  have c3b0 : (t136 == 0) = false := beq_eq_false_iff_ne.mpr c3
  have c3b1 : (t136 != 0) = true := bne_iff_ne.mpr c3
  simp only [Option.some.injEq, Prod.mk.injEq] at H
  obtain ⟨rfl, rfl, rfl, rfl, rfl⟩ := H
  go_enter Tryd.func27, Tryd.ntmps27
  go_wp2_with (first | ((with_reducible refine gate_dst (N := 1) rfl ?_); refine box_event ?hg (N := 1) ?hd (cs := #[.int .i64 a0_0, .int .i64 a0_1, .slice A0_2 l0_2.length c0_2]) (t := 40) ?hr ?_; (case hd => rfl); (case hg => rfl); (case hr => first | (go_simp; done) | (go_simp; rfl)); intro gb134 hg w28 hbox hb; have n0_ := Aside0.mk (below_step (mvL0 HB.out) hb); have n1_ := Aside0.mk (hbox); have n2_ := Aside0.mk ((by rw [hg]; exact (below_size (mvL0 HB.out)) : w.heap.size ≤ gb134)); have n3_ := Aside0.mk ((by rw [hg]; exact (below_size (mvL0 HB.out)) : w.heap.size ≤ gb134)); clear HB; have HB := n0_; have BK134 := n1_; have GW134 := n2_; have GE134 := n3_; clear n0_ n1_ n2_ n3_; clear hb hbox hg) | ((with_reducible refine gate_dst (N := 2) rfl ?_); refine box_event ?hg (N := 2) ?hd (cs := #[.int .i64 0, .int .i64 0, .slice none 0 0]) (t := 40) ?hr ?_; (case hd => rfl); (case hg => rfl); (case hr => first | (go_simp; done) | (go_simp; rfl)); intro gb135 hg w29 hbox hb; have n0_ := Aside0.mk (blk_below (g := gb134) (o := .cells #[.int .i64 a0_0, .int .i64 a0_1, .slice A0_2 l0_2.length c0_2] 40 (0, 0)) (mvB BK134.out) hb); have n1_ := Aside0.mk (below_step (mvL1 HB.out GE134.out) hb); have n2_ := Aside0.mk (hbox); have n3_ := Aside0.mk ((by rw [hg]; exact (below_size (mvL1 HB.out GE134.out)) : w.heap.size ≤ gb135)); have n4_ := Aside0.mk ((by rw [hg]; exact (below_size (mvL1 HB.out GE134.out)) : w.heap.size ≤ gb135)); have n5_ := Aside0.mk ((by rw [hg]; exact Nat.ne_of_lt (blk_lt (g := gb134) (o := .cells #[.int .i64 a0_0, .int .i64 a0_1, .slice A0_2 l0_2.length c0_2] 40 (0, 0)) (mvB BK134.out)) : gb134 ≠ gb135)); have n6_ := Aside0.mk ((by rw [hg]; exact Nat.ne_of_gt (blk_lt (g := gb134) (o := .cells #[.int .i64 a0_0, .int .i64 a0_1, .slice A0_2 l0_2.length c0_2] 40 (0, 0)) (mvB BK134.out)) : gb135 ≠ gb134)); clear BK134; clear HB; have BK134 := n0_; have HB := n1_; have BK135 := n2_; have GW135 := n3_; have GE135 := n4_; have NB134_135 := n5_; have NB135_134 := n6_; clear n0_ n1_ n2_ n3_ n4_ n5_ n6_; clear hb hbox hg; have hnb30 := NB134_135.out; have hnc30 := NB135_134.out; have hcz31_0 : w29.cell? ⟨gb134, 0, none⟩ = some (.int .i64 a0_0) := (blk_cell BK134.out 0).trans rfl; have hcz31_1 : w29.cell? ⟨gb134, 1, none⟩ = some (.int .i64 a0_1) := (blk_cell BK134.out 1).trans rfl; have hcz31_2 : w29.cell? ⟨gb134, 2, none⟩ = some (.slice A0_2 l0_2.length c0_2) := (blk_cell BK134.out 2).trans rfl; have hfz31_0 := blk_frozen BK134.out 0; have hfz31_1 := blk_frozen BK134.out 1; have hfz31_2 := blk_frozen BK134.out 2) | ((with_reducible refine gate_callee (f := 30) rfl ?_); refine goesL_ (some 11) rfl rfl Tryd.func30 (by kernel_rfl) rfl #[.agg #[.int .i64 a0_0, .int .i64 a0_1, .slice A0_2 l0_2.length c0_2]] rfl (by (try simp only [List.map_toArray, List.map_cons, List.map_nil]); first | done | rfl | (simp only [List.length_drop, List.length_take]; rfl)) ?_; (with_reducible refine (ident_Check.calls a0_0 a0_1 _ _ l0_2 t136 _ ?side1 ?side2 A2.out).mono ?_); (case side1 => repeat (first | exact (Kd.C_below HR0_2.out HB.out) | (with_reducible refine Kd.C_alloc ?_ _) | (with_reducible refine Kd.C_drewN ?_ _) | (with_reducible refine Kd.C_drew ?_))); (case side2 => exact HC0_2.out); rintro e w32 ⟨rfl, hb⟩; refine ⟨_, rfl, ?_⟩; have n0_ := Aside0.mk (blk_below (g := gb134) (o := .cells #[.int .i64 a0_0, .int .i64 a0_1, .slice A0_2 l0_2.length c0_2] 40 (0, 0)) (mvB BK134.out) hb); have n1_ := Aside0.mk (blk_below (g := gb135) (o := .cells #[.int .i64 0, .int .i64 0, .slice none 0 0] 40 (0, 0)) (mvB BK135.out) hb); have n2_ := Aside0.mk (below_step (mvL2 HB.out GE134.out GE135.out) hb); clear BK134; clear BK135; clear HB; have BK134 := n0_; have BK135 := n1_; have HB := n2_; clear n0_ n1_ n2_; (try clear hb); (try clear hb2); (try clear hk); (try clear hi); have hcz33_0 : w32.cell? ⟨gb135, 0, none⟩ = some (.int .i64 0) := (blk_cell BK135.out 0).trans rfl; have hcz33_1 : w32.cell? ⟨gb135, 1, none⟩ = some (.int .i64 0) := (blk_cell BK135.out 1).trans rfl; have hcz33_2 : w32.cell? ⟨gb135, 2, none⟩ = some (.slice none 0 0) := (blk_cell BK135.out 2).trans rfl; have hfz33_0 := blk_frozen BK135.out 0; have hfz33_1 := blk_frozen BK135.out 1; have hfz33_2 := blk_frozen BK135.out 2))
  refine bodyPost_ret (results_ctt rfl _ _ gb135 40 #[.int .i64 0, .int .i64 0, .slice none 0 0] (0, 0) _ rfl (by (with_reducible repeat (first | refine blk_drewN ?_ _ | refine blk_drew ?_ | refine blk_alloc ?_ _)); refine blk_put (cs := #[.int .i64 0, .int .i64 0, .slice none 0 0]) ?_ 2 _ rfl; (with_reducible repeat (first | refine blk_drewN ?_ _ | refine blk_drew ?_ | refine blk_alloc ?_ _)); refine blk_put (cs := #[.int .i64 0, .int .i64 0, .slice none 0 0]) ?_ 1 _ rfl; (with_reducible repeat (first | refine blk_drewN ?_ _ | refine blk_drew ?_ | refine blk_alloc ?_ _)); refine blk_put (cs := #[.int .i64 0, .int .i64 0, .slice none 0 0]) ?_ 0 _ rfl; (with_reducible repeat (first | refine blk_drewN ?_ _ | refine blk_drew ?_ | refine blk_alloc ?_ _)); exact BK135.out) Tryd.underlying40 rfl (by kernel_rfl)) rfl ?_
  exact ⟨_, by first | rfl | (simp [errW_none, errW_some] <;> rfl) | (simp [*, errW_none, errW_some] <;> rfl) | (simp only [h_bne_nil, h_beq_nil] <;> rfl), by first | exact Kd.R_nil _ _ _ _ _ | exact Kd.N_nil _ _ _ _ _ | exact Kd.V_nil _ _ _ _ _ | exact Kd.Q_nil _ _ _ _ _ | exact Kd.S_nil _ _ _ _ _, by repeat (first | (with_reducible first | exact HB.out | apply below_alloc | apply pw_below_drewN | apply below_drew1 | refine below_set ?_ GE134.out | refine below_set ?_ GE135.out) | exact HB.out)⟩

/-! ### saga_why: function 32 -/
def saga_why.f (a0 : Int) : Option (Bool) := if a0 ≥ 1 then (some (decide (a0 ≤ 9))) else (some false)
set_option maxHeartbeats 8000000 in
set_option maxRecDepth 100000 in
theorem saga_why.calls (a0 : Int) (r : Bool) (w : World) (h : saga_why.f a0 = some r) :
  Calls Tryd.prog 32 #[.int .i64 a0] w fun e w' => e = .returned (.bool r) ∧ Drawn0 w w' := by
 have H : (if a0 ≥ 1 then (some (decide (a0 ≤ 9))) else (some false)) = some r := h
 clear h
 by_cases c2 : a0 ≥ 1
 ·rw [if_pos c2] at H
  have c2b0 : decide (1 ≤ a0) = true := decide_eq_true c2
  clear c2
  obtain rfl := Option.some.inj H
  go_enter Tryd.func32, Tryd.ntmps32
  go_wp2
  go_ret
  exact ⟨by first | rfl | (simp; done) | (simp [*]; done), by repeat (first | exact Drawn0.refl _ | apply Drawn0.step)⟩
 ·rw [if_neg c2] at H
  have c2b0 : decide (1 ≤ a0) = false := decide_eq_false c2
  clear c2
  obtain rfl := Option.some.inj H
  go_enter Tryd.func32, Tryd.ntmps32
  go_wp2
  go_ret
  exact ⟨by first | rfl | (simp; done) | (simp [*]; done), by repeat (first | exact Drawn0.refl _ | apply Drawn0.step)⟩

/-! ### slices_IndexFunc_api_Step_api_Step: function 83, by hand -/
set_option maxHeartbeats 1000000 in
set_option maxRecDepth 100000 in
theorem slices_IndexFunc_api_Step_api_Step.pred (p : S60 → Bool) (K : Nat) (w : World) (A : Option Addr) (c : Nat) (l : List (S60)) (eg : EntersH K) (hr : Kd.C k60 w A l.length l)
  (hp : ∀ x ∈ l, ∀ W, Below w.heap.size w W → ∀ cs, Kd.K k60 W x cs → Calls Tryd.prog K #[.agg cs.toArray] W (fun e W' => e = .returned (.bool (p x)) ∧ Below W.heap.size W W')) :
  Calls Tryd.prog 83 #[.slice A l.length c, .func (.func K) #[] #[]] w (fun e w' => e = .returned (.int .i64 (idxF p l)) ∧ Below w.heap.size w w') := by
 have eg' : ∀ (args : Array Value) (w : World), (callFunc K args).run Tryd.prog w = .ok (.enter K args) w := eg
 clear eg
 have HR := Aside0.mk hr
 have HP := Aside0.mk hp
 have hm := Kd.C_max hr
 clear hr hp
 have HB0 := Aside0.mk (Below.refl w.heap.size w)
 obtain ⟨R, hR⟩ : ∃ R, R = idxF p l := ⟨_, rfl⟩
 rw [← hR]
 have HRR := Aside0.mk hR
 clear hR
 go_enter Tryd.func83, Tryd.ntmps83
 go_wp2
 go_loopw [8] (fun v wr => ∃ k : Nat, v = .int .i64 k ∧ k ≤ l.length ∧ Aside0 (∀ x ∈ l.take k, p x = false) ∧ Aside0 (Below w.heap.size w wr)) (fun v _ => l.length - (intOf v).toNat)
 case atStart => exact ⟨0, rfl, Nat.zero_le _, ⟨fun x hx => by simp at hx⟩, HB0⟩
 case round =>
  obtain ⟨k, rfl, hk, hno, HBk⟩ := hrel
  by_cases hlt : k < l.length
  ·obtain ⟨ad_a, he_a, hx_a_0, hx_a_1, hx_a_2, hx_a_3, hx_a_4, hx_a_5, hx_a_6⟩ := at_T60 (Kd.C_below HR.out HBk.out) (k : Int) (by omega) (by omega)
   subst he_a
   simp only [Int.toNat_natCast] at *
   have hmem : rd_T60 l (k : Int) ∈ l := by simp [rd_T60, hlt]
   have HM := Aside0.mk hmem
   clear hmem
   by_cases hpx : p (rd_T60 l (k : Int)) = true
   ·have HX := Aside0.mk hpx
    clear hpx
    go_wp2_with (fail)
    refine (HP.out _ HM.out wr HBk.out [.int .i64 ((rd_T60 l (k : Int)).f0.f0), .string ((rd_T60 l (k : Int)).f0.f1), .int .i64 ((rd_T60 l (k : Int)).f0.f2), .int .i64 ((rd_T60 l (k : Int)).f1), .string ((rd_T60 l (k : Int)).f2), .int .i64 ((rd_T60 l (k : Int)).f3), .int .i64 ((rd_T60 l (k : Int)).f4)] (k60_mk wr (rd_T60 l (k : Int)))).mono ?_
    rintro e w1 ⟨rfl, hb1⟩
    rw [HX.out]
    go_wp2
    go_ret
    refine ⟨(show Ending.returned (.int .i64 (k : Int)) = Ending.returned (.int .i64 R) from ?_), below_step HBk.out hb1⟩
    have e1 : p l[k] = true := by have := HX.out; simpa [rd_T60, hlt] using this
    rw [HRR.out, idxF_at p l k hlt hno.out e1]
   ·have HX := Aside0.mk (Bool.eq_false_iff.mpr hpx)
    clear hpx
    go_wp2_with (fail)
    refine (HP.out _ HM.out wr HBk.out [.int .i64 ((rd_T60 l (k : Int)).f0.f0), .string ((rd_T60 l (k : Int)).f0.f1), .int .i64 ((rd_T60 l (k : Int)).f0.f2), .int .i64 ((rd_T60 l (k : Int)).f1), .string ((rd_T60 l (k : Int)).f2), .int .i64 ((rd_T60 l (k : Int)).f3), .int .i64 ((rd_T60 l (k : Int)).f4)] (k60_mk wr (rd_T60 l (k : Int)))).mono ?_
    rintro e w1 ⟨rfl, hb1⟩
    rw [HX.out]
    go_wp2
    go_roundw
    case rel => exact ⟨k + 1, by go_num, by omega, ⟨fun x hx => by
     rw [List.take_succ_eq_append_getElem hlt] at hx
     rcases List.mem_append.1 hx with hx | hx
     ·exact hno.out x hx
     ·rw [List.mem_singleton.1 hx]
      have := HX.out
      simpa [rd_T60, hlt] using this⟩, ⟨below_step HBk.out hb1⟩⟩
    case measure => simp [intOf]; omega
  ·go_wp2
   go_ret
   refine ⟨(show Ending.returned (.int .i64 (-1)) = Ending.returned (.int .i64 R) from ?_), HBk.out⟩
   have hq := hno.out
   rw [List.take_of_length_le (by omega)] at hq
   rw [HRR.out, idxF_none p l hq]

/-! ### slices_ContainsFunc_api_Step_api_Step: function 54, by hand -/
set_option maxHeartbeats 1000000 in
set_option maxRecDepth 100000 in
theorem slices_ContainsFunc_api_Step_api_Step.pred (p : S60 → Bool) (K : Nat) (w : World) (A : Option Addr) (c : Nat) (l : List (S60)) (eg : EntersH K) (hr : Kd.C k60 w A l.length l)
  (hp : ∀ x ∈ l, ∀ W, Below w.heap.size w W → ∀ cs, Kd.K k60 W x cs → Calls Tryd.prog K #[.agg cs.toArray] W (fun e W' => e = .returned (.bool (p x)) ∧ Below W.heap.size W W')) :
  Calls Tryd.prog 54 #[.slice A l.length c, .func (.func K) #[] #[]] w (fun e w' => e = .returned (.bool (l.any p)) ∧ Below w.heap.size w w') := by
 have HR := Aside0.mk hr
 have HP := Aside0.mk hp
 have EG := Aside0.mk eg
 clear hr hp eg
 obtain ⟨R, hR⟩ : ∃ R, R = l.any p := ⟨_, rfl⟩
 rw [← hR]
 have HRR := Aside0.mk hR
 clear hR
 go_enter Tryd.func54, Tryd.ntmps54
 go_wp2_with (fail)
 refine (slices_IndexFunc_api_Step_api_Step.pred p K w A c l EG.out HR.out HP.out).mono ?_
 rintro e w1 ⟨rfl, hb1⟩
 have HB1 := Aside0.mk hb1
 clear hb1
 go_wp2
 go_ret
 refine ⟨(show Ending.returned (.bool (decide (0 ≤ idxF p l))) = Ending.returned (.bool R) from ?_), HB1.out⟩
 rw [HRR.out, ← idxF_nonneg]

/-! ### def_Check: function 33, by hand -/
theorem act_Name_l0 (s : ByteArray) (hs : s.size ≤ 16) : ∀ (d k i : Nat), i + d = s.size → d < k → act_Name.l0 k s (s.size : Int) (i : Int) = some ((List.range' i d).all (fun j => alnum (bt s j))) := by
 intro d
 induction d with
 | zero =>
  intro k i hi hk
  obtain ⟨k, rfl⟩ : ∃ m, k = m + 1 := ⟨k - 1, by omega⟩
  simp only [act_Name.l0]
  rw [if_neg (by omega)]
  simp
 | succ d ih =>
  intro k i hi hk
  obtain ⟨k, rfl⟩ : ∃ m, k = m + 1 := ⟨k - 1, by omega⟩
  simp only [act_Name.l0]
  rw [if_pos (by omega), if_pos (by omega), if_pos (by omega), wrap_up (by omega) (by omega), show ((i : Int) + 1) = ((i + 1 : Nat) : Int) by omega, ih k (i + 1) (by omega) (by omega), all_range']
  have h1 : alnum (bt s i) = if bt s i < 97 then (if bt s i < 48 then false else if bt s i > 57 then false else true) else (if bt s i > 122 then (if bt s i < 48 then false else if bt s i > 57 then false else true) else true) := by
   unfold alnum
   by_cases a1 : bt s i < 97 <;> by_cases a2 : bt s i < 48 <;> by_cases a3 : bt s i > 57 <;> by_cases a4 : bt s i > 122 <;> simp [a1, a2, a3, a4] <;> omega
  rw [h1]
  by_cases a1 : bt s i < 97 <;> by_cases a2 : bt s i < 48 <;> by_cases a3 : bt s i > 57 <;> by_cases a4 : bt s i > 122 <;> simp [a1, a2, a3, a4]
theorem act_Name_f (s : ByteArray) (k : Nat) (hk : 20 ≤ k) : act_Name.f k s = some (nameOk s) := by
 have hj : ∀ (m : Nat) (b : Bool), 18 < m → (b = false → s.size ≤ 16) → act_Name.j0 m s b = some (if b = true then false else (List.range s.size).all (fun i => alnum (bt s i))) := by
  intro m b hm hb
  obtain ⟨m, rfl⟩ : ∃ q, m = q + 1 := ⟨m - 1, by omega⟩
  simp only [act_Name.j0]
  cases b with
  | true => rfl
  | false =>
   have := hb rfl
   have h := act_Name_l0 s this s.size m 0 (by omega) (by omega)
   simp only [Bool.false_eq_true, if_false]
   rw [List.range_eq_range']
   exact h
 unfold act_Name.f nameOk
 by_cases h0 : s.size = 0
 ·rw [if_pos ((str_nil_iff s).2 h0), hj k true (by omega) (by simp)]
  simp [h0]
 ·rw [if_neg (fun h => h0 ((str_nil_iff s).1 h))]
  by_cases h1 : (s.size : Int) > 16
  ·rw [if_pos h1, hj k true (by omega) (by simp)]
   have : ¬ s.size ≤ 16 := by omega
   simp [this]
  ·rw [if_neg h1, if_pos (by omega)]
   have h2 : s.size ≤ 16 := by omega
   by_cases h3 : bt s 0 < 97
   ·rw [if_pos h3, hj k true (by omega) (by simp)]
    have : ¬ 97 ≤ bt s 0 := by omega
    simp [this]
   ·rw [if_neg h3, hj k _ (by omega) (fun _ => h2)]
    have h4 : 97 ≤ bt s 0 := by omega
    have h5 : 0 < s.size := by omega
    by_cases h6 : bt s 0 > 122
    ·have : ¬ bt s 0 ≤ 122 := by omega
     simp [h6, this]
    ·have : bt s 0 ≤ 122 := by omega
     simp [h2, h4, h5, h6, this]
/-- An activity. -/
def actOk (k : Int) (s : ByteArray) (n : Int) : Bool := decide (1 ≤ k) && decide (k ≤ 4) && nameOk s && decide (1 ≤ n) && decide (n ≤ 1000000000000000)
theorem act_Check_f (a : Int) (s : ByteArray) (n : Int) (k : Nat) (hk : 20 ≤ k) : act_Check.f k a s n = some (if actOk a s n = true then 0 else 60) := by
 unfold act_Check.f actOk cash_Fits.f
 rw [act_Name_f s k hk]
 by_cases h1 : 1 ≤ a
 ·rw [if_neg (show ¬ a < 1 by omega)]
  by_cases h2 : a ≤ 4
  ·rw [if_neg (show ¬ a > 4 by omega)]
   cases h3 : nameOk s with
   | false => simp
   | true =>
    simp only [Option.bind_some, if_true]
    by_cases h4 : 1 ≤ n
    ·rw [if_neg (show ¬ n < 1 by omega), if_pos (show n ≥ 0 by omega)]
     by_cases h5 : n ≤ 1000000000000000 <;> simp [h1, h2, h4, h5]
    ·rw [if_pos (show n < 1 by omega)]
     simp [h4]
  ·rw [if_pos (show a > 4 by omega)]
   simp [h2]
 ·rw [if_pos (show a < 1 by omega)]
  simp [h1]
/-- A step of its own; a step that asks. -/
def ownOk (x : S60) : Bool := decide (x.f2.size = 0) && actOk x.f0.f0 x.f0.f1 x.f0.f2 && decide (x.f1 = 0) && decide (x.f4 = 0) && decide (1 ≤ x.f3) && decide (x.f3 ≤ 5)
def asksOk (x : S60) : Bool := nameOk x.f2 && decide (x.f0.f0 = 0) && decide (x.f0.f1.size = 0) && decide (x.f0.f2 = 0) && decide (x.f3 = 0) && decide (0 ≤ x.f1) && decide (x.f1 < 16) && decide (1 ≤ x.f4) && decide (x.f4 ≤ 50)
theorem def_own_f (x : S60) (k : Nat) (hk : 20 ≤ k) : def_own.f k x.f0.f0 x.f0.f1 x.f0.f2 x.f1 x.f2 x.f3 x.f4 = some (ownOk x) := by
 unfold def_own.f ownOk
 rw [act_Check_f _ _ _ k hk]
 by_cases h0 : x.f2.size = 0
 ·rw [if_pos ((str_nil_iff _).2 h0)]
  by_cases h1 : actOk x.f0.f0 x.f0.f1 x.f0.f2 = true <;> by_cases h2 : x.f1 = 0 <;> by_cases h3 : x.f4 = 0 <;> by_cases h4 : x.f3 ≥ 1 <;> simp [h0, h1, h2, h3, h4] <;> omega
 ·rw [if_neg (fun h => h0 ((str_nil_iff _).1 h))]
  simp [h0]
theorem str_beq_nil (s : ByteArray) : (s.toList == ([] : List UInt8)) = decide (s.size = 0) := by
 rw [Bool.eq_iff_iff]
 simp [str_nil_iff]
theorem def_asks_f (x : S60) (k : Nat) (hk : 20 ≤ k) : def_asks.f k x.f0.f0 x.f0.f1 x.f0.f2 x.f1 x.f2 x.f3 x.f4 = some (asksOk x) := by
 unfold def_asks.f asksOk
 rw [act_Name_f _ k hk, str_beq_nil]
 by_cases h1 : nameOk x.f2 = true <;> by_cases h2 : x.f0.f0 = 0 <;> by_cases h3 : x.f0.f1.size = 0 <;> by_cases h4 : x.f0.f2 = 0 <;> by_cases h5 : x.f3 = 0 <;> by_cases h6 : x.f1 ≥ 0 <;> by_cases h7 : x.f1 < 16 <;> by_cases h8 : x.f4 ≥ 1 <;> simp [h1, h2, h3, h4, h5, h6, h7, h8] <;> omega
def stepOk (x : S60) : Bool := ownOk x || asksOk x
/-- A definition. -/
def defOk (s : ByteArray) (l : List S60) : Bool := nameOk s && decide (1 ≤ l.length) && decide (l.length ≤ 8) && l.all stepOk
def def_Check.f (a0_0 : ByteArray) (l0_1 : List S60) : Option Int := some (if defOk a0_0 l0_1 = true then 0 else 90)
set_option maxHeartbeats 1000000 in
set_option maxRecDepth 100000 in
theorem def_Check.calls (a0_0 : ByteArray) (A0_1 : Option Addr) (c0_1 : Nat) (l0_1 : List (S60)) (r : Int) (w : World) (hr0_1 : Kd.C k60 w A0_1 l0_1.length l0_1) (hc0_1 : l0_1.length ≤ c0_1) (h : def_Check.f a0_0 l0_1 = some r) :
  Calls Tryd.prog 33 #[.agg #[.string a0_0, .slice A0_1 l0_1.length c0_1]] w fun e w' => e = .returned (.int .i64 r) ∧ Below w.heap.size w w' := by
 have hr' : (if defOk a0_0 l0_1 = true then 0 else 90) = r := by simpa [def_Check.f] using h
 clear h
 have HRR := Aside0.mk hr'
 clear hr'
 have HR := Aside0.mk hr0_1
 clear hr0_1
 have eg : EntersH 55 := entersH Tryd.func55 (by kernel_rfl) rfl
 have EG := Aside0.mk eg
 clear eg
 by_cases h1 : nameOk a0_0 = true
 ·have H1 := Aside0.mk h1
  by_cases h2 : 1 ≤ l0_1.length
  ·by_cases h3 : l0_1.length ≤ 8
   ·have hgood : defOk a0_0 l0_1 = l0_1.all stepOk := by simp [defOk, h1, h2, h3]
    have HG := Aside0.mk hgood
    clear hgood h1
    go_enter Tryd.func33, Tryd.ntmps33
    go_wp2_with (fail)
    refine (act_Name.calls 20 a0_0 true _ (by rw [act_Name_f _ _ (by omega), H1.out])).mono ?_
    rintro e w1 ⟨rfl, ⟨nd, rfl⟩⟩
    go_wp2_with (fail)
    refine (slices_ContainsFunc_api_Step_api_Step.pred (fun x => !stepOk x) 55 _ _ _ l0_1 EG.out (by first | exact Kd.C_drewN (Kd.C_alloc HR.out _) _ | exact Kd.C_alloc HR.out _) ?hp).mono ?_
    case hp =>
     intro x _ W hW cs hK
     obtain rfl := k60_open hK
     refine (def_Check_1.calls 20 x.f0.f0 x.f0.f1 x.f0.f2 x.f1 x.f2 x.f3 x.f4 (!stepOk x) W ?hf).mono ?_
     case hf =>
      unfold def_Check_1.f
      rw [def_own_f x 20 (by omega), def_asks_f x 20 (by omega)]
      cases ho : ownOk x <;> simp [stepOk, ho]
     rintro e w' ⟨rfl, hb⟩
     exact ⟨rfl, hb⟩
    rintro e w2 ⟨rfl, hb2⟩
    have HB2 := Aside0.mk (below_step (by first | exact pw_below_drewN (below_alloc (Below.refl _ _) _) _ | exact below_alloc (Below.refl _ _) _) hb2)
    clear hb2
    by_cases hany : l0_1.any (fun x => !stepOk x) = true
    ·rw [hany]
     have HAN := Aside0.mk hany
     clear hany
     go_wp2
     go_ret
     refine ⟨(show Ending.returned (.int .i64 90) = Ending.returned (.int .i64 r) from ?_), HB2.out⟩
     rw [← HRR.out, if_neg]
     rw [HG.out, List.all_eq_true]
     intro hq
     obtain ⟨x, hx, hx2⟩ := List.any_eq_true.1 HAN.out
     rw [hq x hx] at hx2
     cases hx2
    ·rw [Bool.eq_false_iff.mpr hany]
     have HAN := Aside0.mk hany
     clear hany
     go_wp2
     go_ret
     refine ⟨(show Ending.returned (.int .i64 0) = Ending.returned (.int .i64 r) from ?_), HB2.out⟩
     rw [← HRR.out, if_pos]
     rw [HG.out, List.all_eq_true]
     intro x hx
     cases hs : stepOk x with
     | true => rfl
     | false => exact absurd (List.any_eq_true.2 ⟨x, hx, by simp [hs]⟩) HAN.out
   ·have hbad : ¬ defOk a0_0 l0_1 = true := by simp [defOk, h3]
    have HBAD := Aside0.mk hbad
    clear hbad h1
    go_enter Tryd.func33, Tryd.ntmps33
    go_wp2_with (go_at_call 28; refine (act_Name.calls 20 a0_0 true _ (by rw [act_Name_f _ _ (by omega), H1.out])).mono ?_; rintro e w1 ⟨rfl, ⟨nd, rfl⟩⟩)
    go_ret
    refine ⟨(show Ending.returned (.int .i64 90) = Ending.returned (.int .i64 r) from ?_), (by first | exact pw_below_drewN (below_alloc (Below.refl _ _) _) _ | exact below_alloc (Below.refl _ _) _)⟩
    rw [← HRR.out, if_neg HBAD.out]
  ·have hbad : ¬ defOk a0_0 l0_1 = true := by simp [defOk]; intros; omega
   have HBAD := Aside0.mk hbad
   clear hbad h1
   go_enter Tryd.func33, Tryd.ntmps33
   go_wp2_with (go_at_call 28; refine (act_Name.calls 20 a0_0 true _ (by rw [act_Name_f _ _ (by omega), H1.out])).mono ?_; rintro e w1 ⟨rfl, ⟨nd, rfl⟩⟩)
   go_ret
   refine ⟨(show Ending.returned (.int .i64 90) = Ending.returned (.int .i64 r) from ?_), (by first | exact pw_below_drewN (below_alloc (Below.refl _ _) _) _ | exact below_alloc (Below.refl _ _) _)⟩
   rw [← HRR.out, if_neg HBAD.out]
 ·have hbad : ¬ defOk a0_0 l0_1 = true := by simp [defOk, h1]
  have HBAD := Aside0.mk hbad
  have H1 := Aside0.mk (Bool.eq_false_iff.mpr h1)
  clear hbad h1
  go_enter Tryd.func33, Tryd.ntmps33
  go_wp2_with (go_at_call 28; refine (act_Name.calls 20 a0_0 false _ (by rw [act_Name_f _ _ (by omega), H1.out])).mono ?_; rintro e w1 ⟨rfl, ⟨nd, rfl⟩⟩)
  go_ret
  refine ⟨(show Ending.returned (.int .i64 90) = Ending.returned (.int .i64 r) from ?_), (by first | exact pw_below_drewN (below_alloc (Below.refl _ _) _) _ | exact below_alloc (Below.refl _ _) _)⟩
  rw [← HRR.out, if_neg HBAD.out]

/-! ### note_Check: function 10, by hand -/
def whyIn (n : Int) : Bool := decide (1 ≤ n) && decide (n ≤ 9)
/-- A note that may be. -/
def noteOk (kind root n : Int) (hops : List S69) (d : ByteArray) (why : Int) : Bool := (decide (1 ≤ kind) && decide (kind ≤ 7) && (idOk root n hops && decide (0 < hops.length))) && ((decide (kind = 1) == nameOk d) && (decide (kind = 1) || decide (d.size = 0))) && ((decide (kind = 6) == whyIn why) && (decide (kind = 6) || decide (why = 0)))
theorem ident_Parent_ok (a b : Int) (l : List S69) : ∃ r1 r2 r3 r4, ident_Parent.f a b l = some (r1, r2, r3, r4, idOk a b l && decide (0 < l.length)) := by
 unfold ident_Parent.f ident_Check.f
 by_cases h : idOk a b l = true
 ·have hl : l.length ≤ 4 := by simp [idOk] at h; omega
  have hw : wrap64 ((l.length : Int) - 1) = (l.length : Int) - 1 := by unfold wrap64; omega
  rw [hw]
  simp only [h, if_true, Option.bind_some]
  by_cases h0 : 0 < l.length
  ·rw [if_neg (by omega), if_pos (by omega), if_pos (by omega), slices_Clone_api_Hop_api_Hop.f, if_pos (by rw [List.length_take]; omega)]
   simp only [Option.bind_some]
   rw [if_pos (by omega), decide_eq_true h0]
   exact ⟨_, _, _, _, rfl⟩
  ·rw [if_pos (by omega), decide_eq_false h0]
   exact ⟨_, _, _, _, rfl⟩
 ·have h2 := Bool.eq_false_iff.mpr h
  simp only [h2, Option.bind_some]
  exact ⟨_, _, _, _, rfl⟩
set_option maxHeartbeats 2000000 in
set_option maxRecDepth 100000 in
theorem note_Check.at (kd ra n why : Int) (d : ByteArray) (l : List S69) (A : Option Addr) (c : Nat) (w : World) (hr : Kd.C k69 w A l.length l) (hc : l.length ≤ c) :
  Calls Tryd.prog 10 #[.agg #[.int .i64 kd, .int .i64 ra, .int .i64 n, .slice A l.length c, .string d, .int .i64 why]] w (fun e W' => e = .returned (.int .i64 (if noteOk kd ra n l d why = true then 0 else 130)) ∧ Below w.heap.size w W') := by
 obtain ⟨R, hR⟩ : ∃ R, R = (if noteOk kd ra n l d why = true then (0 : Int) else 130) := ⟨_, rfl⟩
 rw [← hR]
 have HRR := Aside0.mk hR
 obtain ⟨r1, r2, r3, r4, hp⟩ := ident_Parent_ok ra n l
 obtain ⟨bp, hbp⟩ : ∃ b, (idOk ra n l && decide (0 < l.length)) = b := ⟨_, rfl⟩
 rw [hbp] at hp
 have HP := Aside0.mk hp
 obtain ⟨of, hof⟩ : ∃ b, decide (kd = 1) = b := ⟨_, rfl⟩
 obtain ⟨gn, hgn⟩ : ∃ b, decide (kd = 6) = b := ⟨_, rfl⟩
 obtain ⟨bn, hbn⟩ : ∃ b, nameOk d = b := ⟨_, rfl⟩
 obtain ⟨be, hbe⟩ : ∃ b, decide (d.size = 0) = b := ⟨_, rfl⟩
 have hsp : noteOk kd ra n l d why = ((decide (1 ≤ kd) && decide (kd ≤ 7) && bp) && ((of == bn) && (of || be)) && ((gn == whyIn why) && (gn || decide (why = 0)))) := by unfold noteOk; rw [hbp, hof, hgn, hbn, hbe]
 have HSP := Aside0.mk hsp
 have q1 : (kd == 1) = of := by rw [← hof]; exact Bool.eq_iff_iff.mpr (by simp)
 have q6 : (kd == 6) = gn := by rw [← hgn]; exact Bool.eq_iff_iff.mpr (by simp)
 have qe : d.toList.isEmpty = be := by rw [← hbe]; exact Bool.eq_iff_iff.mpr (by simp [str_nil_iff])
 have HN := Aside0.mk (show act_Name.f 20 d = some bn by rw [act_Name_f _ _ (by omega), hbn])
 obtain ⟨O, hO⟩ : ∃ O, O = (Obj.cells #[.int .i64 kd, .int .i64 ra, .int .i64 n, .slice A l.length c, .string d, .int .i64 why] 42) := ⟨_, rfl⟩
 have hg : (w.alloc O).heap[w.heap.size]? = some (.cells #[.int .i64 kd, .int .i64 ra, .int .i64 n, .slice A l.length c, .string d, .int .i64 why] 42 (0, 0)) := by rw [hO]; exact blk_new w _
 have hb0 : Below w.heap.size w (w.alloc O) := below_alloc (Below.refl _ _) _
 obtain ⟨W1, hW1⟩ : ∃ W1, W1 = w.alloc O := ⟨_, rfl⟩
 rw [← hW1] at hg hb0
 have HG := Aside0.mk hg
 have HB0 := Aside0.mk hb0
 have HW1 := Aside0.mk (hO ▸ hW1)
 have HR := Aside0.mk hr
 have HC := Aside0.mk hc
 clear hR hp hbp hof hgn hbn hbe hsp hg hb0 hW1 hO hr hc
 go_enter Tryd.func10, Tryd.ntmps10
 go_wp2_with (fail)
 rw [← HW1.out]
 refine (ident_Parent.calls ra n A c l r1 r2 r3 r4 bp _ (Kd.C_below HR.out HB0.out) HC.out HP.out).mono ?_
 rintro e w1 ⟨v2, rfl, hrow, hb⟩
 obtain ⟨Ao, co, eo⟩ := Kd.R_slice hrow
 subst eo
 have hg1 := blk_below HG.out hb
 have HB1 := Aside0.mk (below_step HB0.out hb)
 obtain ⟨O2, hO2⟩ : ∃ O, O = (Obj.cells #[.int .i64 r1, .int .i64 r2, .slice Ao r3.length co] 40) := ⟨_, rfl⟩
 have hg2 := blk_below hg1 (below_alloc (Below.refl w1.heap.size w1) O2)
 obtain ⟨W2, hW2⟩ : ∃ W2, W2 = w1.alloc O2 := ⟨_, rfl⟩
 have HB2 := Aside0.mk (show Below w.heap.size w W2 by rw [hW2]; exact below_alloc HB1.out _)
 rw [← hW2] at hg2
 have HW2 := Aside0.mk (hO2 ▸ hW2)
 have h0 : W2.cell? ⟨w.heap.size, 0, none⟩ = some (.int .i64 kd) := (blk_cell hg2 0).trans rfl
 have h4 : W2.cell? ⟨w.heap.size, 4, none⟩ = some (.string d) := (blk_cell hg2 4).trans rfl
 have h5 : W2.cell? ⟨w.heap.size, 5, none⟩ = some (.int .i64 why) := (blk_cell hg2 5).trans rfl
 clear hrow hb hg1 hg2 hW2 hO2
 go_wp2_with (fail)
 rw [← HW2.out]
 go_quiet (fail)
 by_cases k0 : kd < 1
 ·have K0 := Aside0.mk (show decide (1 ≤ kd) = false by rw [decide_eq_false]; omega)
  go_wp2
  go_ret
  refine ⟨(show Ending.returned (.int .i64 130) = Ending.returned (.int .i64 R) from ?_), pw_below_drewN HB2.out _⟩
  rw [HRR.out, HSP.out]; rw [K0.out]; rfl
 by_cases k7 : 7 < kd
 ·have K7 := Aside0.mk (show decide (kd ≤ 7) = false by rw [decide_eq_false]; omega)
  go_wp2
  go_ret
  refine ⟨(show Ending.returned (.int .i64 130) = Ending.returned (.int .i64 R) from ?_), pw_below_drewN HB2.out _⟩
  rw [HRR.out, HSP.out]; rw [K7.out]; simp
 have K0 := Aside0.mk (show decide (1 ≤ kd) = true by rw [decide_eq_true]; omega)
 have K7 := Aside0.mk (show decide (kd ≤ 7) = true by rw [decide_eq_true]; omega)
 have k1 : ¬ (7 < kd) := k7
 cases bp with
 | false =>
  go_wp2
  go_ret
  refine ⟨(show Ending.returned (.int .i64 130) = Ending.returned (.int .i64 R) from ?_), pw_below_drewN HB2.out _⟩
  rw [HRR.out, HSP.out]; simp
 | true =>

  have hsp2 : noteOk kd ra n l d why = (((of == bn) && (of || be)) && ((gn == whyIn why) && (gn || decide (why = 0)))) := by rw [HSP.out, K0.out, K7.out]; rfl
  have HSP := Aside0.mk hsp2
  clear hsp2
  cases of with
  | true =>
   cases bn with
   | true =>
    by_cases w1 : 1 ≤ why
    ·by_cases w9 : why ≤ 9
     ·have HW := Aside0.mk (show whyIn why = true by simp [whyIn, w1, w9])
      cases gn with
      | true =>
       go_wp2_with (go_at_call 28; refine (act_Name.calls 20 d _ _ HN.out).mono ?_; rintro e w4 ⟨rfl, ⟨nd, rfl⟩⟩)
       go_ret
       refine ⟨(show Ending.returned (.int .i64 0) = Ending.returned (.int .i64 R) from ?_), (by repeat (first | exact HB2.out | apply pw_below_drewN))⟩
       rw [HRR.out, HSP.out]; rw [HW.out]; rfl
      | false =>
       go_wp2_with (go_at_call 28; refine (act_Name.calls 20 d _ _ HN.out).mono ?_; rintro e w4 ⟨rfl, ⟨nd, rfl⟩⟩)
       go_ret
       refine ⟨(show Ending.returned (.int .i64 130) = Ending.returned (.int .i64 R) from ?_), (by repeat (first | exact HB2.out | apply pw_below_drewN))⟩
       rw [HRR.out, HSP.out]; rw [HW.out]; rfl
     ·have HW := Aside0.mk (show whyIn why = false by simp [whyIn, w9])
      have z0 : (why != 0) = true := bne_iff_ne.mpr (by omega)
      have Z0 := Aside0.mk (show decide (why = 0) = false from decide_eq_false (by omega))
      cases gn with
      | true =>
       go_wp2_with (go_at_call 28; refine (act_Name.calls 20 d _ _ HN.out).mono ?_; rintro e w4 ⟨rfl, ⟨nd, rfl⟩⟩)
       go_ret
       refine ⟨(show Ending.returned (.int .i64 130) = Ending.returned (.int .i64 R) from ?_), (by repeat (first | exact HB2.out | apply pw_below_drewN))⟩
       rw [HRR.out, HSP.out]; rw [HW.out]; rfl
      | false =>
       go_wp2_with (go_at_call 28; refine (act_Name.calls 20 d _ _ HN.out).mono ?_; rintro e w4 ⟨rfl, ⟨nd, rfl⟩⟩)
       go_ret
       refine ⟨(show Ending.returned (.int .i64 130) = Ending.returned (.int .i64 R) from ?_), (by repeat (first | exact HB2.out | apply pw_below_drewN))⟩
       rw [HRR.out, HSP.out]; rw [HW.out, Z0.out]; rfl
    ·have HW := Aside0.mk (show whyIn why = false by simp [whyIn, w1])
     cases gn with
     | true =>
      go_wp2_with (go_at_call 28; refine (act_Name.calls 20 d _ _ HN.out).mono ?_; rintro e w4 ⟨rfl, ⟨nd, rfl⟩⟩)
      go_ret
      refine ⟨(show Ending.returned (.int .i64 130) = Ending.returned (.int .i64 R) from ?_), (by repeat (first | exact HB2.out | apply pw_below_drewN))⟩
      rw [HRR.out, HSP.out]; rw [HW.out]; rfl
     | false =>
      by_cases z : why = 0
      ·have Z0 := Aside0.mk (show decide (why = 0) = true from decide_eq_true z)
       have z0 : (why != 0) = false := by rw [z]; rfl
       clear z
       go_wp2_with (go_at_call 28; refine (act_Name.calls 20 d _ _ HN.out).mono ?_; rintro e w4 ⟨rfl, ⟨nd, rfl⟩⟩)
       go_ret
       refine ⟨(show Ending.returned (.int .i64 0) = Ending.returned (.int .i64 R) from ?_), (by repeat (first | exact HB2.out | apply pw_below_drewN))⟩
       rw [HRR.out, HSP.out]; rw [HW.out, Z0.out]; rfl
      ·have Z0 := Aside0.mk (show decide (why = 0) = false from decide_eq_false z)
       have z0 : (why != 0) = true := bne_iff_ne.mpr z
       clear z
       go_wp2_with (go_at_call 28; refine (act_Name.calls 20 d _ _ HN.out).mono ?_; rintro e w4 ⟨rfl, ⟨nd, rfl⟩⟩)
       go_ret
       refine ⟨(show Ending.returned (.int .i64 130) = Ending.returned (.int .i64 R) from ?_), (by repeat (first | exact HB2.out | apply pw_below_drewN))⟩
       rw [HRR.out, HSP.out]; rw [HW.out, Z0.out]; rfl
   | false =>
    go_wp2_with (go_at_call 28; refine (act_Name.calls 20 d _ _ HN.out).mono ?_; rintro e w4 ⟨rfl, ⟨nd, rfl⟩⟩)
    go_ret
    refine ⟨(show Ending.returned (.int .i64 130) = Ending.returned (.int .i64 R) from ?_), (by repeat (first | exact HB2.out | apply pw_below_drewN))⟩
    rw [HRR.out, HSP.out]; rfl
  | false =>
   cases bn with
   | true =>
    go_wp2_with (go_at_call 28; refine (act_Name.calls 20 d _ _ HN.out).mono ?_; rintro e w4 ⟨rfl, ⟨nd, rfl⟩⟩)
    go_ret
    refine ⟨(show Ending.returned (.int .i64 130) = Ending.returned (.int .i64 R) from ?_), (by repeat (first | exact HB2.out | apply pw_below_drewN))⟩
    rw [HRR.out, HSP.out]; rfl
   | false =>
    cases be with
    | false =>
     go_wp2_with (go_at_call 28; refine (act_Name.calls 20 d _ _ HN.out).mono ?_; rintro e w4 ⟨rfl, ⟨nd, rfl⟩⟩)
     go_ret
     refine ⟨(show Ending.returned (.int .i64 130) = Ending.returned (.int .i64 R) from ?_), (by repeat (first | exact HB2.out | apply pw_below_drewN))⟩
     rw [HRR.out, HSP.out]; rfl
    | true =>
     by_cases w1 : 1 ≤ why
     ·by_cases w9 : why ≤ 9
      ·have HW := Aside0.mk (show whyIn why = true by simp [whyIn, w1, w9])
       cases gn with
       | true =>
        go_wp2_with (go_at_call 28; refine (act_Name.calls 20 d _ _ HN.out).mono ?_; rintro e w4 ⟨rfl, ⟨nd, rfl⟩⟩)
        go_ret
        refine ⟨(show Ending.returned (.int .i64 0) = Ending.returned (.int .i64 R) from ?_), (by repeat (first | exact HB2.out | apply pw_below_drewN))⟩
        rw [HRR.out, HSP.out]; rw [HW.out]; rfl
       | false =>
        go_wp2_with (go_at_call 28; refine (act_Name.calls 20 d _ _ HN.out).mono ?_; rintro e w4 ⟨rfl, ⟨nd, rfl⟩⟩)
        go_ret
        refine ⟨(show Ending.returned (.int .i64 130) = Ending.returned (.int .i64 R) from ?_), (by repeat (first | exact HB2.out | apply pw_below_drewN))⟩
        rw [HRR.out, HSP.out]; rw [HW.out]; rfl
      ·have HW := Aside0.mk (show whyIn why = false by simp [whyIn, w9])
       have z0 : (why != 0) = true := bne_iff_ne.mpr (by omega)
       have Z0 := Aside0.mk (show decide (why = 0) = false from decide_eq_false (by omega))
       cases gn with
       | true =>
        go_wp2_with (go_at_call 28; refine (act_Name.calls 20 d _ _ HN.out).mono ?_; rintro e w4 ⟨rfl, ⟨nd, rfl⟩⟩)
        go_ret
        refine ⟨(show Ending.returned (.int .i64 130) = Ending.returned (.int .i64 R) from ?_), (by repeat (first | exact HB2.out | apply pw_below_drewN))⟩
        rw [HRR.out, HSP.out]; rw [HW.out]; rfl
       | false =>
        go_wp2_with (go_at_call 28; refine (act_Name.calls 20 d _ _ HN.out).mono ?_; rintro e w4 ⟨rfl, ⟨nd, rfl⟩⟩)
        go_ret
        refine ⟨(show Ending.returned (.int .i64 130) = Ending.returned (.int .i64 R) from ?_), (by repeat (first | exact HB2.out | apply pw_below_drewN))⟩
        rw [HRR.out, HSP.out]; rw [HW.out, Z0.out]; rfl
     ·have HW := Aside0.mk (show whyIn why = false by simp [whyIn, w1])
      cases gn with
      | true =>
       go_wp2_with (go_at_call 28; refine (act_Name.calls 20 d _ _ HN.out).mono ?_; rintro e w4 ⟨rfl, ⟨nd, rfl⟩⟩)
       go_ret
       refine ⟨(show Ending.returned (.int .i64 130) = Ending.returned (.int .i64 R) from ?_), (by repeat (first | exact HB2.out | apply pw_below_drewN))⟩
       rw [HRR.out, HSP.out]; rw [HW.out]; rfl
      | false =>
       by_cases z : why = 0
       ·have Z0 := Aside0.mk (show decide (why = 0) = true from decide_eq_true z)
        have z0 : (why != 0) = false := by rw [z]; rfl
        clear z
        go_wp2_with (go_at_call 28; refine (act_Name.calls 20 d _ _ HN.out).mono ?_; rintro e w4 ⟨rfl, ⟨nd, rfl⟩⟩)
        go_ret
        refine ⟨(show Ending.returned (.int .i64 0) = Ending.returned (.int .i64 R) from ?_), (by repeat (first | exact HB2.out | apply pw_below_drewN))⟩
        rw [HRR.out, HSP.out]; rw [HW.out, Z0.out]; rfl
       ·have Z0 := Aside0.mk (show decide (why = 0) = false from decide_eq_false z)
        have z0 : (why != 0) = true := bne_iff_ne.mpr z
        clear z
        go_wp2_with (go_at_call 28; refine (act_Name.calls 20 d _ _ HN.out).mono ?_; rintro e w4 ⟨rfl, ⟨nd, rfl⟩⟩)
        go_ret
        refine ⟨(show Ending.returned (.int .i64 130) = Ending.returned (.int .i64 R) from ?_), (by repeat (first | exact HB2.out | apply pw_below_drewN))⟩
        rw [HRR.out, HSP.out]; rw [HW.out, Z0.out]; rfl
def note_Check.f (a0_0 : Int) (a0_1 : Int) (a0_2 : Int) (l0_3 : List (S69)) (a0_4 : ByteArray) (a0_5 : Int) : Option Int := some (if noteOk a0_0 a0_1 a0_2 l0_3 a0_4 a0_5 = true then 0 else 130)
theorem note_Check.calls (a0_0 : Int) (a0_1 : Int) (a0_2 : Int) (A0_3 : Option Addr) (c0_3 : Nat) (l0_3 : List (S69)) (a0_4 : ByteArray) (a0_5 : Int) (r : Int) (w : World) (hr0_3 : Kd.C k69 w A0_3 l0_3.length l0_3) (hc0_3 : l0_3.length ≤ c0_3) (h : note_Check.f a0_0 a0_1 a0_2 l0_3 a0_4 a0_5 = some r) :
  Calls Tryd.prog 10 #[.agg #[.int .i64 a0_0, .int .i64 a0_1, .int .i64 a0_2, .slice A0_3 l0_3.length c0_3, .string a0_4, .int .i64 a0_5]] w fun e w' => e = .returned (.int .i64 r) ∧ Below w.heap.size w w' := by
 unfold note_Check.f at h
 obtain rfl := Option.some.inj h
 exact note_Check.at a0_0 a0_1 a0_2 a0_5 a0_4 l0_3 A0_3 c0_3 w hr0_3 hc0_3

end Go.Proofs.YtidobdhkncaljaaDoorK
