-- made by hprint.py out of the translation and the hand texts
import Derived.Test.YtidobdhkncaljaaDoorKMv
import Derived.Test.YtidobdhkncaljaaDoorK0
import Derived.Test.YtidobdhkncaljaaDoorK2
import Derived.Test.YtidobdhkncaljaaDoorK3
namespace Go.Proofs.YtidobdhkncaljaaDoorK
open Go.RowKit Go.Proofs.YtidobdhkncaljaaDoorW.PrintWords Go.Proofs.YtidobdhkncaljaaDoorW.PrintLast Go.Proofs.YtidobdhkncaljaaDoorW.PrintMore
attribute [local go_sem] max2_int min2_int max_two min_two max_three min_three max_four min_four   -- for this text's walks alone
set_option linter.unusedVariables false
set_option linter.unusedSimpArgs false

/-! ### ident_Org: function 14 -/
def ident_Org.f (k : Nat) (a0_0 : Int) (a0_1 : Int) (l0_2 : List (S69)) : Option (Int) := (ident_Check.f a0_0 a0_1 l0_2).bind fun t146 => (if t146 = 0 then ((ident_path.f k a0_0 a0_1 l0_2).bind fun t147 => (if 0 ≤ (wrap64 ((t147.length : Int) - 1)) then (if (wrap64 ((t147.length : Int) - 1)) < (t147.length : Int) then (some (rd t147 (wrap64 ((t147.length : Int) - 1)))) else (none)) else (none))) else (some (-1)))
theorem ident_Org.mono : ∀ a0 a1 a2 k, LeO (ident_Org.f k a0 a1 a2) (ident_Org.f (k + 1) a0 a1 a2) := by
 intro a0 a1 a2 k
 unfold ident_Org.f
 repeat' first
   | (with_reducible exact ident_path.mono _ _ _ _)
   | (with_reducible exact LeO.refl _)
   | (with_reducible exact LeO.none _)
   | (with_reducible refine LeO.ite ?_ ?_)
   | (with_reducible refine LeO.bind ?_ (fun _ => ?_))
   | exact ident_path.mono _ _ _ _
   | exact LeO.none _
   | refine LeO.ite ?_ ?_
   | refine LeO.bind ?_ (fun _ => ?_)
set_option maxHeartbeats 8000000 in
set_option maxRecDepth 100000 in
theorem ident_Org.calls (k : Nat) (a0_0 : Int) (a0_1 : Int) (A0_2 : Option Addr) (c0_2 : Nat) (l0_2 : List (S69)) (r : Int) (w : World) (hr0_2 : Kd.C k69 w A0_2 l0_2.length l0_2) (hc0_2 : l0_2.length ≤ c0_2) (h : ident_Org.f k a0_0 a0_1 l0_2 = some r) :
  Calls Tryd.prog 14 #[.agg #[.int .i64 a0_0, .int .i64 a0_1, .slice A0_2 l0_2.length c0_2]] w fun e w' => e = .returned (.int .i64 r) ∧ Below w.heap.size w w' := by
 have hu40 := Tryd.underlying40
 have HR0_2 := Aside0.mk hr0_2
 have HC0_2 := Aside0.mk hc0_2
 clear hr0_2 hc0_2
 have HB := Aside0.mk (Below.refl w.heap.size w)
 have H : ((ident_Check.f a0_0 a0_1 l0_2).bind fun t146 => (if t146 = 0 then ((ident_path.f k a0_0 a0_1 l0_2).bind fun t147 => (if 0 ≤ (wrap64 ((t147.length : Int) - 1)) then (if (wrap64 ((t147.length : Int) - 1)) < (t147.length : Int) then (some (rd t147 (wrap64 ((t147.length : Int) - 1)))) else (none)) else (none))) else (some (-1)))) = some r := h
 clear h
 replace H := Option.bind_eq_some_iff.mp H
 obtain ⟨t146, A20, H⟩ := H
 replace H : (if t146 = 0 then ((ident_path.f k a0_0 a0_1 l0_2).bind fun t147 => (if 0 ≤ (wrap64 ((t147.length : Int) - 1)) then (if (wrap64 ((t147.length : Int) - 1)) < (t147.length : Int) then (some (rd t147 (wrap64 ((t147.length : Int) - 1)))) else (none)) else (none))) else (some (-1))) = some r := H
 have A2 := Aside0.mk A20
 clear A20
 by_cases c3 : t146 = 0
 ·rw [if_pos c3] at H
  have c3b0 : (t146 == 0) = true := beq_iff_eq.mpr c3
  have c3b1 : (t146 != 0) = false := bne_eq_false_iff_eq.mpr c3
  clear c3
  replace H := Option.bind_eq_some_iff.mp H
  obtain ⟨t147, A40, H⟩ := H
  replace H : (if 0 ≤ (wrap64 ((t147.length : Int) - 1)) then (if (wrap64 ((t147.length : Int) - 1)) < (t147.length : Int) then (some (rd t147 (wrap64 ((t147.length : Int) - 1)))) else (none)) else (none)) = some r := H
  have A4 := Aside0.mk A40
  clear A40
  obtain ⟨ji5, hji5⟩ : ∃ j_ : Int, (wrap64 ((t147.length : Int) - 1)) = j_ := ⟨_, rfl⟩
  replace H : (if 0 ≤ (ji5) then (if (ji5) < (t147.length : Int) then (some (rd t147 (ji5))) else (none)) else (none)) = some r := by first | (rw [hji5] at H; exact H) | (simp only [hji5] at H ⊢; exact H)
  (try rw [hji5] at A2)
  (try rw [hji5] at A4)
  have hji5w : (IntKind.i64.wrap ((t147.length : Int) - 1)) = ji5 := (i64_w _).trans hji5
  by_cases c6 : 0 ≤ (ji5)
  ·rw [if_pos c6] at H
   have c6b0 : decide (0 ≤ (ji5)) = true := decide_eq_true c6
   clear c6
   by_cases c7 : (ji5) < (t147.length : Int)
   ·rw [if_pos c7] at H
    have c7b0 : decide ((ji5) < (t147.length : Int)) = true := decide_eq_true c7
    clear c7
    obtain rfl := Option.some.inj H
    go_enter Tryd.func14, Tryd.ntmps14
    go_wp2_with (first | ((with_reducible refine gate_dst (N := 1) rfl ?_); refine box_event ?hg (N := 1) ?hd (cs := #[.int .i64 a0_0, .int .i64 a0_1, .slice A0_2 l0_2.length c0_2]) (t := 40) ?hr ?_; (case hd => rfl); (case hg => rfl); (case hr => first | (go_simp; done) | (go_simp; rfl)); intro gb145 hg w8 hbox hb; have n0_ := Aside0.mk (below_step (mvL0 HB.out) hb); have n1_ := Aside0.mk (hbox); have n2_ := Aside0.mk ((by rw [hg]; exact (below_size (mvL0 HB.out)) : w.heap.size ≤ gb145)); have n3_ := Aside0.mk ((by rw [hg]; exact (below_size (mvL0 HB.out)) : w.heap.size ≤ gb145)); clear HB; have HB := n0_; have BK145 := n1_; have GW145 := n2_; have GE145 := n3_; clear n0_ n1_ n2_ n3_; clear hb hbox hg; have hcz9_0 : w8.cell? ⟨gb145, 0, none⟩ = some (.int .i64 a0_0) := (blk_cell BK145.out 0).trans rfl; have hcz9_1 : w8.cell? ⟨gb145, 1, none⟩ = some (.int .i64 a0_1) := (blk_cell BK145.out 1).trans rfl; have hcz9_2 : w8.cell? ⟨gb145, 2, none⟩ = some (.slice A0_2 l0_2.length c0_2) := (blk_cell BK145.out 2).trans rfl; have hfz9_0 := blk_frozen BK145.out 0; have hfz9_1 := blk_frozen BK145.out 1; have hfz9_2 := blk_frozen BK145.out 2) | ((with_reducible refine gate_callee (f := 30) rfl ?_); refine goesL_ (some 5) rfl rfl Tryd.func30 (by kernel_rfl) rfl #[.agg #[.int .i64 a0_0, .int .i64 a0_1, .slice A0_2 l0_2.length c0_2]] rfl (by (try simp only [List.map_toArray, List.map_cons, List.map_nil]); first | done | rfl | (simp only [List.length_drop, List.length_take]; rfl)) ?_; (with_reducible refine (ident_Check.calls a0_0 a0_1 _ _ l0_2 t146 _ ?side1 ?side2 A2.out).mono ?_); (case side1 => repeat (first | exact (Kd.C_below HR0_2.out HB.out) | (with_reducible refine Kd.C_alloc ?_ _) | (with_reducible refine Kd.C_drewN ?_ _) | (with_reducible refine Kd.C_drew ?_))); (case side2 => exact HC0_2.out); rintro e w10 ⟨rfl, hb⟩; refine ⟨_, rfl, ?_⟩; have n0_ := Aside0.mk (blk_below (g := gb145) (o := .cells #[.int .i64 a0_0, .int .i64 a0_1, .slice A0_2 l0_2.length c0_2] 40 (0, 0)) (mvB BK145.out) hb); have n1_ := Aside0.mk (below_step (mvL1 HB.out GE145.out) hb); clear BK145; clear HB; have BK145 := n0_; have HB := n1_; clear n0_ n1_; (try clear hb); (try clear hb2); (try clear hk); (try clear hi); have hcz11_0 : w10.cell? ⟨gb145, 0, none⟩ = some (.int .i64 a0_0) := (blk_cell BK145.out 0).trans rfl; have hcz11_1 : w10.cell? ⟨gb145, 1, none⟩ = some (.int .i64 a0_1) := (blk_cell BK145.out 1).trans rfl; have hcz11_2 : w10.cell? ⟨gb145, 2, none⟩ = some (.slice A0_2 l0_2.length c0_2) := (blk_cell BK145.out 2).trans rfl; have hfz11_0 := blk_frozen BK145.out 0; have hfz11_1 := blk_frozen BK145.out 1; have hfz11_2 := blk_frozen BK145.out 2) | ((with_reducible refine gate_callee (f := 31) rfl ?_); refine goesL_ (some 8) rfl rfl Tryd.func31 (by kernel_rfl) rfl #[.agg #[.int .i64 a0_0, .int .i64 a0_1, .slice A0_2 l0_2.length c0_2]] rfl (by (try simp only [List.map_toArray, List.map_cons, List.map_nil]); first | done | rfl | (simp only [List.length_drop, List.length_take]; rfl)) ?_; (with_reducible refine (ident_path.calls k a0_0 a0_1 _ _ l0_2 t147 _ ?side1 ?side2 A4.out).mono ?_); (case side1 => repeat (first | exact (Kd.C_below HR0_2.out HB.out) | (with_reducible refine Kd.C_alloc ?_ _) | (with_reducible refine Kd.C_drewN ?_ _) | (with_reducible refine Kd.C_drew ?_))); (case side2 => exact HC0_2.out); rintro e w12 ⟨v148, rfl, ho0, hb⟩; refine ⟨_, rfl, ?_⟩; have n0_ := Aside0.mk (Kd.R_lower ho0 (below_size (mvL1 HB.out GE145.out))); have n1_ := Aside0.mk (blk_below (g := gb145) (o := .cells #[.int .i64 a0_0, .int .i64 a0_1, .slice A0_2 l0_2.length c0_2] 40 (0, 0)) (mvB BK145.out) hb); have n2_ := Aside0.mk (below_step (mvL1 HB.out GE145.out) hb); clear BK145; clear HB; have HO149 := n0_; have BK145 := n1_; have HB := n2_; clear n0_ n1_ n2_; (try clear hb); (try clear hb2); (try clear hk); (try clear hi); (try clear ho0); obtain ⟨Ao13, co13, eo13⟩ := Kd.R_slice HO149.out; subst eo13; have p150 : 0 ≤ ((ji5) : Int) := of_decide_eq_true (by first | (with_reducible assumption) | assumption); have q150 : (ji5) < (t147.length : Int) := of_decide_eq_true (by first | (with_reducible assumption) | assumption); obtain ⟨ad150, e150, hx150_0⟩ := Kd.at_int (Kd.R_reads' HO149.out).2.2 (ji5) p150 q150; cases e150; replace p150 := eq_true p150; replace q150 := eq_true q150))
    go_ret
    exact ⟨by first | rfl | (simp [errW_none, errW_some] <;> rfl) | (simp only [← hji5]; first | rfl | (simp [errW_none, errW_some] <;> rfl)) | (simp [*, errW_none, errW_some] <;> rfl) | (simp only [h_bne_nil, h_beq_nil] <;> rfl), by repeat (first | (with_reducible first | exact HB.out | apply below_alloc | apply pw_below_drewN | apply below_drew1 | refine below_set ?_ GE145.out) | exact HB.out)⟩
   ·rw [if_neg c7] at H
    exact absurd H (by simp)
  ·rw [if_neg c6] at H
   exact absurd H (by simp)
 ·rw [if_neg c3] at H
  have c3b0 : (t146 == 0) = false := beq_eq_false_iff_ne.mpr c3
  have c3b1 : (t146 != 0) = true := bne_iff_ne.mpr c3
  obtain rfl := Option.some.inj H
  go_enter Tryd.func14, Tryd.ntmps14
  go_wp2_with (first | ((with_reducible refine gate_dst (N := 1) rfl ?_); refine box_event ?hg (N := 1) ?hd (cs := #[.int .i64 a0_0, .int .i64 a0_1, .slice A0_2 l0_2.length c0_2]) (t := 40) ?hr ?_; (case hd => rfl); (case hg => rfl); (case hr => first | (go_simp; done) | (go_simp; rfl)); intro gb145 hg w14 hbox hb; have n0_ := Aside0.mk (below_step (mvL0 HB.out) hb); have n1_ := Aside0.mk (hbox); have n2_ := Aside0.mk ((by rw [hg]; exact (below_size (mvL0 HB.out)) : w.heap.size ≤ gb145)); have n3_ := Aside0.mk ((by rw [hg]; exact (below_size (mvL0 HB.out)) : w.heap.size ≤ gb145)); clear HB; have HB := n0_; have BK145 := n1_; have GW145 := n2_; have GE145 := n3_; clear n0_ n1_ n2_ n3_; clear hb hbox hg; have hcz15_0 : w14.cell? ⟨gb145, 0, none⟩ = some (.int .i64 a0_0) := (blk_cell BK145.out 0).trans rfl; have hcz15_1 : w14.cell? ⟨gb145, 1, none⟩ = some (.int .i64 a0_1) := (blk_cell BK145.out 1).trans rfl; have hcz15_2 : w14.cell? ⟨gb145, 2, none⟩ = some (.slice A0_2 l0_2.length c0_2) := (blk_cell BK145.out 2).trans rfl; have hfz15_0 := blk_frozen BK145.out 0; have hfz15_1 := blk_frozen BK145.out 1; have hfz15_2 := blk_frozen BK145.out 2) | ((with_reducible refine gate_callee (f := 30) rfl ?_); refine goesL_ (some 5) rfl rfl Tryd.func30 (by kernel_rfl) rfl #[.agg #[.int .i64 a0_0, .int .i64 a0_1, .slice A0_2 l0_2.length c0_2]] rfl (by (try simp only [List.map_toArray, List.map_cons, List.map_nil]); first | done | rfl | (simp only [List.length_drop, List.length_take]; rfl)) ?_; (with_reducible refine (ident_Check.calls a0_0 a0_1 _ _ l0_2 t146 _ ?side1 ?side2 A2.out).mono ?_); (case side1 => repeat (first | exact (Kd.C_below HR0_2.out HB.out) | (with_reducible refine Kd.C_alloc ?_ _) | (with_reducible refine Kd.C_drewN ?_ _) | (with_reducible refine Kd.C_drew ?_))); (case side2 => exact HC0_2.out); rintro e w16 ⟨rfl, hb⟩; refine ⟨_, rfl, ?_⟩; have n0_ := Aside0.mk (blk_below (g := gb145) (o := .cells #[.int .i64 a0_0, .int .i64 a0_1, .slice A0_2 l0_2.length c0_2] 40 (0, 0)) (mvB BK145.out) hb); have n1_ := Aside0.mk (below_step (mvL1 HB.out GE145.out) hb); clear BK145; clear HB; have BK145 := n0_; have HB := n1_; clear n0_ n1_; (try clear hb); (try clear hb2); (try clear hk); (try clear hi)))
  go_ret
  exact ⟨by first | rfl | (simp [errW_none, errW_some] <;> rfl) | (simp [*, errW_none, errW_some] <;> rfl) | (simp only [h_bne_nil, h_beq_nil] <;> rfl), by repeat (first | (with_reducible first | exact HB.out | apply below_alloc | apply pw_below_drewN | apply below_drew1 | refine below_set ?_ GE145.out) | exact HB.out)⟩

/-! ### saga_holder_all: function 34, by hand -/
set_option maxHeartbeats 2000000 in
set_option maxRecDepth 100000 in
theorem saga_holder_all.at (g : Nat) (x : S50) (p : Nat → Bool) (K : Nat) (fst caps : Array Value) (W : World) (eg : EntersH K) (hH : HH W g x) (hl : x.f4.length ≤ 1000)
  (hp : ∀ i, i < x.f4.length → ∀ W1, Below W.heap.size W W1 → Calls Tryd.prog K (fst ++ #[.int .i64 (i : Int)] ++ caps) W1 (fun e W' => e = .returned (.bool (p i)) ∧ Below W1.heap.size W1 W')) :
  Calls Tryd.prog 34 #[.pointer (some ⟨g, 0, none⟩), .func (.func K) fst caps] W (fun e W' => e = .returned (.bool ((List.range x.f4.length).all p)) ∧ Below W.heap.size W W') := by
 have HHH := Aside0.mk hH
 have HB := Aside0.mk (Below.refl W.heap.size W)
 have HP := Aside0.mk hp
 clear hH hp
 have eg' : ∀ (args : Array Value) (w : World), (callFunc K args).run Tryd.prog w = .ok (.enter K args) w := eg
 clear eg
 obtain ⟨R, hR⟩ : ∃ R, R = (List.range x.f4.length).all p := ⟨_, rfl⟩
 rw [← hR]
 have HRR := Aside0.mk hR
 clear hR
 obtain ⟨A2, c2, A4, c4, A7, c7, h0, h1, h2, h3, h4, h5, h6, h7, h8, r2, r4, r7⟩ := HHH.out.cells
 clear r2 r4 r7 h0 h1 h2 h3 h4 h5 h6 h8
 go_enter Tryd.func34, Tryd.ntmps34
 go_wp2_with (fail)
 go_loopw [12] (fun v wr => ∃ k : Nat, v = .int .i64 k ∧ k ≤ x.f4.length ∧ Aside0 ((List.range k).all p = true) ∧ Aside0 (Below W.heap.size W wr)) (fun v _ => x.f4.length - (intOf v).toNat)
 case atStart => exact ⟨0, rfl, Nat.zero_le _, ⟨rfl⟩, HB⟩
 case round =>
  obtain ⟨k, rfl, hk, hall, HBk⟩ := hrel
  by_cases hlt : k < x.f4.length
  ·obtain ⟨b, hb⟩ : ∃ b, b = p k := ⟨_, rfl⟩
   have EB := Aside0.mk hb
   clear hb
   go_wp2_with (fail)
   refine (HP.out k hlt _ HBk.out).mono ?_
   rintro e w1 ⟨rfl, hb1⟩
   have HB1 := Aside0.mk (below_step HBk.out hb1)
   clear hb1
   rw [← EB.out]
   cases b with
   | true =>
    go_wp2
    go_roundw
    case rel => exact ⟨k + 1, by go_num, by omega, ⟨by rw [all_range_succ, hall.out, ← EB.out]; rfl⟩, HB1⟩
    case measure => simp [intOf]; omega
   | false =>
    go_wp2
    go_ret
    refine ⟨(show Ending.returned (.bool false) = Ending.returned (.bool R) from ?_), HB1.out⟩
    rw [HRR.out]
    have : (List.range x.f4.length).all p = false := by rw [List.all_eq_false]; exact ⟨k, by simpa using hlt, by rw [← EB.out]; simp⟩
    rw [this]
  ·have hkl : k = x.f4.length := by omega
   have HKL := Aside0.mk hkl
   clear hkl
   go_wp2
   go_ret
   refine ⟨(show Ending.returned (.bool true) = Ending.returned (.bool R) from ?_), HBk.out⟩
   rw [HRR.out, ← HKL.out, hall.out]

/-! ### saga_holder_asks: function 36, by hand -/
set_option maxHeartbeats 1000000 in
set_option maxRecDepth 100000 in
theorem saga_holder_asks.at (g : Nat) (x : S50) (i : Nat) (W : World) (hH : HH W g x) (hi : i < x.f1.f1.length) :
  Calls Tryd.prog 36 #[.pointer (some ⟨g, 0, none⟩), .int .i64 (i : Int)] W (fun e W' => e = .returned (.bool (askAt x i)) ∧ Below W.heap.size W W') := by
 obtain ⟨A2, c2, A4, c4, A7, c7, h0, h1, h2, h3, h4, h5, h6, h7, h8, r2, r4, r7⟩ := hH.cells
 obtain ⟨ad, he, hx0, hx1, hx2, hx3, hx4, hx5, hx6⟩ := at_T60 r4 (i : Int) (by omega) (by omega)
 subst he
 have hm := Kd.C_max r4
 clear r2 r4 r7 hH
 simp only [Int.toNat_natCast] at *
 obtain ⟨R, hR⟩ : ∃ R, R = askAt x i := ⟨_, rfl⟩
 rw [← hR]
 have HRR := Aside0.mk hR
 clear hR
 have HB := Aside0.mk (Below.refl W.heap.size W)
 go_enter Tryd.func36, Tryd.ntmps36
 go_wp2
 go_ret
 refine ⟨(show Ending.returned (.bool (!(rd_T60 x.f1.f1 (i : Int)).f2.toList.isEmpty)) = Ending.returned (.bool R) from ?_), HB.out⟩
 rw [HRR.out]
 rfl

/-! ### slices_Index_int_int: function 90 -/
def slices_Index_int_int.l0 : Nat → List Int → Int → Int → Int → Option (Int)
 | 0, _, _, _, _ => none
 | k + 1, x0, x1, x7, x8 => if x8 < x7 then (if 0 ≤ x8 then (if x8 < (x0.length : Int) then (if x1 = (rd x0 x8) then (some x8) else (slices_Index_int_int.l0 k x0 x1 x7 (wrap64 (x8 + 1)))) else (none)) else (none)) else (some (-1))
def slices_Index_int_int.f (k : Nat) (l0 : List Int) (a1 : Int) : Option (Int) := slices_Index_int_int.l0 k l0 a1 (l0.length : Int) 0
theorem slices_Index_int_int.mono_l : ∀ k, (∀ y0 y1 y2 y3, LeO (slices_Index_int_int.l0 k y0 y1 y2 y3) (slices_Index_int_int.l0 (k + 1) y0 y1 y2 y3))
 | 0 => fun _ _ _ _ r h => by simp [slices_Index_int_int.l0] at h
 | k + 1 => by
  have ih0 := slices_Index_int_int.mono_l k
  ·intro y0 y1 y2 y3
   unfold slices_Index_int_int.l0
   repeat' first
   | (with_reducible exact ih0 _ _ _ _)
   | (with_reducible exact LeO.refl _)
   | (with_reducible exact LeO.none _)
   | (with_reducible refine LeO.ite ?_ ?_)
   | (with_reducible refine LeO.bind ?_ (fun _ => ?_))
   | exact ih0 _ _ _ _
   | exact LeO.none _
   | refine LeO.ite ?_ ?_
   | refine LeO.bind ?_ (fun _ => ?_)
theorem slices_Index_int_int.mono : ∀ a0 a1 k, LeO (slices_Index_int_int.f k a0 a1) (slices_Index_int_int.f (k + 1) a0 a1) := by
 intro a0 a1 k
 have ih0 := slices_Index_int_int.mono_l k
 unfold slices_Index_int_int.f
 repeat' first
   | (with_reducible exact ih0 _ _ _ _)
   | (with_reducible exact LeO.refl _)
   | (with_reducible exact LeO.none _)
   | (with_reducible refine LeO.ite ?_ ?_)
   | (with_reducible refine LeO.bind ?_ (fun _ => ?_))
   | exact ih0 _ _ _ _
   | exact LeO.none _
   | refine LeO.ite ?_ ?_
   | refine LeO.bind ?_ (fun _ => ?_)
set_option maxHeartbeats 8000000 in
set_option maxRecDepth 100000 in
theorem slices_Index_int_int.calls (k : Nat) (A0 : Option Addr) (c0 : Nat) (l0 : List Int) (a1 : Int) (r : Int) (w : World) (hr0 : Kd.C (Kd.int .i64) w A0 l0.length l0) (hc0 : l0.length ≤ c0) (h : slices_Index_int_int.f k l0 a1 = some r) :
  Calls Tryd.prog 90 #[.slice A0 l0.length c0, .int .i64 a1] w fun e w' => e = .returned (.int .i64 r) ∧ Drawn0 w w' := by
 have HR0 := Aside0.mk hr0
 have HC0 := Aside0.mk hc0
 clear hr0 hc0
 have H : (slices_Index_int_int.l0 k l0 a1 (l0.length : Int) 0) = some r := h
 clear h
 have H' := Aside0.mk H
 clear H
 go_enter Tryd.func90, Tryd.ntmps90
 go_wp2
 go_loopg [8] k (fun kq v8 w' => ∃ (x8_1 : Int), v8 = .int .i64 x8_1 ∧ Aside0 (slices_Index_int_int.l0 kq l0 a1 (l0.length : Int) x8_1 = some r) ∧ Aside0 (kq ≤ k) ∧ Drawn0 w w')
 case atStart => exact ⟨(0), (by first | rfl | (simp; done) | (simp [*]; done)), H', ⟨Nat.le_refl _⟩, by repeat (first | exact Drawn0.refl _ | apply Drawn0.step)⟩
 case round =>
  clear H'
  try clear p2
  obtain ⟨x8_1, rfl, HA, HK1, ⟨m1, rfl⟩⟩ := hrel
  cases gk with
  | zero => exact absurd HA.out (by simp [slices_Index_int_int.l0])
  | succ k1 =>
   have H := HA.out
   clear HA
   simp only [slices_Index_int_int.l0] at H
   by_cases c3 : x8_1 < (l0.length : Int)
   ·rw [if_pos c3] at H
    have c3b0 : decide (x8_1 < (l0.length : Int)) = true := decide_eq_true c3
    clear c3
    by_cases c4 : 0 ≤ x8_1
    ·rw [if_pos c4] at H
     have c4b0 : decide (0 ≤ x8_1) = true := decide_eq_true c4
     clear c4
     by_cases c5 : x8_1 < (l0.length : Int)
     ·rw [if_pos c5] at H
      have c5b0 : decide (x8_1 < (l0.length : Int)) = true := decide_eq_true c5
      clear c5
      by_cases c6 : a1 = (rd l0 x8_1)
      ·rw [if_pos c6] at H
       have c6b0 : (a1 == (rd l0 x8_1)) = true := beq_iff_eq.mpr c6
       have c6b1 : (a1 != (rd l0 x8_1)) = false := bne_eq_false_iff_eq.mpr c6
       clear c6
       obtain rfl := Option.some.inj H
       have p151 : 0 ≤ (x8_1 : Int) := of_decide_eq_true (by first | (with_reducible assumption) | assumption)
       have q151 : x8_1 < (l0.length : Int) := of_decide_eq_true (by first | (with_reducible assumption) | assumption)
       obtain ⟨ad151, e151, hx151_0⟩ := Kd.at_int HR0.out x8_1 p151 q151
       cases e151
       replace p151 := eq_true p151
       replace q151 := eq_true q151
       go_wp2
       go_ret
       exact ⟨by first | rfl | (simp; done) | (simp [*]; done), by repeat (first | exact Drawn0.refl _ | apply Drawn0.step)⟩
      ·rw [if_neg c6] at H
       have c6b0 : (a1 == (rd l0 x8_1)) = false := beq_eq_false_iff_ne.mpr c6
       have c6b1 : (a1 != (rd l0 x8_1)) = true := bne_iff_ne.mpr c6
       have H' := Aside0.mk H
       clear H
       have p151 : 0 ≤ (x8_1 : Int) := of_decide_eq_true (by first | (with_reducible assumption) | assumption)
       have q151 : x8_1 < (l0.length : Int) := of_decide_eq_true (by first | (with_reducible assumption) | assumption)
       obtain ⟨ad151, e151, hx151_0⟩ := Kd.at_int HR0.out x8_1 p151 q151
       cases e151
       replace p151 := eq_true p151
       replace q151 := eq_true q151
       go_wp2
       go_roundg k1
       case measure => have := HK1.out; omega
       case rel => exact ⟨(wrap64 (x8_1 + 1)), (by first | rfl | (simp; done) | (simp [*]; done)), H', ⟨by have := HK1.out; omega⟩, by repeat (first | exact Drawn0.refl _ | apply Drawn0.step)⟩
     ·rw [if_neg c5] at H
      exact absurd H (by simp)
    ·rw [if_neg c4] at H
     exact absurd H (by simp)
   ·rw [if_neg c3] at H
    have c3b0 : decide (x8_1 < (l0.length : Int)) = false := decide_eq_false c3
    clear c3
    obtain rfl := Option.some.inj H
    go_wp2
    go_ret
    exact ⟨by first | rfl | (simp; done) | (simp [*]; done), by repeat (first | exact Drawn0.refl _ | apply Drawn0.step)⟩

/-! ### slices_Contains_int_int: function 85 -/
def slices_Contains_int_int.f (k : Nat) (l0 : List Int) (a1 : Int) : Option (Bool) := (slices_Index_int_int.f k l0 a1).bind fun t152 => (some (decide (t152 ≥ 0)))
theorem slices_Contains_int_int.mono : ∀ a0 a1 k, LeO (slices_Contains_int_int.f k a0 a1) (slices_Contains_int_int.f (k + 1) a0 a1) := by
 intro a0 a1 k
 unfold slices_Contains_int_int.f
 repeat' first
   | (with_reducible exact slices_Index_int_int.mono _ _ _)
   | (with_reducible exact LeO.refl _)
   | (with_reducible exact LeO.none _)
   | (with_reducible refine LeO.ite ?_ ?_)
   | (with_reducible refine LeO.bind ?_ (fun _ => ?_))
   | exact slices_Index_int_int.mono _ _ _
   | exact LeO.none _
   | refine LeO.ite ?_ ?_
   | refine LeO.bind ?_ (fun _ => ?_)
set_option maxHeartbeats 8000000 in
set_option maxRecDepth 100000 in
theorem slices_Contains_int_int.calls (k : Nat) (A0 : Option Addr) (c0 : Nat) (l0 : List Int) (a1 : Int) (r : Bool) (w : World) (hr0 : Kd.C (Kd.int .i64) w A0 l0.length l0) (hc0 : l0.length ≤ c0) (h : slices_Contains_int_int.f k l0 a1 = some r) :
  Calls Tryd.prog 85 #[.slice A0 l0.length c0, .int .i64 a1] w fun e w' => e = .returned (.bool r) ∧ Drawn0 w w' := by
 have HR0 := Aside0.mk hr0
 have HC0 := Aside0.mk hc0
 clear hr0 hc0
 have H : ((slices_Index_int_int.f k l0 a1).bind fun t152 => (some (decide (t152 ≥ 0)))) = some r := h
 clear h
 replace H := Option.bind_eq_some_iff.mp H
 obtain ⟨t152, A30, H⟩ := H
 replace H : (some (decide (t152 ≥ 0))) = some r := H
 have A3 := Aside0.mk A30
 clear A30
 obtain rfl := Option.some.inj H
 go_enter Tryd.func85, Tryd.ntmps85
 go_wp2_with (first | ((with_reducible refine gate_callee (f := 90) rfl ?_); refine goesL_ (some 7) rfl rfl Tryd.func90 (by kernel_rfl) rfl #[.slice A0 l0.length c0, .int .i64 a1] rfl (by (try simp only [List.map_toArray, List.map_cons, List.map_nil]); first | done | rfl | (simp only [List.length_drop, List.length_take]; rfl)) ?_; (with_reducible refine (slices_Index_int_int.calls k _ _ l0 a1 t152 _ ?side1 ?side2 A3.out).mono ?_); (case side1 => repeat (first | exact HR0.out | (with_reducible refine Kd.C_alloc ?_ _) | (with_reducible refine Kd.C_drewN ?_ _) | (with_reducible refine Kd.C_drew ?_))); (case side2 => exact HC0.out); rintro e w' ⟨rfl, ⟨nd, rfl⟩⟩; refine ⟨_, rfl, ?_⟩))
 go_ret
 exact ⟨by first | rfl | (simp; done) | (simp [*]; done), by repeat (first | exact Drawn0.refl _ | apply Drawn0.step)⟩

/-! ### saga_holder_stands: function 61, by hand -/
theorem slices_Index_int_f (l : List Int) (v : Int) (hl : l.length ≤ 1000) : ∀ (d k i : Nat), i + d = l.length → d < k → slices_Index_int_int.l0 k l v (l.length : Int) (i : Int) = some (match (l.drop i).findIdx? (fun y => decide (v = y)) with | some j => ((i + j : Nat) : Int) | none => -1) := by
 intro d
 induction d with
 | zero =>
  intro k i hi hk
  obtain ⟨k, rfl⟩ : ∃ m, k = m + 1 := ⟨k - 1, by omega⟩
  simp only [slices_Index_int_int.l0]
  rw [if_neg (by omega), List.drop_of_length_le (by omega)]
  simp
 | succ d ih =>
  intro k i hi hk
  obtain ⟨k, rfl⟩ : ∃ m, k = m + 1 := ⟨k - 1, by omega⟩
  have hlt : i < l.length := by omega
  simp only [slices_Index_int_int.l0]
  rw [if_pos (by omega), if_pos (by omega), if_pos (by omega), List.drop_eq_getElem_cons hlt, List.findIdx?_cons]
  have e : rd l (i : Int) = l[i] := by simp [rd, hlt]
  rw [e]
  by_cases hv : v = l[i]
  ·rw [if_pos hv]
   simp [hv]
  ·rw [if_neg hv, wrap_up (by omega) (by omega), show ((i : Int) + 1) = ((i + 1 : Nat) : Int) by omega, ih k (i + 1) (by omega) (by omega)]
   simp only [hv, decide_false, Bool.false_eq_true, if_false]
   cases h : (l.drop (i + 1)).findIdx? (fun y => decide (v = y)) with
   | none => simp only [Option.map_none]
   | some j =>
    simp only [Option.map_some]
    rw [show i + 1 + j = i + (j + 1) by omega]
theorem slices_Contains_int_f (l : List Int) (v : Int) (hl : l.length ≤ 1000) (k : Nat) (hk : l.length < k) : slices_Contains_int_int.f k l v = some (l.any (fun y => decide (v = y))) := by
 unfold slices_Contains_int_int.f slices_Index_int_int.f
 have h0 : (l.findIdx? fun y => decide (v = y)) = ((l.drop 0).findIdx? fun y => decide (v = y)) := by simp
 have h := slices_Index_int_f l v hl l.length k 0 (by omega) hk
 rw [Int.natCast_zero] at h
 rw [h, ← h0]
 simp only [Option.bind_some]
 congr 1
 have := idxF_nonneg (fun y => decide (v = y)) l
 unfold idxF at this
 rw [← this]
 cases hf : l.findIdx? (fun y => decide (v = y)) with
 | none => simp
 | some j => simp
set_option maxHeartbeats 1000000 in
set_option maxRecDepth 100000 in
theorem saga_holder_stands.at (g : Nat) (x : S50) (i : Nat) (A : Option Addr) (c : Nat) (l : List Int) (W : World) (hH : HH W g x) (hi : i < x.f4.length) (hl : l.length ≤ 1000) (hr : Kd.C (Kd.int .i64) W A l.length l) (hc : l.length ≤ c) :
  Calls Tryd.prog 61 #[.pointer (some ⟨g, 0, none⟩), .int .i64 (i : Int), .slice A l.length c] W (fun e W' => e = .returned (.bool (l.any (fun y => decide (stAt x i = y)))) ∧ Below W.heap.size W W') := by
 obtain ⟨A2, c2, A4, c4, A7, c7, h0, h1, h2, h3, h4, h5, h6, h7, h8, r2, r4, r7⟩ := hH.cells
 obtain ⟨ad, he, hx0, hx1⟩ := at_T62 r7 (i : Int) (by omega) (by omega)
 subst he
 have hm := Kd.C_max r7
 clear r2 r4 r7 hH
 simp only [Int.toNat_natCast] at *
 obtain ⟨R, hR⟩ : ∃ R, R = l.any (fun y => decide (stAt x i = y)) := ⟨_, rfl⟩
 rw [← hR]
 have HRR := Aside0.mk hR
 have HR := Aside0.mk hr
 have HC := Aside0.mk hc
 have HL := Aside0.mk hl
 clear hR hr hc hl
 have HB := Aside0.mk (Below.refl W.heap.size W)
 go_enter Tryd.func61, Tryd.ntmps61
 go_wp2_with (fail)
 refine (slices_Contains_int_int.calls 1001 _ _ l _ R _ HR.out HC.out (by rw [slices_Contains_int_f l _ HL.out 1001 (by have := HL.out; omega), HRR.out]; rfl)).mono ?_
 rintro e w1 ⟨rfl, hb⟩
 have HB1 := Aside0.mk (by first | exact hb | exact hb.below : Below W.heap.size W w1)
 clear hb
 go_wp2
 go_ret
 exact ⟨rfl, HB1.out⟩

/-! ### saga_holder_some: function 38, by hand -/
def stIn (x : S50) (l : List Int) (i : Nat) : Bool := l.any (fun y => decide (stAt x i = y))
def someOf (x : S50) (l : List Int) : Bool := !(List.range x.f4.length).all (fun i => !stIn x l i)
set_option maxHeartbeats 2000000 in
set_option maxRecDepth 100000 in
theorem saga_holder_some_1.at (g b1 b2 : Nat) (x : S50) (i : Nat) (A : Option Addr) (c : Nat) (l : List Int) (W : World) (hH : HH W g x) (hi : i < x.f4.length) (hl : l.length ≤ 1000) (hr : Kd.C (Kd.int .i64) W A l.length l) (hc : l.length ≤ c)
  (h1 : W.cell? ⟨b1, 0, none⟩ = some (.pointer (some ⟨g, 0, none⟩))) (h2 : W.cell? ⟨b2, 0, none⟩ = some (.slice A l.length c)) :
  Calls Tryd.prog 64 #[.int .i64 (i : Int), .pointer (some ⟨b1, 0, none⟩), .pointer (some ⟨b2, 0, none⟩)] W (fun e W' => e = .returned (.bool (!stIn x l i)) ∧ Below W.heap.size W W') := by
 have HHH := Aside0.mk hH
 have HB := Aside0.mk (Below.refl W.heap.size W)
 have HR := Aside0.mk hr
 have HC := Aside0.mk hc
 have HL := Aside0.mk hl
 have HI := Aside0.mk hi
 clear hH hr hc hl hi
 go_enter Tryd.func64, Tryd.ntmps64
 go_wp2_with (fail)
 refine (saga_holder_stands.at g x i _ _ l _ HHH.out HI.out HL.out HR.out HC.out).mono ?_
 rintro e w1 ⟨rfl, hb⟩
 have HB1 := Aside0.mk hb
 clear hb
 obtain ⟨R, hR⟩ : ∃ R, R = l.any (fun y => decide (stAt x i = y)) := ⟨_, rfl⟩
 rw [← hR]
 have HRR := Aside0.mk hR
 clear hR
 go_wp2
 go_ret
 refine ⟨(show Ending.returned (.bool (!R)) = Ending.returned (.bool (!stIn x l i)) from ?_), HB1.out⟩
 rw [HRR.out]
 rfl
set_option maxHeartbeats 2000000 in
set_option maxRecDepth 100000 in
theorem saga_holder_some.at (g : Nat) (x : S50) (A : Option Addr) (c : Nat) (l : List Int) (W : World) (hH : HH W g x) (hxl : x.f4.length ≤ 1000) (hl : l.length ≤ 1000) (hr : Kd.C (Kd.int .i64) W A l.length l) (hc : l.length ≤ c) :
  Calls Tryd.prog 38 #[.pointer (some ⟨g, 0, none⟩), .slice A l.length c] W (fun e W' => e = .returned (.bool (someOf x l)) ∧ Below W.heap.size W W') := by
 have HHH := Aside0.mk hH
 have HB := Aside0.mk (Below.refl W.heap.size W)
 have HR := Aside0.mk hr
 have HC := Aside0.mk hc
 have HL := Aside0.mk hl
 clear hH hr hc hl
 have eg : EntersH 64 := entersH Tryd.func64 (by kernel_rfl) rfl
 have EG := Aside0.mk eg
 clear eg
 obtain ⟨W2, hW2⟩ : ∃ W2, W2 = (W.alloc (.cells #[.pointer (some ⟨g, 0, none⟩)] 86)).alloc (.cells #[.slice A l.length c] 84) := ⟨_, rfl⟩
 have hb2 : Below W.heap.size W W2 := by rw [hW2]; exact below_alloc (below_alloc (Below.refl _ _) _) _
 have hc1 : W2.cell? ⟨W.heap.size, 0, none⟩ = some (.pointer (some ⟨g, 0, none⟩)) := by rw [hW2]; exact (blk_cell (blk_alloc (blk_new W _) _) 0).trans rfl
 have hc2 : W2.cell? ⟨W.heap.size + 1, 0, none⟩ = some (.slice A l.length c) := by
  rw [hW2]
  have h := blk_new (W.alloc (.cells #[.pointer (some ⟨g, 0, none⟩)] 86)) (.cells #[.slice A l.length c] 84)
  rw [World.size_alloc] at h
  exact (blk_cell h 0).trans rfl
 have HB2 := Aside0.mk hb2
 have HC1 := Aside0.mk hc1
 have HC2 := Aside0.mk hc2
 have HW2 := Aside0.mk hW2
 clear hb2 hc1 hc2 hW2
 go_enter Tryd.func38, Tryd.ntmps38
 go_wp2_with (fail)
 rw [← HW2.out]
 refine (saga_holder_all.at g x (fun i => !stIn x l i) _ #[] #[.pointer (some ⟨W.heap.size, 0, none⟩), .pointer (some ⟨W.heap.size + 1, 0, none⟩)] _ EG.out (HHH.out.below HB2.out) hxl ?hp).mono ?_
 case hp =>
  intro i hi W1 hb1
  exact saga_holder_some_1.at g _ _ x i A c l W1 ((HHH.out.below HB2.out).below hb1) hi HL.out (Kd.C_below (Kd.C_below HR.out HB2.out) hb1) HC.out (pw_cell_below hb1 HC1.out) (pw_cell_below hb1 HC2.out)
 rintro e w1 ⟨rfl, hb⟩
 have HB1 := Aside0.mk (below_step HB2.out hb)
 clear hb
 obtain ⟨R, hR⟩ : ∃ R, R = (List.range x.f4.length).all (fun i => !stIn x l i) := ⟨_, rfl⟩
 rw [← hR]
 have HRR := Aside0.mk hR
 clear hR
 go_wp2
 go_ret
 refine ⟨(show Ending.returned (.bool (!R)) = Ending.returned (.bool (someOf x l)) from ?_), HB1.out⟩
 rw [HRR.out]
 rfl

/-! ### slices_IndexFunc_api_Part_api_Part: function 65, by hand -/
set_option maxHeartbeats 1000000 in
set_option maxRecDepth 100000 in
theorem slices_IndexFunc_api_Part_api_Part.pred (p : S62 → Bool) (K : Nat) (w : World) (A : Option Addr) (c : Nat) (l : List (S62)) (eg : EntersH K) (hr : Kd.C k62 w A l.length l)
  (hp : ∀ x ∈ l, ∀ W, Below w.heap.size w W → ∀ cs, Kd.K k62 W x cs → Calls Tryd.prog K #[.agg cs.toArray] W (fun e W' => e = .returned (.bool (p x)) ∧ Below W.heap.size W W')) :
  Calls Tryd.prog 65 #[.slice A l.length c, .func (.func K) #[] #[]] w (fun e w' => e = .returned (.int .i64 (idxF p l)) ∧ Below w.heap.size w w') := by
 have eg' : ∀ (args : Array Value) (w : World), (callFunc K args).run Tryd.prog w = .ok (.enter K args) w := eg
 clear eg
 have HR := Aside0.mk hr
 have HP := Aside0.mk hp
 have hm := Kd.C_max hr
 clear hr hp
 have HB0 := Aside0.mk (Below.refl w.heap.size w)
 obtain ⟨R, hR⟩ : ∃ R, R = idxF p l := ⟨_, rfl⟩
 rw [← hR]
 have HRR := Aside0.mk hR
 clear hR
 go_enter Tryd.func65, Tryd.ntmps65
 go_wp2
 go_loopw [8] (fun v wr => ∃ k : Nat, v = .int .i64 k ∧ k ≤ l.length ∧ Aside0 (∀ x ∈ l.take k, p x = false) ∧ Aside0 (Below w.heap.size w wr)) (fun v _ => l.length - (intOf v).toNat)
 case atStart => exact ⟨0, rfl, Nat.zero_le _, ⟨fun x hx => by simp at hx⟩, HB0⟩
 case round =>
  obtain ⟨k, rfl, hk, hno, HBk⟩ := hrel
  by_cases hlt : k < l.length
  ·obtain ⟨ad_a, he_a, hx_a_0, hx_a_1⟩ := at_T62 (Kd.C_below HR.out HBk.out) (k : Int) (by omega) (by omega)
   subst he_a
   simp only [Int.toNat_natCast] at *
   have hmem : rd_T62 l (k : Int) ∈ l := by simp [rd_T62, hlt]
   have HM := Aside0.mk hmem
   clear hmem
   by_cases hpx : p (rd_T62 l (k : Int)) = true
   ·have HX := Aside0.mk hpx
    clear hpx
    go_wp2_with (fail)
    refine (HP.out _ HM.out wr HBk.out [.int .i64 ((rd_T62 l (k : Int)).f0), .int .i64 ((rd_T62 l (k : Int)).f1)] (k62_mk wr (rd_T62 l (k : Int)))).mono ?_
    rintro e w1 ⟨rfl, hb1⟩
    rw [HX.out]
    go_wp2
    go_ret
    refine ⟨(show Ending.returned (.int .i64 (k : Int)) = Ending.returned (.int .i64 R) from ?_), below_step HBk.out hb1⟩
    have e1 : p l[k] = true := by have := HX.out; simpa [rd_T62, hlt] using this
    rw [HRR.out, idxF_at p l k hlt hno.out e1]
   ·have HX := Aside0.mk (Bool.eq_false_iff.mpr hpx)
    clear hpx
    go_wp2_with (fail)
    refine (HP.out _ HM.out wr HBk.out [.int .i64 ((rd_T62 l (k : Int)).f0), .int .i64 ((rd_T62 l (k : Int)).f1)] (k62_mk wr (rd_T62 l (k : Int)))).mono ?_
    rintro e w1 ⟨rfl, hb1⟩
    rw [HX.out]
    go_wp2
    go_roundw
    case rel => exact ⟨k + 1, by go_num, by omega, ⟨fun x hx => by
     rw [List.take_succ_eq_append_getElem hlt] at hx
     rcases List.mem_append.1 hx with hx | hx
     ·exact hno.out x hx
     ·rw [List.mem_singleton.1 hx]
      have := HX.out
      simpa [rd_T62, hlt] using this⟩, ⟨below_step HBk.out hb1⟩⟩
    case measure => simp [intOf]; omega
  ·go_wp2
   go_ret
   refine ⟨(show Ending.returned (.int .i64 (-1)) = Ending.returned (.int .i64 R) from ?_), HBk.out⟩
   have hq := hno.out
   rw [List.take_of_length_le (by omega)] at hq
   rw [HRR.out, idxF_none p l hq]

/-! ### saga_holder_current: function 39, by hand -/
def backN (x : S50) : Nat → Int
 | 0 => -1
 | d + 1 => if (decide (stAt x d = 1) || decide (stAt x d = 2)) = true then (d : Int) else backN x d
/-- The current step. -/
def curOf (x : S50) : Int := if x.f2 = 1 then idxF (fun p => decide (¬ p.f0 = 2)) x.f4 else if x.f2 = 4 ∨ x.f2 = 5 then backN x x.f4.length else -1
set_option maxHeartbeats 2000000 in
set_option maxRecDepth 100000 in
theorem saga_holder_current.at (g : Nat) (x : S50) (W : World) (hH : HH W g x) (hxl : x.f4.length ≤ 1000) :
  Calls Tryd.prog 39 #[.pointer (some ⟨g, 0, none⟩)] W (fun e W' => e = .returned (.int .i64 (curOf x)) ∧ Below W.heap.size W W') := by
 have HHH := Aside0.mk hH
 have HB := Aside0.mk (Below.refl W.heap.size W)
 clear hH
 have eg : EntersH 66 := entersH Tryd.func66 (by kernel_rfl) rfl
 have EG := Aside0.mk eg
 clear eg
 obtain ⟨A2, c2, A4, c4, A7, c7, h0, h1, h2, h3, h4, h5, h6, h7, h8, r2, r4, r7⟩ := HHH.out.cells
 clear r2 r4 h0 h1 h2 h3 h4 h6 h8
 have HR7 := Aside0.mk r7
 clear r7
 obtain ⟨R, hR⟩ : ∃ R, R = curOf x := ⟨_, rfl⟩
 rw [← hR]
 have HRR := Aside0.mk hR
 clear hR
 by_cases s1 : x.f2 = 1
 ·have hcur : curOf x = idxF (fun p => decide (¬ p.f0 = 2)) x.f4 := by simp [curOf, s1]
  have HCUR := Aside0.mk hcur
  rw [s1] at h5
  clear hcur s1
  go_enter Tryd.func39, Tryd.ntmps39
  go_wp2_with (fail)
  refine (slices_IndexFunc_api_Part_api_Part.pred (fun p => decide (¬ p.f0 = 2)) _ _ _ _ x.f4 EG.out HR7.out ?hp).mono ?_
  case hp =>
   intro y _ W1 hb1 cs hK
   obtain rfl := k62_open hK
   refine (saga_holder_current_1.calls y.f0 y.f1 (decide (¬ y.f0 = 2)) W1 ?hf).mono ?_
   case hf =>
    unfold saga_holder_current_1.f
    by_cases hy : y.f0 = 2 <;> simp [hy]
   rintro e w' ⟨rfl, hb⟩
   exact ⟨rfl, hb⟩
  rintro e w1 ⟨rfl, hb⟩
  have HB1 := Aside0.mk hb
  clear hb
  rw [← HCUR.out, ← HRR.out]
  go_wp2
  go_ret
  exact ⟨rfl, HB1.out⟩
 ·by_cases s2 : x.f2 = 4 ∨ x.f2 = 5
  ·have hcur : curOf x = backN x x.f4.length := by simp only [curOf]; rw [if_neg s1, if_pos s2]
   have HCUR := Aside0.mk hcur
   clear hcur
   have hloop : ∀ st : Int, st = 4 ∨ st = 5 → W.cell? ⟨g, 5, none⟩ = some (.int .i64 st) → Calls Tryd.prog 39 #[.pointer (some ⟨g, 0, none⟩)] W (fun e W' => e = .returned (.int .i64 R) ∧ Below W.heap.size W W') := by
    intro st hst hc5
    clear h5 s1 s2
    rcases hst with rfl | rfl
    all_goals
     go_enter Tryd.func39, Tryd.ntmps39
     go_wp2_with (fail)
     go_loopw [3] (fun v wr => ∃ d : Nat, v = .int .i64 ((d : Int) - 1) ∧ d ≤ x.f4.length ∧ Aside0 (backN x d = backN x x.f4.length) ∧ Aside0 (Below W.heap.size W wr)) (fun v _ => (intOf v + 1).toNat)
     case atStart => exact ⟨x.f4.length, rfl, Nat.le_refl _, ⟨rfl⟩, HB⟩
     case round =>
      obtain ⟨d, hv, hd, hbk, HBk⟩ := hrel
      rcases d with _ | d
      ·have hv' : u3 = .int .i64 (-1) := by rw [hv]; rfl
       subst hv'
       clear hv
       go_wp2
       go_ret
       refine ⟨(show Ending.returned (.int .i64 (-1)) = Ending.returned (.int .i64 R) from ?_), HBk.out⟩
       rw [HRR.out, HCUR.out, ← hbk.out]
       rfl
      ·have hv' : u3 = .int .i64 (d : Int) := by rw [hv]; first | done | (congr 1; omega)
       subst hv'
       clear hv
       obtain ⟨b, hb⟩ : ∃ b, b = (decide (stAt x d = 1) || decide (stAt x d = 2)) := ⟨_, rfl⟩
       have EB := Aside0.mk hb
       clear hb
       go_wp2_with (fail)
       refine (saga_holder_stands.at g x d _ _ [1, 2] _ ((HHH.out.below HBk.out).below (below_alloc (Below.refl _ _) _)) (by omega) (by simp) (lit2_reads wr _ 1 2) (by simp)).mono ?_
       rintro e w1 ⟨rfl, hb1⟩
       have HB1 := Aside0.mk (below_step (below_alloc HBk.out _) hb1)
       clear hb1
       rw [any2, ← EB.out]
       cases b with
       | true =>
        go_wp2
        go_ret
        refine ⟨(show Ending.returned (.int .i64 (d : Int)) = Ending.returned (.int .i64 R) from ?_), HB1.out⟩
        rw [HRR.out, HCUR.out, ← hbk.out]
        simp only [backN]
        rw [← EB.out]
        rfl
       | false =>
        go_wp2
        go_roundw
        case rel => exact ⟨d, rfl, by omega, ⟨by rw [← hbk.out]; simp only [backN]; rw [← EB.out]; rfl⟩, HB1⟩
        case measure => first | (simp [intOf]; done) | (simp [intOf]; omega)
   exact hloop x.f2 s2 h5
  ·have hcur : curOf x = -1 := by simp only [curOf]; rw [if_neg s1, if_neg s2]
   have HCUR := Aside0.mk hcur
   clear hcur
   obtain ⟨st, hst⟩ : ∃ q, q = x.f2 := ⟨_, rfl⟩
   rw [← hst] at h5 s1 s2
   clear hst
   have e1 : (st == 1) = false := by rw [beq_eq_false_iff_ne]; exact s1
   have e4 : (st == 4) = false := by rw [beq_eq_false_iff_ne]; omega
   have e5 : (st == 5) = false := by rw [beq_eq_false_iff_ne]; omega
   clear s1 s2
   go_enter Tryd.func39, Tryd.ntmps39
   go_wp2
   go_ret
   refine ⟨(show Ending.returned (.int .i64 (-1)) = Ending.returned (.int .i64 R) from ?_), HB.out⟩
   rw [HRR.out, HCUR.out]

/-! ### saga_holder_got: function 59, by hand -/
def gotAt (x : S50) (i : Nat) : Bool := decide (stAt x i = 2) || (askAt x i && decide (stAt x i = 3))
set_option maxHeartbeats 1000000 in
set_option maxRecDepth 100000 in
theorem saga_holder_got.at (g : Nat) (x : S50) (i : Nat) (W : World) (hH : HH W g x) (hi : i < x.f4.length) (hi2 : i < x.f1.f1.length) :
  Calls Tryd.prog 59 #[.pointer (some ⟨g, 0, none⟩), .int .i64 (i : Int)] W (fun e W' => e = .returned (.bool (gotAt x i)) ∧ Below W.heap.size W W') := by
 have HHH := Aside0.mk hH
 have HB := Aside0.mk (Below.refl W.heap.size W)
 clear hH
 obtain ⟨R, hR⟩ : ∃ R, R = gotAt x i := ⟨_, rfl⟩
 rw [← hR]
 have HRR := Aside0.mk hR
 have HI1 := Aside0.mk hi
 have HI2 := Aside0.mk hi2
 clear hR hi hi2
 obtain ⟨b2, hb2⟩ : ∃ b, b = decide (stAt x i = 2) := ⟨_, rfl⟩
 obtain ⟨b3, hb3⟩ : ∃ b, b = decide (stAt x i = 3) := ⟨_, rfl⟩
 obtain ⟨ba, hba⟩ : ∃ b, b = askAt x i := ⟨_, rfl⟩
 have E2 := Aside0.mk hb2
 have E3 := Aside0.mk hb3
 have EA := Aside0.mk hba
 clear hb2 hb3 hba
 go_enter Tryd.func59, Tryd.ntmps59
 go_wp2_with (fail)
 refine (saga_holder_stands.at g x i _ _ [2] _ (HHH.out.below (below_alloc (Below.refl _ _) _)) HI1.out (by simp) (lit1_reads W _ 2) (by simp)).mono ?_
 rintro e w1 ⟨rfl, hb1⟩
 have HB1 := Aside0.mk (below_step (below_alloc (Below.refl _ _) _) hb1)
 clear hb1
 rw [any1, ← E2.out]
 cases b2 with
 | true =>
  go_wp2
  go_ret
  refine ⟨(show Ending.returned (.bool true) = Ending.returned (.bool R) from ?_), HB1.out⟩
  rw [HRR.out]
  unfold gotAt
  rw [← E2.out, Bool.true_or]
 | false =>
  go_wp2_with (fail)
  refine (saga_holder_asks.at g x i _ (HHH.out.below HB1.out) HI2.out).mono ?_
  rintro e w2 ⟨rfl, hb2⟩
  have HB2 := Aside0.mk (below_step HB1.out hb2)
  clear hb2
  rw [← EA.out]
  cases ba with
  | false =>
   go_wp2
   go_ret
   refine ⟨(show Ending.returned (.bool false) = Ending.returned (.bool R) from ?_), HB2.out⟩
   rw [HRR.out]
   unfold gotAt
   rw [← E2.out, ← EA.out, Bool.false_and, Bool.or_false]
  | true =>
   go_wp2_with (fail)
   refine (saga_holder_stands.at g x i _ _ [3] _ (HHH.out.below (below_alloc HB2.out _)) HI1.out (by simp) (lit1_reads w2 _ 3) (by simp)).mono ?_
   rintro e w3 ⟨rfl, hb3⟩
   have HB3 := Aside0.mk (below_step (below_alloc HB2.out _) hb3)
   clear hb3
   rw [any1, ← E3.out]
   go_wp2
   go_ret
   refine ⟨(show Ending.returned (.bool b3) = Ending.returned (.bool R) from ?_), HB3.out⟩
   rw [HRR.out]
   unfold gotAt
   rw [← E2.out, ← EA.out, ← E3.out, Bool.true_and, Bool.false_or]

/-! ### saga_holder_tail: function 84, by hand -/
/-- May the step at i stand in a tail from n on? -/
def tailAt (x : S50) (n i : Nat) : Bool := (decide (i = n) && (decide (stAt x i = 0) || (askAt x i && decide (stAt x i = 1)))) || (decide (stAt x i = 0) && decide (trAt x i = 0))
def tailOk (x : S50) (n : Nat) : Bool := (List.range' n (x.f4.length - n)).all (tailAt x n)
set_option maxHeartbeats 2000000 in
set_option maxRecDepth 100000 in
theorem saga_holder_tail.at (g : Nat) (x : S50) (n : Nat) (W : World) (hH : HH W g x) (hn : n ≤ x.f4.length) (hlen : x.f4.length ≤ x.f1.f1.length) (hl : x.f4.length ≤ 1000) :
  Calls Tryd.prog 84 #[.pointer (some ⟨g, 0, none⟩), .int .i64 (n : Int)] W (fun e W' => e = .returned (.bool (tailOk x n)) ∧ Below W.heap.size W W') := by
 have HHH := Aside0.mk hH
 have HB := Aside0.mk (Below.refl W.heap.size W)
 clear hH
 obtain ⟨R, hR⟩ : ∃ R, R = tailOk x n := ⟨_, rfl⟩
 rw [← hR]
 have HRR := Aside0.mk hR
 clear hR
 go_enter Tryd.func84, Tryd.ntmps84
 go_wp2_with (fail)
 go_loopw [5] (fun v wr => ∃ k : Nat, v = .int .i64 k ∧ n ≤ k ∧ k ≤ x.f4.length ∧ Aside0 ((List.range' n (k - n)).all (tailAt x n) = true) ∧ Aside0 (Below W.heap.size W wr)) (fun v _ => x.f4.length - (intOf v).toNat)
 case atStart => exact ⟨n, rfl, Nat.le_refl _, hn, ⟨by simp⟩, HB⟩
 case round =>
  obtain ⟨k, rfl, hnk, hk, hall, HBk⟩ := hrel
  have HHk := Aside0.mk (HHH.out.below HBk.out)
  obtain ⟨A2, c2, A4, c4, A7, c7, h0, h1, h2, h3, h4, h5, h6, h7, h8, r2, r4, r7⟩ := HHk.out.cells
  clear r2 r4 h0 h1 h2 h3 h4 h5 h6 h8
  by_cases hlt : k < x.f4.length
  ·obtain ⟨ad, he, hx0, hx1⟩ := at_T62 r7 (k : Int) (by omega) (by omega)
   subst he
   simp only [Int.toNat_natCast] at hx0 hx1
   have es : (rd_T62 x.f4 (k : Int)).f0 = stAt x k := rfl
   have et : (rd_T62 x.f4 (k : Int)).f1 = trAt x k := rfl
   rw [es] at hx0
   rw [et] at hx1
   clear es et r7
   obtain ⟨st, hst⟩ : ∃ q, q = stAt x k := ⟨_, rfl⟩
   obtain ⟨tr, htr⟩ : ∃ q, q = trAt x k := ⟨_, rfl⟩
   obtain ⟨ba, hba⟩ : ∃ q, q = askAt x k := ⟨_, rfl⟩
   rw [← hst] at hx0
   rw [← htr] at hx1
   have EST := Aside0.mk hst
   have ETR := Aside0.mk htr
   have EA := Aside0.mk hba
   clear hst htr hba
   have hnext : Aside0 (tailAt x n k = true → (List.range' n (k + 1 - n)).all (tailAt x n) = true) := ⟨fun h => by
    rw [show k + 1 - n = (k - n) + 1 by omega, List.range'_1_concat, List.all_append, hall.out]
    simp [show n + (k - n) = k by omega, h]⟩
   have hstop : Aside0 (tailAt x n k = false → R = false) := ⟨fun h => by
    rw [HRR.out]
    unfold tailOk
    rw [List.all_eq_false]
    exact ⟨k, by rw [List.mem_range'_1]; omega, by simp [h]⟩⟩
   have HNK := Aside0.mk hnk
   have HLEN := Aside0.mk hlen
   by_cases hkn : k = n
   ·have HKN := Aside0.mk hkn
    have eb : decide ((k : Int) = (n : Int)) = true := by rw [decide_eq_true_eq]; omega
    have eb2 : ((k : Int) == (n : Int)) = true := by rw [beq_iff_eq]; omega
    clear hkn hnk hlen
    obtain ⟨b0, hb0⟩ : ∃ b, b = decide (stAt x k = 0) := ⟨_, rfl⟩
    obtain ⟨b1, hb1⟩ : ∃ b, b = decide (stAt x k = 1) := ⟨_, rfl⟩
    have E0 := Aside0.mk hb0
    have E1 := Aside0.mk hb1
    clear hb0 hb1
    go_wp2_with (fail)
    refine (saga_holder_stands.at g x k _ _ [0] _ (HHk.out.below (below_alloc (Below.refl _ _) _)) hlt (by simp) (lit1_reads wr _ 0) (by simp)).mono ?_
    rintro e w1 ⟨rfl, hb1⟩
    have HB1 := Aside0.mk (below_step (below_alloc HBk.out _) hb1)
    have HBr := Aside0.mk (below_step (below_alloc (Below.refl _ _) _) hb1)
    clear hb1
    rw [any1, ← E0.out]
    cases b0 with
    | true =>
     go_wp2
     go_roundw
     case rel => exact ⟨k + 1, by go_num, by have := HNK.out; omega, by omega, ⟨hnext.out (by unfold tailAt; rw [← E0.out]; simp [HKN.out])⟩, HB1⟩
     case measure => simp [intOf]; omega
    | false =>
     go_wp2_with (fail)
     refine (saga_holder_asks.at g x k _ (HHk.out.below HBr.out) (by have := HLEN.out; omega)).mono ?_
     rintro e w2 ⟨rfl, hb2⟩
     have HB2 := Aside0.mk (below_step HB1.out hb2)
     have HBr2 := Aside0.mk (below_step HBr.out hb2)
     clear hb2
     rw [← EA.out]
     cases ba with
     | true =>
      go_wp2_with (fail)
      refine (saga_holder_stands.at g x k _ _ [1] _ (HHk.out.below (below_alloc HBr2.out _)) hlt (by simp) (lit1_reads w2 _ 1) (by simp)).mono ?_
      rintro e w3 ⟨rfl, hb3⟩
      have HB3 := Aside0.mk (below_step (below_alloc HB2.out _) hb3)
      have HBr3 := Aside0.mk (below_step (below_alloc HBr2.out _) hb3)
      clear hb3
      rw [any1, ← E1.out]
      cases b1 with
      | true =>
       go_wp2
       go_roundw
       case rel => exact ⟨k + 1, by go_num, by have := HNK.out; omega, by omega, ⟨hnext.out (by unfold tailAt; rw [← E1.out, ← EA.out]; simp [HKN.out])⟩, HB3⟩
       case measure => simp [intOf]; omega
      | false =>
       replace hx0 := pw_cell_below HBr3.out hx0
       replace hx1 := pw_cell_below HBr3.out hx1
       replace h7 := pw_cell_below HBr3.out h7
       have hs0 : ¬ st = 0 := by rw [EST.out]; intro h; have := E0.out; rw [h] at this; simp at this
       go_wp2
       go_ret
       refine ⟨(show Ending.returned (.bool false) = Ending.returned (.bool R) from ?_), HB3.out⟩
       rw [hstop.out (by unfold tailAt; rw [← E0.out, ← E1.out]; simp)]
     | false =>
      replace hx0 := pw_cell_below HBr2.out hx0
      replace hx1 := pw_cell_below HBr2.out hx1
      replace h7 := pw_cell_below HBr2.out h7
      have hs0 : ¬ st = 0 := by rw [EST.out]; intro h; have := E0.out; rw [h] at this; simp at this
      go_wp2
      go_ret
      refine ⟨(show Ending.returned (.bool false) = Ending.returned (.bool R) from ?_), HB2.out⟩
      rw [hstop.out (by unfold tailAt; rw [← E0.out, ← EA.out]; simp)]
   ·have HKN := Aside0.mk hkn
    have eb : decide ((k : Int) = (n : Int)) = false := by rw [decide_eq_false_iff_not]; omega
    have eb2 : ((k : Int) == (n : Int)) = false := by rw [beq_eq_false_iff_ne]; omega
    clear hkn hnk hlen
    by_cases hs0 : st = 0
    ·by_cases ht0 : tr = 0
     ·have HS0 := Aside0.mk hs0
      have HT0 := Aside0.mk ht0
      subst hs0
      subst ht0
      go_wp2
      go_roundw
      case rel => exact ⟨k + 1, by go_num, by have := HNK.out; omega, by omega, ⟨hnext.out (by unfold tailAt; rw [← EST.out, ← ETR.out]; simp)⟩, HBk⟩
      case measure => simp [intOf]; omega
     ·have HT0 := Aside0.mk ht0
      subst hs0
      go_wp2
      go_ret
      refine ⟨(show Ending.returned (.bool false) = Ending.returned (.bool R) from ?_), HBk.out⟩
      rw [hstop.out (by unfold tailAt; rw [← EST.out, ← ETR.out]; simp [HKN.out, HT0.out])]
    ·have HS0 := Aside0.mk hs0
     go_wp2
     go_ret
     refine ⟨(show Ending.returned (.bool false) = Ending.returned (.bool R) from ?_), HBk.out⟩
     rw [hstop.out (by unfold tailAt; rw [← EST.out]; simp [HKN.out, HS0.out])]
  ·clear r7
   have hkl : k = x.f4.length := by omega
   have HKL := Aside0.mk hkl
   clear hkl
   go_wp2
   go_ret
   refine ⟨(show Ending.returned (.bool true) = Ending.returned (.bool R) from ?_), HBk.out⟩
   rw [HRR.out]
   unfold tailOk
   rw [← HKL.out, hall.out]

end Go.Proofs.YtidobdhkncaljaaDoorK
