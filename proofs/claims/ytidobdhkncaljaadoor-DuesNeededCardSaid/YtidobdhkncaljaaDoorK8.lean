-- made by hprint.py out of the translation and the hand texts
import Derived.Test.YtidobdhkncaljaaDoorK0
import Derived.Test.YtidobdhkncaljaaDoorK2
import Derived.Test.YtidobdhkncaljaaDoorK5
import Derived.Test.YtidobdhkncaljaaDoorK6
import Derived.Test.YtidobdhkncaljaaDoorK7
namespace Go.Proofs.YtidobdhkncaljaaDoorK
open Go.RowKit Go.Proofs.YtidobdhkncaljaaDoorW.PrintWords Go.Proofs.YtidobdhkncaljaaDoorW.PrintLast Go.Proofs.YtidobdhkncaljaaDoorW.PrintMore
attribute [local go_sem] max2_int min2_int max_two min_two max_three min_three max_four min_four   -- for this text's walks alone
set_option linter.unusedVariables false
set_option linter.unusedSimpArgs false

/-! ### saga_holder_fits: function 37, by hand -/
def whyOk (n : Int) : Bool := decide (1 ≤ n) && decide (n ≤ 9)
theorem saga_why_f (n : Int) : saga_why.f n = some (whyOk n) := by
 unfold saga_why.f whyOk
 by_cases h : n ≥ 1 <;> simp [h]
def allP (x : S50) (p : Nat → Bool) : Bool := (List.range x.f4.length).all p
def keptOr (x : S50) (i : Nat) : Bool := decide (stAt x i = 4) || (askAt x i && decide (stAt x i = 2))
def fitsOk (x : S50) : Bool :=
 if x.f2 = 1 then !x.f5 && decide (x.f3 = 0) && runOk x
 else if x.f2 = 2 then !x.f5 && decide (x.f3 = 0) && decide (0 < x.f0.f2.length) && allP x (gotAt x)
 else if x.f2 = 3 then (if x.f5 = true then (decide (x.f3 = 0) || whyOk x.f3) && allP x (fun i => askAt x i || !stIn x [2] i) else decide (x.f3 = 0) && allP x (keptOr x))
 else if x.f2 = 4 ∨ x.f2 = 5 then (if (x.f5 || !whyOk x.f3 || someOf x [4]) = true then false else decide (x.f2 = 4) || (decide (0 ≤ curOf x) && !askAt x (curOf x).toNat && decide (trAt x (curOf x).toNat = 5)))
 else if x.f2 = 6 then (if x.f5 = true then (decide (x.f3 = 0) || whyOk x.f3) && allP x (fun i => askAt x i || !stIn x [2, 4] i) else whyOk x.f3 && !someOf x [1, 2, 4])
 else false
set_option maxHeartbeats 4000000 in
set_option maxRecDepth 100000 in
theorem saga_holder_fits_1.at (g gb : Nat) (x : S50) (i : Nat) (W : World) (hH : HH W g x) (hi : i < x.f4.length) (hlen : x.f4.length ≤ x.f1.f1.length) (hb : W.cell? ⟨gb, 0, none⟩ = some (.pointer (some ⟨g, 0, none⟩))) :
  Calls Tryd.prog 60 #[.int .i64 (i : Int), .pointer (some ⟨gb, 0, none⟩)] W (fun e W' => e = .returned (.bool (askAt x i || !stIn x [2] i)) ∧ Below W.heap.size W W') := by
 have HHH := Aside0.mk hH
 have HI := Aside0.mk hi
 have HLEN := Aside0.mk hlen
 have hb0 := hb
 clear hH hi hlen
 have HB := Aside0.mk (Below.refl W.heap.size W)
 obtain ⟨ba, hba⟩ : ∃ q, q = askAt x i := ⟨_, rfl⟩
 obtain ⟨bs, hbs⟩ : ∃ q, q = stIn x [2] i := ⟨_, rfl⟩
 have EA := Aside0.mk hba
 have ES := Aside0.mk hbs
 rw [← hba, ← hbs]
 clear hba hbs
 go_enter Tryd.func60, Tryd.ntmps60
 go_wp2_with (fail)
 refine (saga_holder_asks.at g x i _ HHH.out (by have := HI.out; have := HLEN.out; omega)).mono ?_
 rintro e w1 ⟨rfl, hb1⟩
 replace hb0 := pw_cell_below hb1 hb0
 have HB1 := Aside0.mk hb1
 clear hb1
 rw [← EA.out]
 cases ba with
 | true =>
  go_wp2
  go_ret
  exact ⟨rfl, HB1.out⟩
 | false =>
  go_wp2_with (fail)
  refine (saga_holder_stands.at g x i _ _ [2] _ (HHH.out.below (below_alloc HB1.out _)) HI.out (by simp) (lit1_reads w1 _ 2) (by simp)).mono ?_
  rintro e w2 ⟨rfl, hb2⟩
  have HB2 := Aside0.mk (below_step (below_alloc HB1.out _) hb2)
  clear hb2
  rw [show ([2] : List Int).any (fun y => decide (stAt x i = y)) = bs from ES.out.symm]
  go_wp2
  go_ret
  exact ⟨rfl, HB2.out⟩
set_option maxHeartbeats 4000000 in
set_option maxRecDepth 100000 in
theorem saga_holder_fits_3.at (g gb : Nat) (x : S50) (i : Nat) (W : World) (hH : HH W g x) (hi : i < x.f4.length) (hlen : x.f4.length ≤ x.f1.f1.length) (hb : W.cell? ⟨gb, 0, none⟩ = some (.pointer (some ⟨g, 0, none⟩))) :
  Calls Tryd.prog 63 #[.int .i64 (i : Int), .pointer (some ⟨gb, 0, none⟩)] W (fun e W' => e = .returned (.bool (askAt x i || !stIn x [2, 4] i)) ∧ Below W.heap.size W W') := by
 have HHH := Aside0.mk hH
 have HI := Aside0.mk hi
 have HLEN := Aside0.mk hlen
 have hb0 := hb
 clear hH hi hlen
 have HB := Aside0.mk (Below.refl W.heap.size W)
 obtain ⟨ba, hba⟩ : ∃ q, q = askAt x i := ⟨_, rfl⟩
 obtain ⟨bs, hbs⟩ : ∃ q, q = stIn x [2, 4] i := ⟨_, rfl⟩
 have EA := Aside0.mk hba
 have ES := Aside0.mk hbs
 rw [← hba, ← hbs]
 clear hba hbs
 go_enter Tryd.func63, Tryd.ntmps63
 go_wp2_with (fail)
 refine (saga_holder_asks.at g x i _ HHH.out (by have := HI.out; have := HLEN.out; omega)).mono ?_
 rintro e w1 ⟨rfl, hb1⟩
 replace hb0 := pw_cell_below hb1 hb0
 have HB1 := Aside0.mk hb1
 clear hb1
 rw [← EA.out]
 cases ba with
 | true =>
  go_wp2
  go_ret
  exact ⟨rfl, HB1.out⟩
 | false =>
  go_wp2_with (fail)
  refine (saga_holder_stands.at g x i _ _ [2, 4] _ (HHH.out.below (below_alloc HB1.out _)) HI.out (by simp) (lit2_reads w1 _ 2 4) (by simp)).mono ?_
  rintro e w2 ⟨rfl, hb2⟩
  have HB2 := Aside0.mk (below_step (below_alloc HB1.out _) hb2)
  clear hb2
  rw [show ([2, 4] : List Int).any (fun y => decide (stAt x i = y)) = bs from ES.out.symm]
  go_wp2
  go_ret
  exact ⟨rfl, HB2.out⟩
set_option maxHeartbeats 4000000 in
set_option maxRecDepth 100000 in
theorem saga_holder_fits_2.at (g gb : Nat) (x : S50) (i : Nat) (W : World) (hH : HH W g x) (hi : i < x.f4.length) (hlen : x.f4.length ≤ x.f1.f1.length) (hb : W.cell? ⟨gb, 0, none⟩ = some (.pointer (some ⟨g, 0, none⟩))) :
  Calls Tryd.prog 62 #[.int .i64 (i : Int), .pointer (some ⟨gb, 0, none⟩)] W (fun e W' => e = .returned (.bool (keptOr x i)) ∧ Below W.heap.size W W') := by
 have HHH := Aside0.mk hH
 have HI := Aside0.mk hi
 have HLEN := Aside0.mk hlen
 have hb0 := hb
 clear hH hi hlen
 have HB := Aside0.mk (Below.refl W.heap.size W)
 obtain ⟨R, hR⟩ : ∃ q, q = keptOr x i := ⟨_, rfl⟩
 rw [← hR]
 have HRR := Aside0.mk hR
 obtain ⟨ba, hba⟩ : ∃ q, q = askAt x i := ⟨_, rfl⟩
 obtain ⟨b4, hb4⟩ : ∃ q, q = decide (stAt x i = 4) := ⟨_, rfl⟩
 obtain ⟨b2, hb2⟩ : ∃ q, q = decide (stAt x i = 2) := ⟨_, rfl⟩
 have EA := Aside0.mk hba
 have E4 := Aside0.mk hb4
 have E2 := Aside0.mk hb2
 clear hba hb4 hb2 hR
 go_enter Tryd.func62, Tryd.ntmps62
 go_wp2_with (fail)
 refine (saga_holder_stands.at g x i _ _ [4] _ (HHH.out.below (below_alloc HB.out _)) HI.out (by simp) (lit1_reads W _ 4) (by simp)).mono ?_
 rintro e w1 ⟨rfl, hb1⟩
 replace hb0 := pw_cell_below hb1 (show (W.alloc _).cell? _ = _ from (World.cell?_alloc_lt _ _ _ (World.block_lt_of_cell? W _ hb)).trans hb)
 have HB1 := Aside0.mk (below_step (below_alloc HB.out _) hb1)
 clear hb1
 rw [any1, ← E4.out]
 cases b4 with
 | true =>
  go_wp2
  go_ret
  refine ⟨(show Ending.returned (.bool true) = Ending.returned (.bool R) from ?_), HB1.out⟩
  rw [HRR.out]; unfold keptOr; rw [← E4.out, Bool.true_or]
 | false =>
  go_wp2_with (fail)
  refine (saga_holder_asks.at g x i _ (HHH.out.below HB1.out) (by have := HI.out; have := HLEN.out; omega)).mono ?_
  rintro e w2 ⟨rfl, hb2⟩
  replace hb0 := pw_cell_below hb2 hb0
  have HB2 := Aside0.mk (below_step HB1.out hb2)
  clear hb2
  rw [← EA.out]
  cases ba with
  | false =>
   go_wp2
   go_ret
   refine ⟨(show Ending.returned (.bool false) = Ending.returned (.bool R) from ?_), HB2.out⟩
   rw [HRR.out]; unfold keptOr; rw [← E4.out, ← EA.out]; rfl
  | true =>
   go_wp2_with (fail)
   refine (saga_holder_stands.at g x i _ _ [2] _ (HHH.out.below (below_alloc HB2.out _)) HI.out (by simp) (lit1_reads w2 _ 2) (by simp)).mono ?_
   rintro e w3 ⟨rfl, hb3⟩
   have HB3 := Aside0.mk (below_step (below_alloc HB2.out _) hb3)
   clear hb3
   rw [any1, ← E2.out]
   go_wp2
   go_ret
   refine ⟨(show Ending.returned (.bool b2) = Ending.returned (.bool R) from ?_), HB3.out⟩
   rw [HRR.out]; unfold keptOr; rw [← E4.out, ← EA.out, ← E2.out]; rfl
set_option maxHeartbeats 4000000 in
set_option maxRecDepth 100000 in
theorem saga_holder_fits.at1 (g : Nat) (x : S50) (W : World) (hH : HH W g x) (hlen : x.f4.length ≤ x.f1.f1.length) (hxl : x.f4.length ≤ 1000) (hst : x.f2 = 1) :
  Calls Tryd.prog 37 #[.pointer (some ⟨g, 0, none⟩)] W (fun e W' => e = .returned (.bool (fitsOk x)) ∧ Below W.heap.size W W') := by
 have HHH := Aside0.mk hH
 have HB := Aside0.mk (Below.refl W.heap.size W)
 clear hH
 obtain ⟨A2, c2, A4, c4, A7, c7, h0, h1, h2, h3, h4, h5, h6, h7, h8, r2, r4, r7⟩ := HHH.out.cells
 clear r2 r4
 obtain ⟨R, hR⟩ : ∃ R, R = fitsOk x := ⟨_, rfl⟩
 rw [← hR]
 have hR' : R = (!x.f5 && decide (x.f3 = 0) && runOk x) := by rw [hR]; unfold fitsOk; simp [hst]
 have HRR := Aside0.mk hR'
 have HR7 := Aside0.mk r7
 have HLEN := Aside0.mk hlen
 rw [hst] at h5
 have HST := Aside0.mk hst
 clear hR hR' hst r7 hlen
 obtain ⟨F, hF⟩ : ∃ F, F = x.f5 := ⟨_, rfl⟩
 obtain ⟨y, hy⟩ : ∃ y, y = x.f3 := ⟨_, rfl⟩
 rw [← hF] at h8
 rw [← hy] at h6
 have EF := Aside0.mk hF
 have EY := Aside0.mk hy
 rw [← hF, ← hy] at HRR
 clear hF hy
 go_enter Tryd.func37, Tryd.ntmps37
 go_wp2_with ((with_reducible refine gate_dst (N := 1) rfl ?_); refine box_event ?hg (N := 1) ?hd (cs := #[.pointer (some ⟨g, 0, none⟩)]) (t := 86) ?hr ?_; (case hd => rfl); (case hg => rfl); (case hr => first | (go_simp; done) | (go_simp; rfl)); intro gb hgb w1 hbox hbb; have hcb : w1.cell? ⟨gb, 0, none⟩ = some (.pointer (some ⟨g, 0, none⟩)) := (blk_cell hbox 0).trans rfl; replace h2 := pw_cell_below hbb h2; replace h5 := pw_cell_below hbb h5; replace h6 := pw_cell_below hbb h6; replace h7 := pw_cell_below hbb h7; replace h8 := pw_cell_below hbb h8; have HCB := Aside0.mk hcb; have HB1 := Aside0.mk hbb; clear hgb hbox hbb h0 h1 h3 h4)
 go_quiet (fail)
 cases F with
 | true =>
  go_wp2
  go_ret
  refine ⟨(show Ending.returned (.bool false) = Ending.returned (.bool R) from ?_), pw_below_drewN HB1.out _⟩
  rw [HRR.out]; rfl
 | false =>
  by_cases hy0 : y = 0
  ·have HY0 := Aside0.mk hy0
   subst hy0
   go_wp2_with (fail)
   refine (saga_holder_running.at g x _ (HHH.out.below (pw_below_drewN HB1.out _)) HLEN.out hxl).mono ?_
   rintro e w2 ⟨rfl, hb2⟩
   have HB2 := Aside0.mk (below_step (pw_below_drewN HB1.out _) hb2)
   clear hb2
   obtain ⟨b, hb⟩ : ∃ b, b = runOk x := ⟨_, rfl⟩
   rw [← hb]
   have EB := Aside0.mk hb
   clear hb
   go_wp2
   go_ret
   refine ⟨(show Ending.returned (.bool b) = Ending.returned (.bool R) from ?_), HB2.out⟩
   rw [HRR.out, EB.out]; simp
  ·have ey : (y == 0) = false := beq_eq_false_iff_ne.mpr hy0
   have HY0 := Aside0.mk hy0
   go_wp2
   go_ret
   refine ⟨(show Ending.returned (.bool false) = Ending.returned (.bool R) from ?_), pw_below_drewN HB1.out _⟩
   rw [HRR.out]; simp [HY0.out]
set_option maxHeartbeats 4000000 in
set_option maxRecDepth 100000 in
theorem saga_holder_fits.at2 (g : Nat) (x : S50) (W : World) (hH : HH W g x) (hlen : x.f4.length ≤ x.f1.f1.length) (hxl : x.f4.length ≤ 1000) (hst : x.f2 = 2) :
  Calls Tryd.prog 37 #[.pointer (some ⟨g, 0, none⟩)] W (fun e W' => e = .returned (.bool (fitsOk x)) ∧ Below W.heap.size W W') := by
 have HHH := Aside0.mk hH
 have HB := Aside0.mk (Below.refl W.heap.size W)
 clear hH
 obtain ⟨A2, c2, A4, c4, A7, c7, h0, h1, h2, h3, h4, h5, h6, h7, h8, r2, r4, r7⟩ := HHH.out.cells
 clear r2 r4
 obtain ⟨R, hR⟩ : ∃ R, R = fitsOk x := ⟨_, rfl⟩
 rw [← hR]
 have hR' : R = (!x.f5 && decide (x.f3 = 0) && decide (0 < x.f0.f2.length) && allP x (gotAt x)) := by rw [hR]; unfold fitsOk; simp [hst]
 have HRR := Aside0.mk hR'
 have HR7 := Aside0.mk r7
 have HLEN := Aside0.mk hlen
 rw [hst] at h5
 have HST := Aside0.mk hst
 clear hR hR' hst r7 hlen
 obtain ⟨F, hF⟩ : ∃ F, F = x.f5 := ⟨_, rfl⟩
 obtain ⟨y, hy⟩ : ∃ y, y = x.f3 := ⟨_, rfl⟩
 rw [← hF] at h8
 rw [← hy] at h6
 have EF := Aside0.mk hF
 have EY := Aside0.mk hy
 rw [← hF, ← hy] at HRR
 clear hF hy
 have eg : EntersH 59 := entersH Tryd.func59 (by kernel_rfl) rfl
 have EG := Aside0.mk eg
 clear eg
 go_enter Tryd.func37, Tryd.ntmps37
 go_wp2_with ((with_reducible refine gate_dst (N := 1) rfl ?_); refine box_event ?hg (N := 1) ?hd (cs := #[.pointer (some ⟨g, 0, none⟩)]) (t := 86) ?hr ?_; (case hd => rfl); (case hg => rfl); (case hr => first | (go_simp; done) | (go_simp; rfl)); intro gb hgb w1 hbox hbb; have hcb : w1.cell? ⟨gb, 0, none⟩ = some (.pointer (some ⟨g, 0, none⟩)) := (blk_cell hbox 0).trans rfl; replace h2 := pw_cell_below hbb h2; replace h5 := pw_cell_below hbb h5; replace h6 := pw_cell_below hbb h6; replace h7 := pw_cell_below hbb h7; replace h8 := pw_cell_below hbb h8; have HCB := Aside0.mk hcb; have HB1 := Aside0.mk hbb; clear hgb hbox hbb h0 h1 h3 h4)
 go_quiet (fail)
 cases F with
 | true =>
  go_wp2
  go_ret
  refine ⟨(show Ending.returned (.bool false) = Ending.returned (.bool R) from ?_), pw_below_drewN HB1.out _⟩
  rw [HRR.out]; rfl
 | false =>
  by_cases hy0 : y = 0
  ·have HY0 := Aside0.mk hy0
   subst hy0
   by_cases hhp : 0 < x.f0.f2.length
   ·have HHP := Aside0.mk hhp
    have hd : decide (0 < x.f0.f2.length) = true := decide_eq_true hhp
    go_wp2_with (fail)
    refine (saga_holder_all.at g x (gotAt x) _ #[.pointer (some ⟨g, 0, none⟩)] #[] _ EG.out (HHH.out.below (pw_below_drewN HB1.out _)) hxl ?hp).mono ?_
    case hp =>
     intro i hi W1 hb1
     exact saga_holder_got.at g x i W1 ((HHH.out.below (pw_below_drewN HB1.out _)).below hb1) hi (by have := HLEN.out; omega)
    rintro e w2 ⟨rfl, hb2⟩
    have HB2 := Aside0.mk (below_step (pw_below_drewN HB1.out _) hb2)
    clear hb2
    obtain ⟨b, hb⟩ : ∃ b, b = (List.range x.f4.length).all (gotAt x) := ⟨_, rfl⟩
    rw [← hb]
    have EB := Aside0.mk hb
    clear hb
    go_wp2
    go_ret
    refine ⟨(show Ending.returned (.bool b) = Ending.returned (.bool R) from ?_), HB2.out⟩
    rw [HRR.out, EB.out]; simp [HHP.out, allP]
   ·have HHP := Aside0.mk hhp
    have hd : decide (0 < x.f0.f2.length) = false := decide_eq_false hhp
    go_wp2
    go_ret
    refine ⟨(show Ending.returned (.bool false) = Ending.returned (.bool R) from ?_), pw_below_drewN HB1.out _⟩
    rw [HRR.out]; simp [HHP.out]
  ·have ey : (y == 0) = false := beq_eq_false_iff_ne.mpr hy0
   have HY0 := Aside0.mk hy0
   go_wp2
   go_ret
   refine ⟨(show Ending.returned (.bool false) = Ending.returned (.bool R) from ?_), pw_below_drewN HB1.out _⟩
   rw [HRR.out]; simp [HY0.out]
set_option maxHeartbeats 4000000 in
set_option maxRecDepth 100000 in
theorem saga_holder_fits.at3F (g : Nat) (x : S50) (W : World) (hH : HH W g x) (hlen : x.f4.length ≤ x.f1.f1.length) (hxl : x.f4.length ≤ 1000) (hst : x.f2 = 3) (hf5 : x.f5 = true) :
  Calls Tryd.prog 37 #[.pointer (some ⟨g, 0, none⟩)] W (fun e W' => e = .returned (.bool (fitsOk x)) ∧ Below W.heap.size W W') := by
 have HHH := Aside0.mk hH
 have HB := Aside0.mk (Below.refl W.heap.size W)
 clear hH
 obtain ⟨A2, c2, A4, c4, A7, c7, h0, h1, h2, h3, h4, h5, h6, h7, h8, r2, r4, r7⟩ := HHH.out.cells
 clear r2 r4
 obtain ⟨R, hR⟩ : ∃ R, R = fitsOk x := ⟨_, rfl⟩
 rw [← hR]
 have hR' : R = (if x.f5 = true then (decide (x.f3 = 0) || whyOk x.f3) && allP x (fun i => askAt x i || !stIn x [2] i) else decide (x.f3 = 0) && allP x (keptOr x)) := by rw [hR]; unfold fitsOk; simp [hst]
 have HRR := Aside0.mk hR'
 have HR7 := Aside0.mk r7
 have HLEN := Aside0.mk hlen
 rw [hst] at h5
 have HST := Aside0.mk hst
 clear hR hR' hst r7 hlen
 obtain ⟨F, hF⟩ : ∃ F, F = x.f5 := ⟨_, rfl⟩
 obtain ⟨y, hy⟩ : ∃ y, y = x.f3 := ⟨_, rfl⟩
 rw [← hF] at h8
 rw [← hy] at h6
 have EF := Aside0.mk hF
 have EY := Aside0.mk hy
 rw [← hF, ← hy] at HRR
 clear hF hy
 obtain rfl : F = true := by rw [EF.out]; exact hf5
 clear hf5
 have eg : EntersH 60 := entersH Tryd.func60 (by kernel_rfl) rfl
 have EG := Aside0.mk eg
 clear eg
 go_enter Tryd.func37, Tryd.ntmps37
 go_wp2_with ((with_reducible refine gate_dst (N := 1) rfl ?_); refine box_event ?hg (N := 1) ?hd (cs := #[.pointer (some ⟨g, 0, none⟩)]) (t := 86) ?hr ?_; (case hd => rfl); (case hg => rfl); (case hr => first | (go_simp; done) | (go_simp; rfl)); intro gb hgb w1 hbox hbb; have hcb : w1.cell? ⟨gb, 0, none⟩ = some (.pointer (some ⟨g, 0, none⟩)) := (blk_cell hbox 0).trans rfl; replace h2 := pw_cell_below hbb h2; replace h5 := pw_cell_below hbb h5; replace h6 := pw_cell_below hbb h6; replace h7 := pw_cell_below hbb h7; replace h8 := pw_cell_below hbb h8; have HCB := Aside0.mk hcb; have HB1 := Aside0.mk hbb; clear hgb hbox hbb h0 h1 h3 h4)
 go_quiet (fail)
 by_cases hy0 : y = 0
 ·have HY0 := Aside0.mk hy0
  subst hy0
  go_wp2_with (fail)
  refine (saga_holder_all.at g x (fun i => askAt x i || !stIn x [2] i) _ #[] #[.pointer (some ⟨gb, 0, none⟩)] _ EG.out (HHH.out.below (pw_below_drewN HB1.out _)) hxl ?hp).mono ?_
  case hp =>
   intro i hi W1 hb1
   exact saga_holder_fits_1.at g gb x i W1 ((HHH.out.below (pw_below_drewN HB1.out _)).below hb1) hi HLEN.out (pw_cell_below hb1 ((show (w1.drewN _).cell? _ = _ from HCB.out)))
  rintro e wa ⟨rfl, hba⟩
  have HBA := Aside0.mk (below_step (pw_below_drewN HB1.out _) hba)
  clear hba
  obtain ⟨b, hb⟩ : ∃ b, b = (List.range x.f4.length).all (fun i => askAt x i || !stIn x [2] i) := ⟨_, rfl⟩
  rw [← hb]
  have EB := Aside0.mk hb
  clear hb
  go_wp2
  go_ret
  refine ⟨(show Ending.returned (.bool b) = Ending.returned (.bool R) from ?_), HBA.out⟩
  rw [HRR.out, EB.out]; simp [allP]
 ·have ey : (y == 0) = false := beq_eq_false_iff_ne.mpr hy0
  have HY0 := Aside0.mk hy0
  go_wp2_with (fail)
  refine (saga_why.calls y (whyOk y) _ (saga_why_f y)).mono ?_
  rintro e wy ⟨rfl, hdy⟩
  have hby := hdy.below
  have HBY := Aside0.mk (below_step (pw_below_drewN HB1.out _) hby)
  replace hcb := pw_cell_below hby (show (w1.drewN _).cell? _ = _ from hcb)
  replace h2 := pw_cell_below hby (show (w1.drewN _).cell? _ = _ from h2)
  replace h5 := pw_cell_below hby (show (w1.drewN _).cell? _ = _ from h5)
  replace h6 := pw_cell_below hby (show (w1.drewN _).cell? _ = _ from h6)
  replace h7 := pw_cell_below hby (show (w1.drewN _).cell? _ = _ from h7)
  replace h8 := pw_cell_below hby (show (w1.drewN _).cell? _ = _ from h8)
  have HCB := Aside0.mk hcb
  clear hdy hby
  obtain ⟨bw, hbw⟩ : ∃ b, b = whyOk y := ⟨_, rfl⟩
  rw [← hbw]
  have EW := Aside0.mk hbw
  clear hbw
  cases bw with
  | true =>
   go_wp2_with (fail)
   refine (saga_holder_all.at g x (fun i => askAt x i || !stIn x [2] i) _ #[] #[.pointer (some ⟨gb, 0, none⟩)] _ EG.out (HHH.out.below (HBY.out)) hxl ?hp).mono ?_
   case hp =>
    intro i hi W1 hb1
    exact saga_holder_fits_1.at g gb x i W1 ((HHH.out.below (HBY.out)).below hb1) hi HLEN.out (pw_cell_below hb1 (HCB.out))
   rintro e wa ⟨rfl, hba⟩
   have HBA := Aside0.mk (below_step (HBY.out) hba)
   clear hba
   obtain ⟨b, hb⟩ : ∃ b, b = (List.range x.f4.length).all (fun i => askAt x i || !stIn x [2] i) := ⟨_, rfl⟩
   rw [← hb]
   have EB := Aside0.mk hb
   clear hb
   go_wp2
   go_ret
   refine ⟨(show Ending.returned (.bool b) = Ending.returned (.bool R) from ?_), HBA.out⟩
   rw [HRR.out, EB.out, ← EW.out]; simp [allP]
  | false =>
   go_wp2
   go_ret
   refine ⟨(show Ending.returned (.bool false) = Ending.returned (.bool R) from ?_), HBY.out⟩
   rw [HRR.out, ← EW.out]; simp [HY0.out]
set_option maxHeartbeats 4000000 in
set_option maxRecDepth 100000 in
theorem saga_holder_fits.at3N (g : Nat) (x : S50) (W : World) (hH : HH W g x) (hlen : x.f4.length ≤ x.f1.f1.length) (hxl : x.f4.length ≤ 1000) (hst : x.f2 = 3) (hf5 : x.f5 = false) :
  Calls Tryd.prog 37 #[.pointer (some ⟨g, 0, none⟩)] W (fun e W' => e = .returned (.bool (fitsOk x)) ∧ Below W.heap.size W W') := by
 have HHH := Aside0.mk hH
 have HB := Aside0.mk (Below.refl W.heap.size W)
 clear hH
 obtain ⟨A2, c2, A4, c4, A7, c7, h0, h1, h2, h3, h4, h5, h6, h7, h8, r2, r4, r7⟩ := HHH.out.cells
 clear r2 r4
 obtain ⟨R, hR⟩ : ∃ R, R = fitsOk x := ⟨_, rfl⟩
 rw [← hR]
 have hR' : R = (if x.f5 = true then (decide (x.f3 = 0) || whyOk x.f3) && allP x (fun i => askAt x i || !stIn x [2] i) else decide (x.f3 = 0) && allP x (keptOr x)) := by rw [hR]; unfold fitsOk; simp [hst]
 have HRR := Aside0.mk hR'
 have HR7 := Aside0.mk r7
 have HLEN := Aside0.mk hlen
 rw [hst] at h5
 have HST := Aside0.mk hst
 clear hR hR' hst r7 hlen
 obtain ⟨F, hF⟩ : ∃ F, F = x.f5 := ⟨_, rfl⟩
 obtain ⟨y, hy⟩ : ∃ y, y = x.f3 := ⟨_, rfl⟩
 rw [← hF] at h8
 rw [← hy] at h6
 have EF := Aside0.mk hF
 have EY := Aside0.mk hy
 rw [← hF, ← hy] at HRR
 clear hF hy
 obtain rfl : F = false := by rw [EF.out]; exact hf5
 clear hf5
 have eg : EntersH 62 := entersH Tryd.func62 (by kernel_rfl) rfl
 have EG := Aside0.mk eg
 clear eg
 go_enter Tryd.func37, Tryd.ntmps37
 go_wp2_with ((with_reducible refine gate_dst (N := 1) rfl ?_); refine box_event ?hg (N := 1) ?hd (cs := #[.pointer (some ⟨g, 0, none⟩)]) (t := 86) ?hr ?_; (case hd => rfl); (case hg => rfl); (case hr => first | (go_simp; done) | (go_simp; rfl)); intro gb hgb w1 hbox hbb; have hcb : w1.cell? ⟨gb, 0, none⟩ = some (.pointer (some ⟨g, 0, none⟩)) := (blk_cell hbox 0).trans rfl; replace h2 := pw_cell_below hbb h2; replace h5 := pw_cell_below hbb h5; replace h6 := pw_cell_below hbb h6; replace h7 := pw_cell_below hbb h7; replace h8 := pw_cell_below hbb h8; have HCB := Aside0.mk hcb; have HB1 := Aside0.mk hbb; clear hgb hbox hbb h0 h1 h3 h4)
 go_quiet (fail)
 by_cases hy0 : y = 0
 ·have HY0 := Aside0.mk hy0
  subst hy0
  go_wp2_with (fail)
  refine (saga_holder_all.at g x (keptOr x) _ #[] #[.pointer (some ⟨gb, 0, none⟩)] _ EG.out (HHH.out.below (pw_below_drewN HB1.out _)) hxl ?hp).mono ?_
  case hp =>
   intro i hi W1 hb1
   exact saga_holder_fits_2.at g gb x i W1 ((HHH.out.below (pw_below_drewN HB1.out _)).below hb1) hi HLEN.out (pw_cell_below hb1 ((show (w1.drewN _).cell? _ = _ from HCB.out)))
  rintro e wa ⟨rfl, hba⟩
  have HBA := Aside0.mk (below_step (pw_below_drewN HB1.out _) hba)
  clear hba
  obtain ⟨b, hb⟩ : ∃ b, b = (List.range x.f4.length).all (keptOr x) := ⟨_, rfl⟩
  rw [← hb]
  have EB := Aside0.mk hb
  clear hb
  go_wp2
  go_ret
  refine ⟨(show Ending.returned (.bool b) = Ending.returned (.bool R) from ?_), HBA.out⟩
  rw [HRR.out, EB.out]; simp [allP]
 ·have ey : (y == 0) = false := beq_eq_false_iff_ne.mpr hy0
  have HY0 := Aside0.mk hy0
  go_wp2
  go_ret
  refine ⟨(show Ending.returned (.bool false) = Ending.returned (.bool R) from ?_), pw_below_drewN HB1.out _⟩
  rw [HRR.out]; simp [HY0.out]
set_option maxHeartbeats 4000000 in
set_option maxRecDepth 100000 in
theorem saga_holder_fits.at6F (g : Nat) (x : S50) (W : World) (hH : HH W g x) (hlen : x.f4.length ≤ x.f1.f1.length) (hxl : x.f4.length ≤ 1000) (hst : x.f2 = 6) (hf5 : x.f5 = true) :
  Calls Tryd.prog 37 #[.pointer (some ⟨g, 0, none⟩)] W (fun e W' => e = .returned (.bool (fitsOk x)) ∧ Below W.heap.size W W') := by
 have HHH := Aside0.mk hH
 have HB := Aside0.mk (Below.refl W.heap.size W)
 clear hH
 obtain ⟨A2, c2, A4, c4, A7, c7, h0, h1, h2, h3, h4, h5, h6, h7, h8, r2, r4, r7⟩ := HHH.out.cells
 clear r2 r4
 obtain ⟨R, hR⟩ : ∃ R, R = fitsOk x := ⟨_, rfl⟩
 rw [← hR]
 have hR' : R = (if x.f5 = true then (decide (x.f3 = 0) || whyOk x.f3) && allP x (fun i => askAt x i || !stIn x [2, 4] i) else whyOk x.f3 && !someOf x [1, 2, 4]) := by rw [hR]; unfold fitsOk; simp [hst]
 have HRR := Aside0.mk hR'
 have HR7 := Aside0.mk r7
 have HLEN := Aside0.mk hlen
 rw [hst] at h5
 have HST := Aside0.mk hst
 clear hR hR' hst r7 hlen
 obtain ⟨F, hF⟩ : ∃ F, F = x.f5 := ⟨_, rfl⟩
 obtain ⟨y, hy⟩ : ∃ y, y = x.f3 := ⟨_, rfl⟩
 rw [← hF] at h8
 rw [← hy] at h6
 have EF := Aside0.mk hF
 have EY := Aside0.mk hy
 rw [← hF, ← hy] at HRR
 clear hF hy
 obtain rfl : F = true := by rw [EF.out]; exact hf5
 clear hf5
 have eg : EntersH 63 := entersH Tryd.func63 (by kernel_rfl) rfl
 have EG := Aside0.mk eg
 clear eg
 go_enter Tryd.func37, Tryd.ntmps37
 go_wp2_with ((with_reducible refine gate_dst (N := 1) rfl ?_); refine box_event ?hg (N := 1) ?hd (cs := #[.pointer (some ⟨g, 0, none⟩)]) (t := 86) ?hr ?_; (case hd => rfl); (case hg => rfl); (case hr => first | (go_simp; done) | (go_simp; rfl)); intro gb hgb w1 hbox hbb; have hcb : w1.cell? ⟨gb, 0, none⟩ = some (.pointer (some ⟨g, 0, none⟩)) := (blk_cell hbox 0).trans rfl; replace h2 := pw_cell_below hbb h2; replace h5 := pw_cell_below hbb h5; replace h6 := pw_cell_below hbb h6; replace h7 := pw_cell_below hbb h7; replace h8 := pw_cell_below hbb h8; have HCB := Aside0.mk hcb; have HB1 := Aside0.mk hbb; clear hgb hbox hbb h0 h1 h3 h4)
 go_quiet (fail)
 by_cases hy0 : y = 0
 ·have HY0 := Aside0.mk hy0
  subst hy0
  go_wp2_with (fail)
  refine (saga_holder_all.at g x (fun i => askAt x i || !stIn x [2, 4] i) _ #[] #[.pointer (some ⟨gb, 0, none⟩)] _ EG.out (HHH.out.below (pw_below_drewN HB1.out _)) hxl ?hp).mono ?_
  case hp =>
   intro i hi W1 hb1
   exact saga_holder_fits_3.at g gb x i W1 ((HHH.out.below (pw_below_drewN HB1.out _)).below hb1) hi HLEN.out (pw_cell_below hb1 ((show (w1.drewN _).cell? _ = _ from HCB.out)))
  rintro e wa ⟨rfl, hba⟩
  have HBA := Aside0.mk (below_step (pw_below_drewN HB1.out _) hba)
  clear hba
  obtain ⟨b, hb⟩ : ∃ b, b = (List.range x.f4.length).all (fun i => askAt x i || !stIn x [2, 4] i) := ⟨_, rfl⟩
  rw [← hb]
  have EB := Aside0.mk hb
  clear hb
  go_wp2
  go_ret
  refine ⟨(show Ending.returned (.bool b) = Ending.returned (.bool R) from ?_), HBA.out⟩
  rw [HRR.out, EB.out]; simp [allP]
 ·have ey : (y == 0) = false := beq_eq_false_iff_ne.mpr hy0
  have HY0 := Aside0.mk hy0
  go_wp2_with (fail)
  refine (saga_why.calls y (whyOk y) _ (saga_why_f y)).mono ?_
  rintro e wy ⟨rfl, hdy⟩
  have hby := hdy.below
  have HBY := Aside0.mk (below_step (pw_below_drewN HB1.out _) hby)
  replace hcb := pw_cell_below hby (show (w1.drewN _).cell? _ = _ from hcb)
  replace h2 := pw_cell_below hby (show (w1.drewN _).cell? _ = _ from h2)
  replace h5 := pw_cell_below hby (show (w1.drewN _).cell? _ = _ from h5)
  replace h6 := pw_cell_below hby (show (w1.drewN _).cell? _ = _ from h6)
  replace h7 := pw_cell_below hby (show (w1.drewN _).cell? _ = _ from h7)
  replace h8 := pw_cell_below hby (show (w1.drewN _).cell? _ = _ from h8)
  have HCB := Aside0.mk hcb
  clear hdy hby
  obtain ⟨bw, hbw⟩ : ∃ b, b = whyOk y := ⟨_, rfl⟩
  rw [← hbw]
  have EW := Aside0.mk hbw
  clear hbw
  cases bw with
  | true =>
   go_wp2_with (fail)
   refine (saga_holder_all.at g x (fun i => askAt x i || !stIn x [2, 4] i) _ #[] #[.pointer (some ⟨gb, 0, none⟩)] _ EG.out (HHH.out.below (HBY.out)) hxl ?hp).mono ?_
   case hp =>
    intro i hi W1 hb1
    exact saga_holder_fits_3.at g gb x i W1 ((HHH.out.below (HBY.out)).below hb1) hi HLEN.out (pw_cell_below hb1 (HCB.out))
   rintro e wa ⟨rfl, hba⟩
   have HBA := Aside0.mk (below_step (HBY.out) hba)
   clear hba
   obtain ⟨b, hb⟩ : ∃ b, b = (List.range x.f4.length).all (fun i => askAt x i || !stIn x [2, 4] i) := ⟨_, rfl⟩
   rw [← hb]
   have EB := Aside0.mk hb
   clear hb
   go_wp2
   go_ret
   refine ⟨(show Ending.returned (.bool b) = Ending.returned (.bool R) from ?_), HBA.out⟩
   rw [HRR.out, EB.out, ← EW.out]; simp [allP]
  | false =>
   go_wp2
   go_ret
   refine ⟨(show Ending.returned (.bool false) = Ending.returned (.bool R) from ?_), HBY.out⟩
   rw [HRR.out, ← EW.out]; simp [HY0.out]
set_option maxHeartbeats 4000000 in
set_option maxRecDepth 100000 in
theorem saga_holder_fits.at6N (g : Nat) (x : S50) (W : World) (hH : HH W g x) (hlen : x.f4.length ≤ x.f1.f1.length) (hxl : x.f4.length ≤ 1000) (hst : x.f2 = 6) (hf5 : x.f5 = false) :
  Calls Tryd.prog 37 #[.pointer (some ⟨g, 0, none⟩)] W (fun e W' => e = .returned (.bool (fitsOk x)) ∧ Below W.heap.size W W') := by
 have HHH := Aside0.mk hH
 have HB := Aside0.mk (Below.refl W.heap.size W)
 clear hH
 obtain ⟨A2, c2, A4, c4, A7, c7, h0, h1, h2, h3, h4, h5, h6, h7, h8, r2, r4, r7⟩ := HHH.out.cells
 clear r2 r4
 obtain ⟨R, hR⟩ : ∃ R, R = fitsOk x := ⟨_, rfl⟩
 rw [← hR]
 have hR' : R = (if x.f5 = true then (decide (x.f3 = 0) || whyOk x.f3) && allP x (fun i => askAt x i || !stIn x [2, 4] i) else whyOk x.f3 && !someOf x [1, 2, 4]) := by rw [hR]; unfold fitsOk; simp [hst]
 have HRR := Aside0.mk hR'
 have HR7 := Aside0.mk r7
 have HLEN := Aside0.mk hlen
 rw [hst] at h5
 have HST := Aside0.mk hst
 clear hR hR' hst r7 hlen
 obtain ⟨F, hF⟩ : ∃ F, F = x.f5 := ⟨_, rfl⟩
 obtain ⟨y, hy⟩ : ∃ y, y = x.f3 := ⟨_, rfl⟩
 rw [← hF] at h8
 rw [← hy] at h6
 have EF := Aside0.mk hF
 have EY := Aside0.mk hy
 rw [← hF, ← hy] at HRR
 clear hF hy
 obtain rfl : F = false := by rw [EF.out]; exact hf5
 clear hf5
 go_enter Tryd.func37, Tryd.ntmps37
 go_wp2_with ((with_reducible refine gate_dst (N := 1) rfl ?_); refine box_event ?hg (N := 1) ?hd (cs := #[.pointer (some ⟨g, 0, none⟩)]) (t := 86) ?hr ?_; (case hd => rfl); (case hg => rfl); (case hr => first | (go_simp; done) | (go_simp; rfl)); intro gb hgb w1 hbox hbb; have hcb : w1.cell? ⟨gb, 0, none⟩ = some (.pointer (some ⟨g, 0, none⟩)) := (blk_cell hbox 0).trans rfl; replace h2 := pw_cell_below hbb h2; replace h5 := pw_cell_below hbb h5; replace h6 := pw_cell_below hbb h6; replace h7 := pw_cell_below hbb h7; replace h8 := pw_cell_below hbb h8; have HCB := Aside0.mk hcb; have HB1 := Aside0.mk hbb; clear hgb hbox hbb h0 h1 h3 h4)
 go_quiet (fail)
 go_wp2_with (fail)
 refine (saga_why.calls y (whyOk y) _ (saga_why_f y)).mono ?_
 rintro e wy ⟨rfl, hdy⟩
 have hby := hdy.below
 have HBY := Aside0.mk (below_step (pw_below_drewN HB1.out _) hby)
 replace hcb := pw_cell_below hby (show (w1.drewN _).cell? _ = _ from hcb)
 replace h2 := pw_cell_below hby (show (w1.drewN _).cell? _ = _ from h2)
 replace h5 := pw_cell_below hby (show (w1.drewN _).cell? _ = _ from h5)
 replace h6 := pw_cell_below hby (show (w1.drewN _).cell? _ = _ from h6)
 replace h7 := pw_cell_below hby (show (w1.drewN _).cell? _ = _ from h7)
 replace h8 := pw_cell_below hby (show (w1.drewN _).cell? _ = _ from h8)
 have HCB := Aside0.mk hcb
 clear hdy hby
 obtain ⟨bw, hbw⟩ : ∃ b, b = whyOk y := ⟨_, rfl⟩
 rw [← hbw]
 have EW := Aside0.mk hbw
 clear hbw
 cases bw with
 | true =>
  go_wp2_with (fail)
  refine (saga_holder_some.at g x _ _ [1, 2, 4] _ (HHH.out.below (below_alloc (HBY.out) _)) hxl (by simp) (lit3_reads wy _ 1 2 4) (by simp)).mono ?_
  rintro e ws ⟨rfl, hbs⟩
  have HBS := Aside0.mk (below_step (below_alloc (HBY.out) _) hbs)
  replace hcb := pw_cell_below hbs (show (World.alloc wy _).cell? _ = _ from (World.cell?_alloc_lt _ _ _ (World.block_lt_of_cell? _ _ hcb)).trans hcb)
  replace h2 := pw_cell_below hbs (show (World.alloc wy _).cell? _ = _ from (World.cell?_alloc_lt _ _ _ (World.block_lt_of_cell? _ _ h2)).trans h2)
  replace h5 := pw_cell_below hbs (show (World.alloc wy _).cell? _ = _ from (World.cell?_alloc_lt _ _ _ (World.block_lt_of_cell? _ _ h5)).trans h5)
  replace h6 := pw_cell_below hbs (show (World.alloc wy _).cell? _ = _ from (World.cell?_alloc_lt _ _ _ (World.block_lt_of_cell? _ _ h6)).trans h6)
  replace h7 := pw_cell_below hbs (show (World.alloc wy _).cell? _ = _ from (World.cell?_alloc_lt _ _ _ (World.block_lt_of_cell? _ _ h7)).trans h7)
  replace h8 := pw_cell_below hbs (show (World.alloc wy _).cell? _ = _ from (World.cell?_alloc_lt _ _ _ (World.block_lt_of_cell? _ _ h8)).trans h8)
  have HCB := Aside0.mk hcb
  clear hbs
  obtain ⟨bs, hbs⟩ : ∃ b, b = someOf x [1, 2, 4] := ⟨_, rfl⟩
  rw [← hbs]
  have ES := Aside0.mk hbs
  clear hbs
  go_wp2
  go_ret
  refine ⟨(show Ending.returned (.bool (!bs)) = Ending.returned (.bool R) from ?_), HBS.out⟩
  rw [HRR.out, ← EW.out, ES.out]; simp
 | false =>
  go_wp2
  go_ret
  refine ⟨(show Ending.returned (.bool false) = Ending.returned (.bool R) from ?_), HBY.out⟩
  rw [HRR.out, ← EW.out]; simp
theorem idxF_lt {α : Type} (p : α → Bool) (l : List α) (h : 0 ≤ idxF p l) : (idxF p l).toNat < l.length := by
 unfold idxF at *
 cases hf : l.findIdx? p with
 | none => rw [hf] at h; simp at h
 | some i =>
  rw [List.findIdx?_eq_some_iff_getElem] at hf
  obtain ⟨hi, _⟩ := hf
  simpa using hi
theorem backN_lt (x : S50) : ∀ n, 0 ≤ backN x n → (backN x n).toNat < n
 | 0, h => by simp [backN] at h
 | d + 1, h => by
  simp only [backN] at h ⊢
  split
  ·omega
  ·rename_i hq
   rw [if_neg hq] at h
   have := backN_lt x d h
   omega
theorem curOf_lt (x : S50) (h : 0 ≤ curOf x) : (curOf x).toNat < x.f4.length := by
 unfold curOf at *
 split at h
 ·rename_i h1; rw [if_pos h1]; exact idxF_lt _ _ h
 ·rename_i h1
  split at h
  ·rename_i h2; rw [if_neg h1, if_pos h2]; exact backN_lt x _ h
  ·omega
set_option maxHeartbeats 4000000 in
set_option maxRecDepth 100000 in
theorem saga_holder_fits.at4 (g : Nat) (x : S50) (W : World) (hH : HH W g x) (hlen : x.f4.length ≤ x.f1.f1.length) (hxl : x.f4.length ≤ 1000) (hst : x.f2 = 4) :
  Calls Tryd.prog 37 #[.pointer (some ⟨g, 0, none⟩)] W (fun e W' => e = .returned (.bool (fitsOk x)) ∧ Below W.heap.size W W') := by
 have HHH := Aside0.mk hH
 have HB := Aside0.mk (Below.refl W.heap.size W)
 clear hH
 obtain ⟨A2, c2, A4, c4, A7, c7, h0, h1, h2, h3, h4, h5, h6, h7, h8, r2, r4, r7⟩ := HHH.out.cells
 clear r2 r4
 obtain ⟨R, hR⟩ : ∃ R, R = fitsOk x := ⟨_, rfl⟩
 rw [← hR]
 have hR' : R = (if (x.f5 || !whyOk x.f3 || someOf x [4]) = true then false else decide (x.f2 = 4) || (decide (0 ≤ curOf x) && !askAt x (curOf x).toNat && decide (trAt x (curOf x).toNat = 5))) := by rw [hR]; unfold fitsOk; simp only [hst]; rfl
 have HRR := Aside0.mk hR'
 have HR7 := Aside0.mk r7
 have HLEN := Aside0.mk hlen
 rw [hst] at h5
 have HST := Aside0.mk hst
 clear hR hR' hst r7 hlen
 obtain ⟨F, hF⟩ : ∃ F, F = x.f5 := ⟨_, rfl⟩
 obtain ⟨y, hy⟩ : ∃ y, y = x.f3 := ⟨_, rfl⟩
 rw [← hF] at h8
 rw [← hy] at h6
 have EF := Aside0.mk hF
 have EY := Aside0.mk hy
 rw [← hF, ← hy] at HRR
 clear hF hy
 go_enter Tryd.func37, Tryd.ntmps37
 go_wp2_with ((with_reducible refine gate_dst (N := 1) rfl ?_); refine box_event ?hg (N := 1) ?hd (cs := #[.pointer (some ⟨g, 0, none⟩)]) (t := 86) ?hr ?_; (case hd => rfl); (case hg => rfl); (case hr => first | (go_simp; done) | (go_simp; rfl)); intro gb hgb w1 hbox hbb; have hcb : w1.cell? ⟨gb, 0, none⟩ = some (.pointer (some ⟨g, 0, none⟩)) := (blk_cell hbox 0).trans rfl; replace h2 := pw_cell_below hbb h2; replace h5 := pw_cell_below hbb h5; replace h6 := pw_cell_below hbb h6; replace h7 := pw_cell_below hbb h7; replace h8 := pw_cell_below hbb h8; have HCB := Aside0.mk hcb; have HB1 := Aside0.mk hbb; clear hgb hbox hbb h0 h1 h3 h4)
 go_quiet (fail)
 cases F with
 | true =>
  go_wp2
  go_ret
  refine ⟨(show Ending.returned (.bool false) = Ending.returned (.bool R) from ?_), pw_below_drewN HB1.out _⟩
  rw [HRR.out]; simp
 | false =>
  go_wp2_with (fail)
  refine (saga_why.calls y (whyOk y) _ (saga_why_f y)).mono ?_
  rintro e wy ⟨rfl, hdy⟩
  have hby := hdy.below
  have HBY := Aside0.mk (below_step (pw_below_drewN HB1.out _) hby)
  replace hcb := pw_cell_below hby (show (w1.drewN _).cell? _ = _ from hcb)
  replace h2 := pw_cell_below hby (show (w1.drewN _).cell? _ = _ from h2)
  replace h5 := pw_cell_below hby (show (w1.drewN _).cell? _ = _ from h5)
  replace h6 := pw_cell_below hby (show (w1.drewN _).cell? _ = _ from h6)
  replace h7 := pw_cell_below hby (show (w1.drewN _).cell? _ = _ from h7)
  replace h8 := pw_cell_below hby (show (w1.drewN _).cell? _ = _ from h8)
  have HCB := Aside0.mk hcb
  clear hdy hby
  obtain ⟨bw, hbw⟩ : ∃ b, b = whyOk y := ⟨_, rfl⟩
  rw [← hbw]
  have EW := Aside0.mk hbw
  clear hbw
  cases bw with
  | true =>
   go_wp2_with (fail)
   refine (saga_holder_some.at g x _ _ [4] _ (HHH.out.below (below_alloc (HBY.out) _)) hxl (by simp) (lit1_reads wy _ 4) (by simp)).mono ?_
   rintro e ws ⟨rfl, hbs⟩
   have HBS := Aside0.mk (below_step (below_alloc (HBY.out) _) hbs)
   replace hcb := pw_cell_below hbs (show (World.alloc wy _).cell? _ = _ from (World.cell?_alloc_lt _ _ _ (World.block_lt_of_cell? _ _ hcb)).trans hcb)
   replace h2 := pw_cell_below hbs (show (World.alloc wy _).cell? _ = _ from (World.cell?_alloc_lt _ _ _ (World.block_lt_of_cell? _ _ h2)).trans h2)
   replace h5 := pw_cell_below hbs (show (World.alloc wy _).cell? _ = _ from (World.cell?_alloc_lt _ _ _ (World.block_lt_of_cell? _ _ h5)).trans h5)
   replace h6 := pw_cell_below hbs (show (World.alloc wy _).cell? _ = _ from (World.cell?_alloc_lt _ _ _ (World.block_lt_of_cell? _ _ h6)).trans h6)
   replace h7 := pw_cell_below hbs (show (World.alloc wy _).cell? _ = _ from (World.cell?_alloc_lt _ _ _ (World.block_lt_of_cell? _ _ h7)).trans h7)
   replace h8 := pw_cell_below hbs (show (World.alloc wy _).cell? _ = _ from (World.cell?_alloc_lt _ _ _ (World.block_lt_of_cell? _ _ h8)).trans h8)
   have HCB := Aside0.mk hcb
   clear hbs
   obtain ⟨bs, hbs⟩ : ∃ b, b = someOf x [4] := ⟨_, rfl⟩
   rw [← hbs]
   have ES := Aside0.mk hbs
   clear hbs
   cases bs with
   | true =>
    go_wp2
    go_ret
    refine ⟨(show Ending.returned (.bool false) = Ending.returned (.bool R) from ?_), HBS.out⟩
    rw [HRR.out, ← EW.out, ← ES.out]; simp
   | false =>
    go_wp2_with (fail)
    refine (saga_holder_current.at g x _ (HHH.out.below HBS.out) hxl).mono ?_
    rintro e wc ⟨rfl, hbc⟩
    have HBC := Aside0.mk (below_step HBS.out hbc)
    replace hcb := pw_cell_below hbc hcb
    replace h2 := pw_cell_below hbc h2
    replace h5 := pw_cell_below hbc h5
    replace h6 := pw_cell_below hbc h6
    replace h7 := pw_cell_below hbc h7
    replace h8 := pw_cell_below hbc h8
    clear hbc
    obtain ⟨cu, hcu⟩ : ∃ b, b = curOf x := ⟨_, rfl⟩
    rw [← hcu]
    have EC := Aside0.mk hcu
    clear hcu
    go_wp2
    go_ret
    refine ⟨(show Ending.returned (.bool true) = Ending.returned (.bool R) from ?_), HBC.out⟩
    rw [HRR.out, ← EW.out, ← ES.out, HST.out]; simp
  | false =>
   go_wp2
   go_ret
   refine ⟨(show Ending.returned (.bool false) = Ending.returned (.bool R) from ?_), HBY.out⟩
   rw [HRR.out, ← EW.out]; simp
set_option maxHeartbeats 4000000 in
set_option maxRecDepth 100000 in
theorem saga_holder_fits.at5 (g : Nat) (x : S50) (W : World) (hH : HH W g x) (hlen : x.f4.length ≤ x.f1.f1.length) (hxl : x.f4.length ≤ 1000) (hst : x.f2 = 5) :
  Calls Tryd.prog 37 #[.pointer (some ⟨g, 0, none⟩)] W (fun e W' => e = .returned (.bool (fitsOk x)) ∧ Below W.heap.size W W') := by
 have HHH := Aside0.mk hH
 have HB := Aside0.mk (Below.refl W.heap.size W)
 clear hH
 obtain ⟨A2, c2, A4, c4, A7, c7, h0, h1, h2, h3, h4, h5, h6, h7, h8, r2, r4, r7⟩ := HHH.out.cells
 clear r2 r4
 obtain ⟨R, hR⟩ : ∃ R, R = fitsOk x := ⟨_, rfl⟩
 rw [← hR]
 have hR' : R = (if (x.f5 || !whyOk x.f3 || someOf x [4]) = true then false else decide (x.f2 = 4) || (decide (0 ≤ curOf x) && !askAt x (curOf x).toNat && decide (trAt x (curOf x).toNat = 5))) := by rw [hR]; unfold fitsOk; simp only [hst]; rfl
 have HRR := Aside0.mk hR'
 have HR7 := Aside0.mk r7
 have HLEN := Aside0.mk hlen
 rw [hst] at h5
 have HST := Aside0.mk hst
 clear hR hR' hst r7 hlen
 obtain ⟨F, hF⟩ : ∃ F, F = x.f5 := ⟨_, rfl⟩
 obtain ⟨y, hy⟩ : ∃ y, y = x.f3 := ⟨_, rfl⟩
 rw [← hF] at h8
 rw [← hy] at h6
 have EF := Aside0.mk hF
 have EY := Aside0.mk hy
 rw [← hF, ← hy] at HRR
 clear hF hy
 go_enter Tryd.func37, Tryd.ntmps37
 go_wp2_with ((with_reducible refine gate_dst (N := 1) rfl ?_); refine box_event ?hg (N := 1) ?hd (cs := #[.pointer (some ⟨g, 0, none⟩)]) (t := 86) ?hr ?_; (case hd => rfl); (case hg => rfl); (case hr => first | (go_simp; done) | (go_simp; rfl)); intro gb hgb w1 hbox hbb; have hcb : w1.cell? ⟨gb, 0, none⟩ = some (.pointer (some ⟨g, 0, none⟩)) := (blk_cell hbox 0).trans rfl; replace h2 := pw_cell_below hbb h2; replace h5 := pw_cell_below hbb h5; replace h6 := pw_cell_below hbb h6; replace h7 := pw_cell_below hbb h7; replace h8 := pw_cell_below hbb h8; have HCB := Aside0.mk hcb; have HB1 := Aside0.mk hbb; clear hgb hbox hbb h0 h1 h3 h4)
 go_quiet (fail)
 cases F with
 | true =>
  go_wp2
  go_ret
  refine ⟨(show Ending.returned (.bool false) = Ending.returned (.bool R) from ?_), pw_below_drewN HB1.out _⟩
  rw [HRR.out]; simp
 | false =>
  go_wp2_with (fail)
  refine (saga_why.calls y (whyOk y) _ (saga_why_f y)).mono ?_
  rintro e wy ⟨rfl, hdy⟩
  have hby := hdy.below
  have HBY := Aside0.mk (below_step (pw_below_drewN HB1.out _) hby)
  replace hcb := pw_cell_below hby (show (w1.drewN _).cell? _ = _ from hcb)
  replace h2 := pw_cell_below hby (show (w1.drewN _).cell? _ = _ from h2)
  replace h5 := pw_cell_below hby (show (w1.drewN _).cell? _ = _ from h5)
  replace h6 := pw_cell_below hby (show (w1.drewN _).cell? _ = _ from h6)
  replace h7 := pw_cell_below hby (show (w1.drewN _).cell? _ = _ from h7)
  replace h8 := pw_cell_below hby (show (w1.drewN _).cell? _ = _ from h8)
  have HCB := Aside0.mk hcb
  clear hdy hby
  obtain ⟨bw, hbw⟩ : ∃ b, b = whyOk y := ⟨_, rfl⟩
  rw [← hbw]
  have EW := Aside0.mk hbw
  clear hbw
  cases bw with
  | true =>
   go_wp2_with (fail)
   refine (saga_holder_some.at g x _ _ [4] _ (HHH.out.below (below_alloc (HBY.out) _)) hxl (by simp) (lit1_reads wy _ 4) (by simp)).mono ?_
   rintro e ws ⟨rfl, hbs⟩
   have HBS := Aside0.mk (below_step (below_alloc (HBY.out) _) hbs)
   replace hcb := pw_cell_below hbs (show (World.alloc wy _).cell? _ = _ from (World.cell?_alloc_lt _ _ _ (World.block_lt_of_cell? _ _ hcb)).trans hcb)
   replace h2 := pw_cell_below hbs (show (World.alloc wy _).cell? _ = _ from (World.cell?_alloc_lt _ _ _ (World.block_lt_of_cell? _ _ h2)).trans h2)
   replace h5 := pw_cell_below hbs (show (World.alloc wy _).cell? _ = _ from (World.cell?_alloc_lt _ _ _ (World.block_lt_of_cell? _ _ h5)).trans h5)
   replace h6 := pw_cell_below hbs (show (World.alloc wy _).cell? _ = _ from (World.cell?_alloc_lt _ _ _ (World.block_lt_of_cell? _ _ h6)).trans h6)
   replace h7 := pw_cell_below hbs (show (World.alloc wy _).cell? _ = _ from (World.cell?_alloc_lt _ _ _ (World.block_lt_of_cell? _ _ h7)).trans h7)
   replace h8 := pw_cell_below hbs (show (World.alloc wy _).cell? _ = _ from (World.cell?_alloc_lt _ _ _ (World.block_lt_of_cell? _ _ h8)).trans h8)
   have HCB := Aside0.mk hcb
   clear hbs
   obtain ⟨bs, hbs⟩ : ∃ b, b = someOf x [4] := ⟨_, rfl⟩
   rw [← hbs]
   have ES := Aside0.mk hbs
   clear hbs
   cases bs with
   | true =>
    go_wp2
    go_ret
    refine ⟨(show Ending.returned (.bool false) = Ending.returned (.bool R) from ?_), HBS.out⟩
    rw [HRR.out, ← EW.out, ← ES.out]; simp
   | false =>
    go_wp2_with (fail)
    refine (saga_holder_current.at g x _ (HHH.out.below HBS.out) hxl).mono ?_
    rintro e wc ⟨rfl, hbc⟩
    have HBC := Aside0.mk (below_step HBS.out hbc)
    replace hcb := pw_cell_below hbc hcb
    replace h2 := pw_cell_below hbc h2
    replace h5 := pw_cell_below hbc h5
    replace h6 := pw_cell_below hbc h6
    replace h7 := pw_cell_below hbc h7
    replace h8 := pw_cell_below hbc h8
    clear hbc
    obtain ⟨cu, hcu⟩ : ∃ b, b = curOf x := ⟨_, rfl⟩
    rw [← hcu]
    have EC := Aside0.mk hcu
    clear hcu
    by_cases hc0 : 0 ≤ cu
    ·have hlt : cu.toNat < x.f4.length := by rw [EC.out]; exact curOf_lt x (by rw [← EC.out]; exact hc0)
     obtain ⟨ci, hci⟩ : ∃ n : Nat, cu = (n : Int) := ⟨cu.toNat, by omega⟩
     subst hci
     simp only [Int.toNat_natCast] at hlt
     obtain ⟨ba, hba⟩ : ∃ q, q = askAt x ci := ⟨_, rfl⟩
     have EA := Aside0.mk hba
     clear hba
     obtain ⟨ad, he, hx0, hx1⟩ := at_T62 (Kd.C_below HR7.out HBC.out) (ci : Int) (by omega) (by omega)
     subst he
     simp only [Int.toNat_natCast] at hx0 hx1
     rw [show (rd_T62 x.f4 (ci : Int)).f1 = trAt x ci from rfl] at hx1
     obtain ⟨tr, htr⟩ : ∃ q, q = trAt x ci := ⟨_, rfl⟩
     rw [← htr] at hx1
     have ET := Aside0.mk htr
     clear htr hx0
     go_wp2_with (fail)
     refine (saga_holder_asks.at g x ci _ (HHH.out.below HBC.out) (by have := HLEN.out; omega)).mono ?_
     rintro e wq ⟨rfl, hbq⟩
     have HBQ := Aside0.mk (below_step HBC.out hbq)
     replace hcb := pw_cell_below hbq hcb
     replace h7 := pw_cell_below hbq h7
     replace hx1 := pw_cell_below hbq hx1
     clear hbq
     rw [← EA.out]
     cases ba with
     | true =>
      go_wp2
      go_ret
      refine ⟨(show Ending.returned (.bool false) = Ending.returned (.bool R) from ?_), HBQ.out⟩
      rw [HRR.out, ← EW.out, ← ES.out, ← EC.out, HST.out]; simp [← EA.out]
     | false =>
      go_wp2
      go_ret
      refine ⟨(show Ending.returned (.bool (tr == 5)) = Ending.returned (.bool R) from ?_), HBQ.out⟩
      rw [HRR.out, ← EW.out, ← ES.out, ← EC.out, HST.out]
      simp only [Int.toNat_natCast, ← EA.out, ← ET.out]
      rw [show (tr == 5) = decide (tr = 5) from by rw [Bool.eq_iff_iff]; simp]
      simp
    ·have hc1 : cu < 0 := by omega
     have hc2 : decide (0 ≤ cu) = false := decide_eq_false hc0
     have HC0 := Aside0.mk hc0
     go_wp2
     go_ret
     refine ⟨(show Ending.returned (.bool false) = Ending.returned (.bool R) from ?_), HBC.out⟩
     rw [HRR.out, ← EW.out, ← ES.out, ← EC.out, HST.out]; simp [show ¬ (0 : Int) ≤ cu from by have := HC0.out; omega]
  | false =>
   go_wp2
   go_ret
   refine ⟨(show Ending.returned (.bool false) = Ending.returned (.bool R) from ?_), HBY.out⟩
   rw [HRR.out, ← EW.out]; simp
set_option maxHeartbeats 4000000 in
set_option maxRecDepth 100000 in
theorem saga_holder_fits.at0 (g : Nat) (x : S50) (W : World) (hH : HH W g x) (hlen : x.f4.length ≤ x.f1.f1.length) (hxl : x.f4.length ≤ 1000) (hst : x.f2 ≠ 1 ∧ x.f2 ≠ 2 ∧ x.f2 ≠ 3 ∧ x.f2 ≠ 4 ∧ x.f2 ≠ 5 ∧ x.f2 ≠ 6) :
  Calls Tryd.prog 37 #[.pointer (some ⟨g, 0, none⟩)] W (fun e W' => e = .returned (.bool (fitsOk x)) ∧ Below W.heap.size W W') := by
 have HHH := Aside0.mk hH
 have HB := Aside0.mk (Below.refl W.heap.size W)
 clear hH
 obtain ⟨A2, c2, A4, c4, A7, c7, h0, h1, h2, h3, h4, h5, h6, h7, h8, r2, r4, r7⟩ := HHH.out.cells
 clear r2 r4
 obtain ⟨R, hR⟩ : ∃ R, R = fitsOk x := ⟨_, rfl⟩
 rw [← hR]
 have hR' : R = false := by rw [hR]; unfold fitsOk; simp [hst]
 have HRR := Aside0.mk hR'
 have HR7 := Aside0.mk r7
 have HLEN := Aside0.mk hlen
 have HST := Aside0.mk hst
 clear hR hR' hst r7 hlen
 obtain ⟨F, hF⟩ : ∃ F, F = x.f5 := ⟨_, rfl⟩
 obtain ⟨y, hy⟩ : ∃ y, y = x.f3 := ⟨_, rfl⟩
 rw [← hF] at h8
 rw [← hy] at h6
 have EF := Aside0.mk hF
 have EY := Aside0.mk hy
 clear hF hy
 obtain ⟨st, hst⟩ : ∃ q, q = x.f2 := ⟨_, rfl⟩
 rw [← hst] at h5 HST
 clear hst
 have q1 : (st == 1) = false := beq_eq_false_iff_ne.mpr HST.out.1
 have q2 : (st == 2) = false := beq_eq_false_iff_ne.mpr HST.out.2.1
 have q3 : (st == 3) = false := beq_eq_false_iff_ne.mpr HST.out.2.2.1
 have q4 : (st == 4) = false := beq_eq_false_iff_ne.mpr HST.out.2.2.2.1
 have q5 : (st == 5) = false := beq_eq_false_iff_ne.mpr HST.out.2.2.2.2.1
 have q6 : (st == 6) = false := beq_eq_false_iff_ne.mpr HST.out.2.2.2.2.2
 go_enter Tryd.func37, Tryd.ntmps37
 go_wp2_with ((with_reducible refine gate_dst (N := 1) rfl ?_); refine box_event ?hg (N := 1) ?hd (cs := #[.pointer (some ⟨g, 0, none⟩)]) (t := 86) ?hr ?_; (case hd => rfl); (case hg => rfl); (case hr => first | (go_simp; done) | (go_simp; rfl)); intro gb hgb w1 hbox hbb; have hcb : w1.cell? ⟨gb, 0, none⟩ = some (.pointer (some ⟨g, 0, none⟩)) := (blk_cell hbox 0).trans rfl; replace h2 := pw_cell_below hbb h2; replace h5 := pw_cell_below hbb h5; replace h6 := pw_cell_below hbb h6; replace h7 := pw_cell_below hbb h7; replace h8 := pw_cell_below hbb h8; have HCB := Aside0.mk hcb; have HB1 := Aside0.mk hbb; clear hgb hbox hbb h0 h1 h3 h4)
 go_quiet (fail)
 go_wp2
 go_ret
 refine ⟨(show Ending.returned (.bool false) = Ending.returned (.bool R) from ?_), pw_below_drewN HB1.out _⟩
 rw [HRR.out]
theorem saga_holder_fits.at (g : Nat) (x : S50) (W : World) (hH : HH W g x) (hlen : x.f4.length ≤ x.f1.f1.length) (hxl : x.f4.length ≤ 1000) :
  Calls Tryd.prog 37 #[.pointer (some ⟨g, 0, none⟩)] W (fun e W' => e = .returned (.bool (fitsOk x)) ∧ Below W.heap.size W W') := by
 by_cases h1 : x.f2 = 1
 ·exact saga_holder_fits.at1 g x W hH hlen hxl h1
 by_cases h2 : x.f2 = 2
 ·exact saga_holder_fits.at2 g x W hH hlen hxl h2
 by_cases h3 : x.f2 = 3
 ·cases hf : x.f5 with
  | true => exact saga_holder_fits.at3F g x W hH hlen hxl h3 hf
  | false => exact saga_holder_fits.at3N g x W hH hlen hxl h3 hf
 by_cases h4 : x.f2 = 4
 ·exact saga_holder_fits.at4 g x W hH hlen hxl h4
 by_cases h5 : x.f2 = 5
 ·exact saga_holder_fits.at5 g x W hH hlen hxl h5
 by_cases h6 : x.f2 = 6
 ·cases hf : x.f5 with
  | true => exact saga_holder_fits.at6F g x W hH hlen hxl h6 hf
  | false => exact saga_holder_fits.at6N g x W hH hlen hxl h6 hf
 exact saga_holder_fits.at0 g x W hH hlen hxl ⟨h1, h2, h3, h4, h5, h6⟩

end Go.Proofs.YtidobdhkncaljaaDoorK
