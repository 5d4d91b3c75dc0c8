-- made by hprint.py out of the translation and the hand texts
import Derived.Test.YtidobdhkncaljaaDoorKMv
import Derived.Test.YtidobdhkncaljaaDoorK0
import Derived.Test.YtidobdhkncaljaaDoorK2
import Derived.Test.YtidobdhkncaljaaDoorK3
import Derived.Test.YtidobdhkncaljaaDoorK4
import Derived.Test.YtidobdhkncaljaaDoorK5
import Derived.Test.YtidobdhkncaljaaDoorK6
import Derived.Test.YtidobdhkncaljaaDoorK8
namespace Go.Proofs.YtidobdhkncaljaaDoorK
open Go.RowKit Go.Proofs.YtidobdhkncaljaaDoorW.PrintWords Go.Proofs.YtidobdhkncaljaaDoorW.PrintLast Go.Proofs.YtidobdhkncaljaaDoorW.PrintMore
attribute [local go_sem] max2_int min2_int max_two min_two max_three min_three max_four min_four   -- for this text's walks alone
set_option linter.unusedVariables false
set_option linter.unusedSimpArgs false

/-! ### saga_May: function 15, by hand -/
def partOk (x : S50) (i : Nat) : Bool := decide (0 ≤ stAt x i) && decide (stAt x i ≤ 4) && (askAt x i || !decide (stAt x i = 1)) && decide (0 ≤ trAt x i) && decide (trAt x i ≤ 5)
set_option maxHeartbeats 4000000 in
set_option maxRecDepth 100000 in
theorem saga_May_1.at (gs gb g : Nat) (x : S50) (i : Nat) (A7 : Option Addr) (c7 : Nat) (W : World) (hH : HH W g x) (hi : i < x.f4.length) (hlen : x.f4.length ≤ x.f1.f1.length) (hxl : x.f4.length ≤ 1000) (hb : W.cell? ⟨gb, 0, none⟩ = some (.pointer (some ⟨g, 0, none⟩))) (hs : W.cell? ⟨gs, 7, none⟩ = some (.slice A7 x.f4.length c7)) (hr : Kd.C k62 W A7 x.f4.length x.f4) :
  Calls Tryd.prog 35 #[.int .i64 (i : Int), .pointer (some ⟨gs, 0, none⟩), .pointer (some ⟨gb, 0, none⟩)] W (fun e W' => e = .returned (.bool (partOk x i)) ∧ Below W.heap.size W W') := by
 have HHH := Aside0.mk hH
 have HI := Aside0.mk hi
 have HLEN := Aside0.mk hlen
 have HB := Aside0.mk (Below.refl W.heap.size W)
 obtain ⟨R, hR⟩ : ∃ q, q = partOk x i := ⟨_, rfl⟩
 rw [← hR]
 have HRR := Aside0.mk hR
 obtain ⟨ad, he, hx0, hx1⟩ := at_T62 hr (i : Int) (by omega) (by omega)
 subst he
 simp only [Int.toNat_natCast] at hx0 hx1
 rw [show (rd_T62 x.f4 (i : Int)).f1 = trAt x i from rfl] at hx1
 rw [show (rd_T62 x.f4 (i : Int)).f0 = stAt x i from rfl] at hx0
 obtain ⟨tr, htr⟩ : ∃ q, q = trAt x i := ⟨_, rfl⟩
 rw [← htr] at hx1
 obtain ⟨st, hst⟩ : ∃ q, q = stAt x i := ⟨_, rfl⟩
 rw [← hst] at hx0
 obtain ⟨ba, hba⟩ : ∃ q, q = askAt x i := ⟨_, rfl⟩
 have hR' : R = (decide (0 ≤ st) && decide (st ≤ 4) && (ba || !decide (st = 1)) && decide (0 ≤ tr) && decide (tr ≤ 5)) := by rw [hR, htr, hst, hba]; rfl
 have EA := Aside0.mk hba
 have HRR := Aside0.mk hR'
 obtain ⟨W1, hW1⟩ : ∃ W1, W1 = W.alloc (.cells #[.int .i64 st, .int .i64 tr] 62) := ⟨_, rfl⟩
 have hb1 : (W.alloc (.cells #[.int .i64 st, .int .i64 tr] 62)).cell? ⟨gb, 0, none⟩ = some (.pointer (some ⟨g, 0, none⟩)) := (World.cell?_alloc_lt _ _ _ (World.block_lt_of_cell? _ _ hb)).trans hb
 have HB1 := Aside0.mk (show Below W.heap.size W W1 by rw [hW1]; exact below_alloc (Below.refl _ _) _)
 have hp0 : W1.cell? ⟨W.heap.size, 0, none⟩ = some (.int .i64 st) := by rw [hW1]; exact (blk_cell (blk_new W _) 0).trans rfl
 have hp1 : W1.cell? ⟨W.heap.size, 1, none⟩ = some (.int .i64 tr) := by rw [hW1]; exact (blk_cell (blk_new W _) 1).trans rfl
 have HW1 := Aside0.mk hW1
 clear hR hR' htr hst hba hH hlen hr hW1
 by_cases h0 : 0 ≤ st
 ·by_cases h4 : st ≤ 4
  ·go_enter Tryd.func35, Tryd.ntmps35
   go_wp2_with (fail)
   rw [← HW1.out]
   refine (saga_holder_asks.at g x i _ (HHH.out.below HB1.out) (by have := HI.out; have := HLEN.out; omega)).mono ?_
   rintro e w2 ⟨rfl, hb2⟩
   replace hp0 := pw_cell_below hb2 hp0
   replace hp1 := pw_cell_below hb2 hp1
   have HB2 := Aside0.mk (below_step HB1.out hb2)
   clear hb2
   rw [← EA.out]
   cases ba with
   | true =>
    by_cases t0 : 0 ≤ tr
    ·go_wp2
     go_ret
     refine ⟨(show Ending.returned (.bool (decide (tr ≤ 5))) = Ending.returned (.bool R) from ?_), HB2.out⟩
     rw [HRR.out]; simp [h0, h4, t0]
    ·have t1 : tr < 0 := by omega
     have T1 := Aside0.mk t0
     go_wp2
     go_ret
     refine ⟨(show Ending.returned (.bool false) = Ending.returned (.bool R) from ?_), HB2.out⟩
     rw [HRR.out]; simp [show ¬ (0 : Int) ≤ tr from by have := T1.out; omega]
   | false =>
    by_cases s1 : st = 1
    ·subst s1
     go_wp2
     go_ret
     refine ⟨(show Ending.returned (.bool false) = Ending.returned (.bool R) from ?_), HB2.out⟩
     rw [HRR.out]; simp
    ·have s2 : (st != 1) = true := bne_iff_ne.mpr s1
     have S1 := Aside0.mk s1
     by_cases t0 : 0 ≤ tr
     ·go_wp2
      go_ret
      refine ⟨(show Ending.returned (.bool (decide (tr ≤ 5))) = Ending.returned (.bool R) from ?_), HB2.out⟩
      rw [HRR.out]; simp [h0, h4, t0, S1.out]
     ·have t1 : tr < 0 := by omega
      have T1 := Aside0.mk t0
      go_wp2
      go_ret
      refine ⟨(show Ending.returned (.bool false) = Ending.returned (.bool R) from ?_), HB2.out⟩
      rw [HRR.out]; simp [show ¬ (0 : Int) ≤ tr from by have := T1.out; omega]
  ·have T4 := Aside0.mk h4
   go_enter Tryd.func35, Tryd.ntmps35
   go_wp2
   go_ret
   refine ⟨(show Ending.returned (.bool false) = Ending.returned (.bool R) from ?_), (HW1.out ▸ HB1.out)⟩
   rw [HRR.out]; simp [show ¬ st ≤ 4 from by have := T4.out; omega]
 ·have T0 := Aside0.mk h0
  go_enter Tryd.func35, Tryd.ntmps35
  go_wp2
  go_ret
  refine ⟨(show Ending.returned (.bool false) = Ending.returned (.bool R) from ?_), (HW1.out ▸ HB1.out)⟩
  rw [HRR.out]; simp [show ¬ (0 : Int) ≤ st from by have := T0.out; omega]
def refOk (x : S50) : Bool := decide (x.f1.f0.size = 0) && !decide (0 < wrap64 ((x.f1.f1.length : Int) + (x.f4.length : Int))) && whyOk x.f3 && !x.f5 && decide (0 < x.f0.f2.length)
/-- A saga that may be. -/
def sagaOk (x : S50) : Bool := idOk x.f0.f0 x.f0.f1 x.f0.f2 && (if x.f2 = 7 then refOk x else defOk x.f1.f0 x.f1.f1 && decide (x.f4.length = x.f1.f1.length) && allP x (partOk x) && fitsOk x)
def saga_May.f (a0_0 : Int) (a0_1 : Int) (l0_2 : List (S69)) (a0_3 : ByteArray) (l0_4 : List (S60)) (a0_5 : Int) (a0_6 : Int) (l0_7 : List (S62)) (a0_8 : Bool) : Option Int := some (if sagaOk ⟨⟨a0_0, a0_1, l0_2⟩, ⟨a0_3, l0_4⟩, a0_5, a0_6, l0_7, a0_8⟩ = true then 0 else 230)
set_option maxHeartbeats 4000000 in
set_option maxRecDepth 100000 in
theorem saga_May.at7 (x : S50) (A2 : Option Addr) (c2 : Nat) (A4 : Option Addr) (c4 : Nat) (A7 : Option Addr) (c7 : Nat) (w : World) (r2 : Kd.C k69 w A2 x.f0.f2.length x.f0.f2) (q2 : x.f0.f2.length ≤ c2) (r4 : Kd.C k60 w A4 x.f1.f1.length x.f1.f1) (q4 : x.f1.f1.length ≤ c4) (r7 : Kd.C k62 w A7 x.f4.length x.f4) (q7 : x.f4.length ≤ c7) (hst : x.f2 = 7) :
  Calls Tryd.prog 15 #[.agg #[.int .i64 x.f0.f0, .int .i64 x.f0.f1, .slice A2 x.f0.f2.length c2, .string x.f1.f0, .slice A4 x.f1.f1.length c4, .int .i64 x.f2, .int .i64 x.f3, .slice A7 x.f4.length c7, .bool x.f5]] w (fun e W' => e = .returned (.int .i64 (if sagaOk x = true then 0 else 230)) ∧ Below w.heap.size w W') := by
 obtain ⟨r, hr⟩ : ∃ r, r = (if sagaOk x = true then (0 : Int) else 230) := ⟨_, rfl⟩
 rw [← hr]
 have hm4 := Kd.C_max r4
 have hm7 := Kd.C_max r7
 have HRR := Aside0.mk hr
 obtain ⟨W3, hW3⟩ : ∃ W3, W3 = ((w.alloc (.cells #[.int .i64 x.f0.f0, .int .i64 x.f0.f1, .slice A2 x.f0.f2.length c2, .string x.f1.f0, .slice A4 x.f1.f1.length c4, .int .i64 x.f2, .int .i64 x.f3, .slice A7 x.f4.length c7, .bool x.f5] 50)).alloc (.cells #[.int .i64 x.f0.f0, .int .i64 x.f0.f1, .slice A2 x.f0.f2.length c2, .string x.f1.f0, .slice A4 x.f1.f1.length c4, .int .i64 x.f2, .int .i64 x.f3, .slice A7 x.f4.length c7, .bool x.f5] 88)).alloc (.cells #[.pointer (some ⟨w.heap.size + 1, 0, none⟩)] 86) := ⟨_, rfl⟩
 have hb3 : Below w.heap.size w W3 := by rw [hW3]; exact below_alloc (below_alloc (below_alloc (Below.refl _ _) _) _) _
 have hgs : W3.heap[w.heap.size]? = some (.cells #[.int .i64 x.f0.f0, .int .i64 x.f0.f1, .slice A2 x.f0.f2.length c2, .string x.f1.f0, .slice A4 x.f1.f1.length c4, .int .i64 x.f2, .int .i64 x.f3, .slice A7 x.f4.length c7, .bool x.f5] 50 (0, 0)) := by rw [hW3]; exact blk_alloc (blk_alloc (blk_new w _) _) _
 have hg : W3.heap[w.heap.size + 1]? = some (.cells #[.int .i64 x.f0.f0, .int .i64 x.f0.f1, .slice A2 x.f0.f2.length c2, .string x.f1.f0, .slice A4 x.f1.f1.length c4, .int .i64 x.f2, .int .i64 x.f3, .slice A7 x.f4.length c7, .bool x.f5] 88 (0, 0)) := by
  rw [hW3]
  have h := blk_new (w.alloc (.cells #[.int .i64 x.f0.f0, .int .i64 x.f0.f1, .slice A2 x.f0.f2.length c2, .string x.f1.f0, .slice A4 x.f1.f1.length c4, .int .i64 x.f2, .int .i64 x.f3, .slice A7 x.f4.length c7, .bool x.f5] 50)) (.cells #[.int .i64 x.f0.f0, .int .i64 x.f0.f1, .slice A2 x.f0.f2.length c2, .string x.f1.f0, .slice A4 x.f1.f1.length c4, .int .i64 x.f2, .int .i64 x.f3, .slice A7 x.f4.length c7, .bool x.f5] 88)
  rw [World.size_alloc] at h
  exact blk_alloc h _
 have hgb : W3.cell? ⟨w.heap.size + 1 + 1, 0, none⟩ = some (.pointer (some ⟨w.heap.size + 1, 0, none⟩)) := by
  rw [hW3]
  have h := blk_new ((w.alloc (.cells #[.int .i64 x.f0.f0, .int .i64 x.f0.f1, .slice A2 x.f0.f2.length c2, .string x.f1.f0, .slice A4 x.f1.f1.length c4, .int .i64 x.f2, .int .i64 x.f3, .slice A7 x.f4.length c7, .bool x.f5] 50)).alloc (.cells #[.int .i64 x.f0.f0, .int .i64 x.f0.f1, .slice A2 x.f0.f2.length c2, .string x.f1.f0, .slice A4 x.f1.f1.length c4, .int .i64 x.f2, .int .i64 x.f3, .slice A7 x.f4.length c7, .bool x.f5] 88)) (.cells #[.pointer (some ⟨w.heap.size + 1, 0, none⟩)] 86)
  rw [World.size_alloc, World.size_alloc] at h
  exact (blk_cell h 0).trans rfl
 have hHH : HH W3 (w.heap.size + 1) x := ⟨A2, c2, A4, c4, A7, c7, hg, Kd.C_below r2 hb3, Kd.C_below r4 hb3, Kd.C_below r7 hb3⟩
 have h2 : W3.cell? ⟨w.heap.size, 2, none⟩ = some (.slice A2 x.f0.f2.length c2) := (blk_cell hgs 2).trans rfl
 have h3 : W3.cell? ⟨w.heap.size, 3, none⟩ = some (.string x.f1.f0) := (blk_cell hgs 3).trans rfl
 have h4 : W3.cell? ⟨w.heap.size, 4, none⟩ = some (.slice A4 x.f1.f1.length c4) := (blk_cell hgs 4).trans rfl
 have h5 : W3.cell? ⟨w.heap.size, 5, none⟩ = some (.int .i64 x.f2) := (blk_cell hgs 5).trans rfl
 have h6 : W3.cell? ⟨w.heap.size, 6, none⟩ = some (.int .i64 x.f3) := (blk_cell hgs 6).trans rfl
 have h7 : W3.cell? ⟨w.heap.size, 7, none⟩ = some (.slice A7 x.f4.length c7) := (blk_cell hgs 7).trans rfl
 have h8 : W3.cell? ⟨w.heap.size, 8, none⟩ = some (.bool x.f5) := (blk_cell hgs 8).trans rfl
 rw [hst] at h5
 have HST := Aside0.mk hst
 clear hst
 have HR2 := Aside0.mk r2
 have HR4 := Aside0.mk r4
 have HR7 := Aside0.mk r7
 have HB3 := Aside0.mk hb3
 have HHH := Aside0.mk hHH
 have HW3 := Aside0.mk hW3
 have HQ2 := Aside0.mk q2
 have HQ4 := Aside0.mk q4
 clear hr r2 r4 r7 hb3 hW3 hgs hg hHH
 obtain ⟨bi, hbi⟩ : ∃ b, b = idOk x.f0.f0 x.f0.f1 x.f0.f2 := ⟨_, rfl⟩
 have EI := Aside0.mk hbi
 go_enter Tryd.func15, Tryd.ntmps15
 go_wp2_with (fail)
 rw [← HW3.out]
 refine (ident_Check.calls x.f0.f0 x.f0.f1 A2 c2 x.f0.f2 (if bi = true then 0 else 30) _ (Kd.C_below HR2.out HB3.out) HQ2.out (by rw [EI.out]; rfl)).mono ?_
 rintro e w1 ⟨rfl, hb1⟩
 have HB1 := Aside0.mk (below_step HB3.out hb1)
 have HHH := Aside0.mk (HHH.out.below hb1)
 replace hgb := pw_cell_below hb1 hgb
 replace h2 := pw_cell_below hb1 h2
 replace h3 := pw_cell_below hb1 h3
 replace h4 := pw_cell_below hb1 h4
 replace h5 := pw_cell_below hb1 h5
 replace h6 := pw_cell_below hb1 h6
 replace h7 := pw_cell_below hb1 h7
 replace h8 := pw_cell_below hb1 h8
 clear hb1 hbi
 cases bi with
 | false =>
  go_wp2
  go_ret
  refine ⟨(show Ending.returned (.int .i64 230) = Ending.returned (.int .i64 r) from ?_), HB1.out⟩
  rw [HRR.out]; simp [sagaOk, ← EI.out]
 | true =>
  have hsg : sagaOk x = refOk x := by unfold sagaOk; rw [← EI.out, if_pos HST.out]; rfl
  have HSG := Aside0.mk hsg
  clear hsg
  obtain ⟨bn, hbn⟩ : ∃ b, x.f1.f0.toList.isEmpty = b := ⟨_, rfl⟩
  obtain ⟨F, hF⟩ : ∃ F, x.f5 = F := ⟨_, rfl⟩
  have EF := Aside0.mk hF
  rw [hF] at h8
  clear hF
  obtain ⟨y, hy⟩ : ∃ y, x.f3 = y := ⟨_, rfl⟩
  have EY := Aside0.mk hy
  rw [hy] at h6
  clear hy
  cases bn with
  | false =>
   have hn0 : ¬ x.f1.f0.size = 0 := fun h => by rw [(str_nil_iff _).2 h] at hbn; cases hbn
   have HN0 := Aside0.mk hn0
   clear hn0
   go_wp2
   go_ret
   refine ⟨(show Ending.returned (.int .i64 230) = Ending.returned (.int .i64 r) from ?_), HB1.out⟩
   rw [HRR.out]; simp [HSG.out, refOk, HN0.out]
  | true =>
   have hn0 : x.f1.f0.size = 0 := (str_nil_iff _).1 (List.isEmpty_iff.mp hbn)
   have HN0 := Aside0.mk hn0
   clear hn0
   obtain ⟨sm, hsm⟩ : ∃ q, wrap64 ((x.f1.f1.length : Int) + (x.f4.length : Int)) = q := ⟨_, rfl⟩
   have ESM := Aside0.mk hsm
   by_cases hl : ¬ 0 < sm
   ·have HL := Aside0.mk (show decide (0 < wrap64 ((x.f1.f1.length : Int) + (x.f4.length : Int))) = false from by rw [hsm]; exact decide_eq_false hl)
    obtain ⟨bw, hbw⟩ : ∃ b, whyOk y = b := ⟨_, rfl⟩
    have EW := Aside0.mk hbw
    clear hbw
    go_wp2_with (fail)
    refine (saga_why.calls y (whyOk y) _ (saga_why_f y)).mono ?_
    rintro e wy ⟨rfl, hdy⟩
    have hby := hdy.below
    have HBY := Aside0.mk (below_step HB1.out hby)
    replace h8 := pw_cell_below hby h8
    replace h2 := pw_cell_below hby h2
    clear hdy hby
    rw [EW.out]
    cases bw with
    | false =>
     go_wp2
     go_ret
     refine ⟨(show Ending.returned (.int .i64 230) = Ending.returned (.int .i64 r) from ?_), HBY.out⟩
     rw [HRR.out]; simp [HSG.out, refOk, EY.out, EW.out]
    | true =>
     cases F with
     | true =>
      go_wp2
      go_ret
      refine ⟨(show Ending.returned (.int .i64 230) = Ending.returned (.int .i64 r) from ?_), HBY.out⟩
      rw [HRR.out]; simp [HSG.out, refOk, EF.out]
     | false =>
      by_cases hh : x.f0.f2.length = 0
      ·have HH0 := Aside0.mk hh
       rw [hh] at h2
       clear hh
       go_wp2
       go_ret
       refine ⟨(show Ending.returned (.int .i64 230) = Ending.returned (.int .i64 r) from ?_), HBY.out⟩
       rw [HRR.out]; simp [HSG.out, refOk, HH0.out]
      ·have HH0 := Aside0.mk hh
       have hh2 : (((x.f0.f2.length : Nat) : Int) == 0) = false := by rw [beq_eq_false_iff_ne]; omega
       go_wp2
       go_ret
       refine ⟨(show Ending.returned (.int .i64 0) = Ending.returned (.int .i64 r) from ?_), HBY.out⟩
       rw [HRR.out]; rw [HSG.out]; unfold refOk; rw [HL.out, EY.out, EW.out, EF.out, decide_eq_true HN0.out, decide_eq_true (show 0 < x.f0.f2.length by have := HH0.out; omega)]; rfl
   ·have HL := Aside0.mk hl
    have hpos := Classical.not_not.mp hl
    have HP := Aside0.mk (show decide (0 < wrap64 ((x.f1.f1.length : Int) + (x.f4.length : Int))) = true from by rw [hsm]; exact decide_eq_true hpos)
    clear hl
    go_wp2
    go_ret
    refine ⟨(show Ending.returned (.int .i64 230) = Ending.returned (.int .i64 r) from ?_), HB1.out⟩
    rw [HRR.out]; rw [HSG.out]; unfold refOk; rw [HP.out]; simp
set_option maxHeartbeats 4000000 in
set_option maxRecDepth 100000 in
theorem saga_May.at0 (x : S50) (A2 : Option Addr) (c2 : Nat) (A4 : Option Addr) (c4 : Nat) (A7 : Option Addr) (c7 : Nat) (w : World) (r2 : Kd.C k69 w A2 x.f0.f2.length x.f0.f2) (q2 : x.f0.f2.length ≤ c2) (r4 : Kd.C k60 w A4 x.f1.f1.length x.f1.f1) (q4 : x.f1.f1.length ≤ c4) (r7 : Kd.C k62 w A7 x.f4.length x.f4) (q7 : x.f4.length ≤ c7) (hst : x.f2 ≠ 7) :
  Calls Tryd.prog 15 #[.agg #[.int .i64 x.f0.f0, .int .i64 x.f0.f1, .slice A2 x.f0.f2.length c2, .string x.f1.f0, .slice A4 x.f1.f1.length c4, .int .i64 x.f2, .int .i64 x.f3, .slice A7 x.f4.length c7, .bool x.f5]] w (fun e W' => e = .returned (.int .i64 (if sagaOk x = true then 0 else 230)) ∧ Below w.heap.size w W') := by
 obtain ⟨r, hr⟩ : ∃ r, r = (if sagaOk x = true then (0 : Int) else 230) := ⟨_, rfl⟩
 rw [← hr]
 have hm4 := Kd.C_max r4
 have hm7 := Kd.C_max r7
 have HRR := Aside0.mk hr
 obtain ⟨W3, hW3⟩ : ∃ W3, W3 = ((w.alloc (.cells #[.int .i64 x.f0.f0, .int .i64 x.f0.f1, .slice A2 x.f0.f2.length c2, .string x.f1.f0, .slice A4 x.f1.f1.length c4, .int .i64 x.f2, .int .i64 x.f3, .slice A7 x.f4.length c7, .bool x.f5] 50)).alloc (.cells #[.int .i64 x.f0.f0, .int .i64 x.f0.f1, .slice A2 x.f0.f2.length c2, .string x.f1.f0, .slice A4 x.f1.f1.length c4, .int .i64 x.f2, .int .i64 x.f3, .slice A7 x.f4.length c7, .bool x.f5] 88)).alloc (.cells #[.pointer (some ⟨w.heap.size + 1, 0, none⟩)] 86) := ⟨_, rfl⟩
 have hb3 : Below w.heap.size w W3 := by rw [hW3]; exact below_alloc (below_alloc (below_alloc (Below.refl _ _) _) _) _
 have hgs : W3.heap[w.heap.size]? = some (.cells #[.int .i64 x.f0.f0, .int .i64 x.f0.f1, .slice A2 x.f0.f2.length c2, .string x.f1.f0, .slice A4 x.f1.f1.length c4, .int .i64 x.f2, .int .i64 x.f3, .slice A7 x.f4.length c7, .bool x.f5] 50 (0, 0)) := by rw [hW3]; exact blk_alloc (blk_alloc (blk_new w _) _) _
 have hg : W3.heap[w.heap.size + 1]? = some (.cells #[.int .i64 x.f0.f0, .int .i64 x.f0.f1, .slice A2 x.f0.f2.length c2, .string x.f1.f0, .slice A4 x.f1.f1.length c4, .int .i64 x.f2, .int .i64 x.f3, .slice A7 x.f4.length c7, .bool x.f5] 88 (0, 0)) := by
  rw [hW3]
  have h := blk_new (w.alloc (.cells #[.int .i64 x.f0.f0, .int .i64 x.f0.f1, .slice A2 x.f0.f2.length c2, .string x.f1.f0, .slice A4 x.f1.f1.length c4, .int .i64 x.f2, .int .i64 x.f3, .slice A7 x.f4.length c7, .bool x.f5] 50)) (.cells #[.int .i64 x.f0.f0, .int .i64 x.f0.f1, .slice A2 x.f0.f2.length c2, .string x.f1.f0, .slice A4 x.f1.f1.length c4, .int .i64 x.f2, .int .i64 x.f3, .slice A7 x.f4.length c7, .bool x.f5] 88)
  rw [World.size_alloc] at h
  exact blk_alloc h _
 have hgb : W3.cell? ⟨w.heap.size + 1 + 1, 0, none⟩ = some (.pointer (some ⟨w.heap.size + 1, 0, none⟩)) := by
  rw [hW3]
  have h := blk_new ((w.alloc (.cells #[.int .i64 x.f0.f0, .int .i64 x.f0.f1, .slice A2 x.f0.f2.length c2, .string x.f1.f0, .slice A4 x.f1.f1.length c4, .int .i64 x.f2, .int .i64 x.f3, .slice A7 x.f4.length c7, .bool x.f5] 50)).alloc (.cells #[.int .i64 x.f0.f0, .int .i64 x.f0.f1, .slice A2 x.f0.f2.length c2, .string x.f1.f0, .slice A4 x.f1.f1.length c4, .int .i64 x.f2, .int .i64 x.f3, .slice A7 x.f4.length c7, .bool x.f5] 88)) (.cells #[.pointer (some ⟨w.heap.size + 1, 0, none⟩)] 86)
  rw [World.size_alloc, World.size_alloc] at h
  exact (blk_cell h 0).trans rfl
 have hHH : HH W3 (w.heap.size + 1) x := ⟨A2, c2, A4, c4, A7, c7, hg, Kd.C_below r2 hb3, Kd.C_below r4 hb3, Kd.C_below r7 hb3⟩
 have h2 : W3.cell? ⟨w.heap.size, 2, none⟩ = some (.slice A2 x.f0.f2.length c2) := (blk_cell hgs 2).trans rfl
 have h3 : W3.cell? ⟨w.heap.size, 3, none⟩ = some (.string x.f1.f0) := (blk_cell hgs 3).trans rfl
 have h4 : W3.cell? ⟨w.heap.size, 4, none⟩ = some (.slice A4 x.f1.f1.length c4) := (blk_cell hgs 4).trans rfl
 have h5 : W3.cell? ⟨w.heap.size, 5, none⟩ = some (.int .i64 x.f2) := (blk_cell hgs 5).trans rfl
 have h6 : W3.cell? ⟨w.heap.size, 6, none⟩ = some (.int .i64 x.f3) := (blk_cell hgs 6).trans rfl
 have h7 : W3.cell? ⟨w.heap.size, 7, none⟩ = some (.slice A7 x.f4.length c7) := (blk_cell hgs 7).trans rfl
 have h8 : W3.cell? ⟨w.heap.size, 8, none⟩ = some (.bool x.f5) := (blk_cell hgs 8).trans rfl
 have HST := Aside0.mk hst
 have hs7 : (x.f2 == 7) = false := beq_eq_false_iff_ne.mpr hst
 clear hst
 have HR2 := Aside0.mk r2
 have HR4 := Aside0.mk r4
 have HR7 := Aside0.mk r7
 have HB3 := Aside0.mk hb3
 have HHH := Aside0.mk hHH
 have HW3 := Aside0.mk hW3
 have HQ2 := Aside0.mk q2
 have HQ4 := Aside0.mk q4
 clear hr r2 r4 r7 hb3 hW3 hgs hg hHH
 have eg : EntersH 35 := entersH Tryd.func35 (by kernel_rfl) rfl
 have EG := Aside0.mk eg
 clear eg
 obtain ⟨bi, hbi⟩ : ∃ b, b = idOk x.f0.f0 x.f0.f1 x.f0.f2 := ⟨_, rfl⟩
 have EI := Aside0.mk hbi
 go_enter Tryd.func15, Tryd.ntmps15
 go_wp2_with (fail)
 rw [← HW3.out]
 refine (ident_Check.calls x.f0.f0 x.f0.f1 A2 c2 x.f0.f2 (if bi = true then 0 else 30) _ (Kd.C_below HR2.out HB3.out) HQ2.out (by rw [EI.out]; rfl)).mono ?_
 rintro e w1 ⟨rfl, hb1⟩
 have HB1 := Aside0.mk (below_step HB3.out hb1)
 have HHH := Aside0.mk (HHH.out.below hb1)
 replace hgb := pw_cell_below hb1 hgb
 replace h2 := pw_cell_below hb1 h2
 replace h3 := pw_cell_below hb1 h3
 replace h4 := pw_cell_below hb1 h4
 replace h5 := pw_cell_below hb1 h5
 replace h6 := pw_cell_below hb1 h6
 replace h7 := pw_cell_below hb1 h7
 replace h8 := pw_cell_below hb1 h8
 clear hb1 hbi
 cases bi with
 | false =>
  go_wp2
  go_ret
  refine ⟨(show Ending.returned (.int .i64 230) = Ending.returned (.int .i64 r) from ?_), HB1.out⟩
  rw [HRR.out]; simp [sagaOk, ← EI.out]
 | true =>
  have hsg : sagaOk x = (defOk x.f1.f0 x.f1.f1 && decide (x.f4.length = x.f1.f1.length) && allP x (partOk x) && fitsOk x) := by unfold sagaOk; rw [← EI.out, if_neg HST.out]; rfl
  have HSG := Aside0.mk hsg
  clear hsg
  obtain ⟨bd, hbd⟩ : ∃ b, defOk x.f1.f0 x.f1.f1 = b := ⟨_, rfl⟩
  have ED := Aside0.mk hbd
  clear hbd
  go_wp2_with (fail)
  refine (def_Check.calls x.f1.f0 A4 c4 x.f1.f1 (if bd = true then 0 else 90) _ (Kd.C_below HR4.out HB1.out) HQ4.out (by rw [← ED.out]; rfl)).mono ?_
  rintro e w2 ⟨rfl, hb2⟩
  have HB2 := Aside0.mk (below_step HB1.out hb2)
  have HHH := Aside0.mk (HHH.out.below hb2)
  replace hgb := pw_cell_below hb2 hgb
  replace h4 := pw_cell_below hb2 h4
  replace h7 := pw_cell_below hb2 h7
  clear hb2 h2 h3 h5 h6 h8
  cases bd with
  | false =>
   go_wp2
   go_ret
   refine ⟨(show Ending.returned (.int .i64 230) = Ending.returned (.int .i64 r) from ?_), HB2.out⟩
   rw [HRR.out]; simp [HSG.out, ED.out]
  | true =>
   by_cases hl : x.f4.length = x.f1.f1.length
   ·have HL := Aside0.mk hl
    have h8 : x.f1.f1.length ≤ 8 := by have := ED.out; simp [defOk] at this; omega
    have HL8 := Aside0.mk h8
    rw [← hl] at h4
    clear hl h8 hm4
    go_wp2_with (fail)
    refine (saga_holder_all.at (w.heap.size + 1) x (partOk x) 35 #[] #[.pointer (some ⟨w.heap.size, 0, none⟩), .pointer (some ⟨w.heap.size + 1 + 1, 0, none⟩)] _ EG.out HHH.out (by have := HL.out; have := HL8.out; omega) ?hp).mono ?_
    case hp =>
     intro i hi W1 hb
     exact saga_May_1.at _ _ _ x i A7 c7 W1 (HHH.out.below hb) hi (by have := HL.out; omega) (by have := HL.out; have := HL8.out; omega) (pw_cell_below hb hgb) (pw_cell_below hb h7) (Kd.C_below (Kd.C_below HR7.out HB2.out) hb)
    rintro e w4 ⟨rfl, hb4⟩
    have HB4 := Aside0.mk (below_step HB2.out hb4)
    have HHH := Aside0.mk (HHH.out.below hb4)
    replace hgb := pw_cell_below hb4 hgb
    clear hb4
    obtain ⟨bp, hbp⟩ : ∃ b, (List.range x.f4.length).all (partOk x) = b := ⟨_, rfl⟩
    rw [hbp]
    have EP := Aside0.mk (show allP x (partOk x) = bp from hbp)
    clear hbp
    cases bp with
    | false =>
     go_wp2
     go_ret
     refine ⟨(show Ending.returned (.int .i64 230) = Ending.returned (.int .i64 r) from ?_), HB4.out⟩
     rw [HRR.out]; simp [HSG.out, EP.out]
    | true =>
     go_wp2_with (fail)
     refine (saga_holder_fits.at (w.heap.size + 1) x _ HHH.out (by have := HL.out; omega) (by have := HL.out; have := HL8.out; omega)).mono ?_
     rintro e w5 ⟨rfl, hb5⟩
     have HB5 := Aside0.mk (below_step HB4.out hb5)
     clear hb5
     obtain ⟨bf, hbf⟩ : ∃ b, fitsOk x = b := ⟨_, rfl⟩
     rw [hbf]
     have EF := Aside0.mk hbf
     clear hbf
     cases bf with
     | false =>
      go_wp2
      go_ret
      refine ⟨(show Ending.returned (.int .i64 230) = Ending.returned (.int .i64 r) from ?_), HB5.out⟩
      rw [HRR.out]; simp [HSG.out, EF.out]
     | true =>
      go_wp2
      go_ret
      refine ⟨(show Ending.returned (.int .i64 0) = Ending.returned (.int .i64 r) from ?_), HB5.out⟩
      rw [HRR.out]; simp [HSG.out, EF.out, EP.out, ED.out, HL.out]
   ·have HL := Aside0.mk hl
    have hl2 : (((x.f4.length : Nat) : Int) == ((x.f1.f1.length : Nat) : Int)) = false := by rw [beq_eq_false_iff_ne]; omega
    go_wp2
    go_ret
    refine ⟨(show Ending.returned (.int .i64 230) = Ending.returned (.int .i64 r) from ?_), HB2.out⟩
    rw [HRR.out]; simp [HSG.out, HL.out]
theorem saga_May.calls (a0_0 : Int) (a0_1 : Int) (A0_2 : Option Addr) (c0_2 : Nat) (l0_2 : List (S69)) (a0_3 : ByteArray) (A0_4 : Option Addr) (c0_4 : Nat) (l0_4 : List (S60)) (a0_5 : Int) (a0_6 : Int) (A0_7 : Option Addr) (c0_7 : Nat) (l0_7 : List (S62)) (a0_8 : Bool) (r : Int) (w : World) (hr0_2 : Kd.C k69 w A0_2 l0_2.length l0_2) (hc0_2 : l0_2.length ≤ c0_2) (hr0_4 : Kd.C k60 w A0_4 l0_4.length l0_4) (hc0_4 : l0_4.length ≤ c0_4) (hr0_7 : Kd.C k62 w A0_7 l0_7.length l0_7) (hc0_7 : l0_7.length ≤ c0_7) (h : saga_May.f a0_0 a0_1 l0_2 a0_3 l0_4 a0_5 a0_6 l0_7 a0_8 = some r) :
  Calls Tryd.prog 15 #[.agg #[.int .i64 a0_0, .int .i64 a0_1, .slice A0_2 l0_2.length c0_2, .string a0_3, .slice A0_4 l0_4.length c0_4, .int .i64 a0_5, .int .i64 a0_6, .slice A0_7 l0_7.length c0_7, .bool a0_8]] w fun e w' => e = .returned (.int .i64 r) ∧ Below w.heap.size w w' := by
 have hr' : (if sagaOk ⟨⟨a0_0, a0_1, l0_2⟩, ⟨a0_3, l0_4⟩, a0_5, a0_6, l0_7, a0_8⟩ = true then 0 else 230) = r := by simpa [saga_May.f] using h
 subst hr'
 by_cases h7 : a0_5 = 7
 ·exact saga_May.at7 ⟨⟨a0_0, a0_1, l0_2⟩, ⟨a0_3, l0_4⟩, a0_5, a0_6, l0_7, a0_8⟩ A0_2 c0_2 A0_4 c0_4 A0_7 c0_7 w hr0_2 hc0_2 hr0_4 hc0_4 hr0_7 hc0_7 h7
 ·exact saga_May.at0 ⟨⟨a0_0, a0_1, l0_2⟩, ⟨a0_3, l0_4⟩, a0_5, a0_6, l0_7, a0_8⟩ A0_2 c0_2 A0_4 c0_4 A0_7 c0_7 w hr0_2 hc0_2 hr0_4 hc0_4 hr0_7 hc0_7 h7

/-! ### dues_children: function 41, by hand -/
set_option maxHeartbeats 1000000 in
theorem children_calls (a b c : Value) (d e f g h i : Value) (w : World) :
  Calls Tryd.prog 41 #[.agg #[a, b, c, d, e, f, g, h, i]] w (fun e' W' => e' = .returned (.func (.func 67) #[] #[.pointer (some ⟨w.heap.size, 0, none⟩)]) ∧ W' = w.alloc (.cells #[a, b, c, d, e, f, g, h, i] 50)) := by
 go_enter Tryd.func41, Tryd.ntmps41
 go_wp2
 go_ret
 exact ⟨rfl, rfl⟩

/-! ### saga_Current: function 18, by hand -/
set_option maxHeartbeats 1000000 in
set_option maxRecDepth 100000 in
theorem saga_Current.at (x : S50) (A2 : Option Addr) (c2 : Nat) (A4 : Option Addr) (c4 : Nat) (A7 : Option Addr) (c7 : Nat) (w : World) (r2 : Kd.C k69 w A2 x.f0.f2.length x.f0.f2) (q2 : x.f0.f2.length ≤ c2) (r4 : Kd.C k60 w A4 x.f1.f1.length x.f1.f1) (q4 : x.f1.f1.length ≤ c4) (r7 : Kd.C k62 w A7 x.f4.length x.f4) (q7 : x.f4.length ≤ c7) (hxl : x.f4.length ≤ 1000) :
  Calls Tryd.prog 18 #[.agg #[.int .i64 x.f0.f0, .int .i64 x.f0.f1, .slice A2 x.f0.f2.length c2, .string x.f1.f0, .slice A4 x.f1.f1.length c4, .int .i64 x.f2, .int .i64 x.f3, .slice A7 x.f4.length c7, .bool x.f5]] w (fun e W' => e = .returned ( .int .i64 (if sagaOk x = true then curOf x else -1)) ∧ Below w.heap.size w W') := by
 obtain ⟨R, hR⟩ : ∃ R, R = (if sagaOk x = true then curOf x else (-1 : Int)) := ⟨_, rfl⟩
 rw [← hR]
 have HRR := Aside0.mk hR
 clear hR
 obtain ⟨O1, hO1⟩ : ∃ O1, O1 = (Obj.cells #[.int .i64 x.f0.f0, .int .i64 x.f0.f1, .slice A2 x.f0.f2.length c2, .string x.f1.f0, .slice A4 x.f1.f1.length c4, .int .i64 x.f2, .int .i64 x.f3, .slice A7 x.f4.length c7, .bool x.f5] 50) := ⟨_, rfl⟩
 obtain ⟨O2, hO2⟩ : ∃ O2, O2 = (Obj.cells #[.int .i64 x.f0.f0, .int .i64 x.f0.f1, .slice A2 x.f0.f2.length c2, .string x.f1.f0, .slice A4 x.f1.f1.length c4, .int .i64 x.f2, .int .i64 x.f3, .slice A7 x.f4.length c7, .bool x.f5] 88) := ⟨_, rfl⟩
 have hb1 : Below w.heap.size w (w.alloc O1) := below_alloc (Below.refl _ _) _
 have hgs : (w.alloc O1).heap[w.heap.size]? = some (.cells #[.int .i64 x.f0.f0, .int .i64 x.f0.f1, .slice A2 x.f0.f2.length c2, .string x.f1.f0, .slice A4 x.f1.f1.length c4, .int .i64 x.f2, .int .i64 x.f3, .slice A7 x.f4.length c7, .bool x.f5] 50 (0, 0)) := by rw [hO1]; exact blk_new w _
 obtain ⟨W1, hW1⟩ : ∃ W1, W1 = w.alloc O1 := ⟨_, rfl⟩
 rw [← hW1] at hgs hb1
 have HR2 := Aside0.mk r2
 have HR4 := Aside0.mk r4
 have HR7 := Aside0.mk r7
 have HB1 := Aside0.mk hb1
 have HGS := Aside0.mk hgs
 have HW1 := Aside0.mk (hO1 ▸ hW1)
 have HO2 := Aside0.mk hO2
 have HQ2 := Aside0.mk q2
 have HQ4 := Aside0.mk q4
 have HQ7 := Aside0.mk q7
 clear r2 r4 r7 hb1 hW1 hO1 hO2 hgs q2 q4 q7
 obtain ⟨bm, hbm⟩ : ∃ b, b = sagaOk x := ⟨_, rfl⟩
 have EM := Aside0.mk hbm
 go_enter Tryd.func18, Tryd.ntmps18
 go_wp2_with (fail)
 rw [← HW1.out]
 refine (saga_May.calls x.f0.f0 x.f0.f1 A2 c2 x.f0.f2 x.f1.f0 A4 c4 x.f1.f1 x.f2 x.f3 A7 c7 x.f4 x.f5 (if bm = true then 0 else 230) _ (Kd.C_below HR2.out HB1.out) HQ2.out (Kd.C_below HR4.out HB1.out) HQ4.out (Kd.C_below HR7.out HB1.out) HQ7.out (by rw [EM.out]; rfl)).mono ?_
 rintro e w2 ⟨rfl, hb2⟩
 have HB2 := Aside0.mk (below_step HB1.out hb2)
 have hgs2 := blk_below HGS.out hb2
 clear hb2 hbm
 have h0 : w2.cell? ⟨w.heap.size, 0, none⟩ = some (.int .i64 x.f0.f0) := (blk_cell hgs2 0).trans rfl
 have h1 : w2.cell? ⟨w.heap.size, 1, none⟩ = some (.int .i64 x.f0.f1) := (blk_cell hgs2 1).trans rfl
 have h2 : w2.cell? ⟨w.heap.size, 2, none⟩ = some (.slice A2 x.f0.f2.length c2) := (blk_cell hgs2 2).trans rfl
 have h3 : w2.cell? ⟨w.heap.size, 3, none⟩ = some (.string x.f1.f0) := (blk_cell hgs2 3).trans rfl
 have h4 : w2.cell? ⟨w.heap.size, 4, none⟩ = some (.slice A4 x.f1.f1.length c4) := (blk_cell hgs2 4).trans rfl
 have h5 : w2.cell? ⟨w.heap.size, 5, none⟩ = some (.int .i64 x.f2) := (blk_cell hgs2 5).trans rfl
 have h6 : w2.cell? ⟨w.heap.size, 6, none⟩ = some (.int .i64 x.f3) := (blk_cell hgs2 6).trans rfl
 have h7 : w2.cell? ⟨w.heap.size, 7, none⟩ = some (.slice A7 x.f4.length c7) := (blk_cell hgs2 7).trans rfl
 have h8 : w2.cell? ⟨w.heap.size, 8, none⟩ = some (.bool x.f5) := (blk_cell hgs2 8).trans rfl
 cases bm with
 | false =>
  go_wp2
  go_ret
  refine ⟨(show Ending.returned (.int .i64 (-1)) = Ending.returned (.int .i64 R) from ?_), HB2.out⟩
  rw [HRR.out, ← EM.out]; rfl
 | true =>
  obtain ⟨n2, hn2⟩ : ∃ n, n = w2.heap.size := ⟨_, rfl⟩
  go_wp2_with (fail)
  rw [← HO2.out]
  have hb3 : Below w2.heap.size w2 (w2.alloc O2) := below_alloc (Below.refl _ _) _
  have hg : (w2.alloc O2).heap[w2.heap.size]? = some (.cells #[.int .i64 x.f0.f0, .int .i64 x.f0.f1, .slice A2 x.f0.f2.length c2, .string x.f1.f0, .slice A4 x.f1.f1.length c4, .int .i64 x.f2, .int .i64 x.f3, .slice A7 x.f4.length c7, .bool x.f5] 88 (0, 0)) := by rw [HO2.out]; exact blk_new w2 _
  have HHH : HH (w2.alloc O2) w2.heap.size x := ⟨A2, c2, A4, c4, A7, c7, hg, Kd.C_below (Kd.C_below HR2.out HB2.out) hb3, Kd.C_below (Kd.C_below HR4.out HB2.out) hb3, Kd.C_below (Kd.C_below HR7.out HB2.out) hb3⟩
  refine (saga_holder_current.at w2.heap.size x _ HHH hxl).mono ?_
  rintro e w4 ⟨rfl, hb4⟩
  have HB4 := Aside0.mk (below_step (below_step HB2.out hb3) hb4)
  clear hb3 hb4 hg HHH
  obtain ⟨cu, hcu⟩ : ∃ q, curOf x = q := ⟨_, rfl⟩
  rw [hcu]
  have EC := Aside0.mk hcu
  clear hcu
  go_wp2
  go_ret
  refine ⟨(show Ending.returned (.int .i64 cu) = Ending.returned (.int .i64 R) from ?_), HB4.out⟩
  rw [HRR.out, ← EM.out, ← EC.out]; rfl
def saga_Current.f (a0_0 : Int) (a0_1 : Int) (l0_2 : List (S69)) (a0_3 : ByteArray) (l0_4 : List (S60)) (a0_5 : Int) (a0_6 : Int) (l0_7 : List (S62)) (a0_8 : Bool) : Option Int := if l0_7.length ≤ 1000 then some (if sagaOk ⟨⟨a0_0, a0_1, l0_2⟩, ⟨a0_3, l0_4⟩, a0_5, a0_6, l0_7, a0_8⟩ = true then curOf ⟨⟨a0_0, a0_1, l0_2⟩, ⟨a0_3, l0_4⟩, a0_5, a0_6, l0_7, a0_8⟩ else -1) else none
theorem saga_Current.calls (a0_0 : Int) (a0_1 : Int) (A0_2 : Option Addr) (c0_2 : Nat) (l0_2 : List (S69)) (a0_3 : ByteArray) (A0_4 : Option Addr) (c0_4 : Nat) (l0_4 : List (S60)) (a0_5 : Int) (a0_6 : Int) (A0_7 : Option Addr) (c0_7 : Nat) (l0_7 : List (S62)) (a0_8 : Bool) (r : Int) (w : World) (hr0_2 : Kd.C k69 w A0_2 l0_2.length l0_2) (hc0_2 : l0_2.length ≤ c0_2) (hr0_4 : Kd.C k60 w A0_4 l0_4.length l0_4) (hc0_4 : l0_4.length ≤ c0_4) (hr0_7 : Kd.C k62 w A0_7 l0_7.length l0_7) (hc0_7 : l0_7.length ≤ c0_7) (h : saga_Current.f a0_0 a0_1 l0_2 a0_3 l0_4 a0_5 a0_6 l0_7 a0_8 = some r) :
  Calls Tryd.prog 18 #[.agg #[.int .i64 a0_0, .int .i64 a0_1, .slice A0_2 l0_2.length c0_2, .string a0_3, .slice A0_4 l0_4.length c0_4, .int .i64 a0_5, .int .i64 a0_6, .slice A0_7 l0_7.length c0_7, .bool a0_8]] w fun e w' => e = .returned (.int .i64 r) ∧ Below w.heap.size w w' := by
 unfold saga_Current.f at h
 by_cases hl : l0_7.length ≤ 1000
 ·rw [if_pos hl] at h
  obtain rfl := Option.some.inj h
  exact saga_Current.at ⟨⟨a0_0, a0_1, l0_2⟩, ⟨a0_3, l0_4⟩, a0_5, a0_6, l0_7, a0_8⟩ A0_2 c0_2 A0_4 c0_4 A0_7 c0_7 w hr0_2 hc0_2 hr0_4 hc0_4 hr0_7 hc0_7 hl
 ·rw [if_neg hl] at h; cases h

/-! ### dues_owed: function 42, by hand -/
/-- What a child is owed. -/
def owedAt (x : S50) (i : Nat) : Int :=
 if x.f2 = 1 then (if stAt x i = 1 then 1 else 0)
 else if x.f2 = 4 ∨ x.f2 = 5 then (if (i : Int) = (if sagaOk x = true then curOf x else -1) ∧ (stAt x i = 1 ∨ stAt x i = 2) then 4 else 0)
 else if x.f2 = 3 then (if stAt x i = 2 then 3 else if stAt x i = 1 ∧ x.f5 = true then 4 else 0)
 else if x.f2 = 6 then (if stAt x i = 1 ∨ stAt x i = 2 then 4 else 0)
 else 0
set_option maxHeartbeats 2000000 in
set_option maxRecDepth 100000 in
theorem dues_owed.at (x : S50) (i : Nat) (A2 : Option Addr) (c2 : Nat) (A4 : Option Addr) (c4 : Nat) (A7 : Option Addr) (c7 : Nat) (w : World) (r2 : Kd.C k69 w A2 x.f0.f2.length x.f0.f2) (q2 : x.f0.f2.length ≤ c2) (r4 : Kd.C k60 w A4 x.f1.f1.length x.f1.f1) (q4 : x.f1.f1.length ≤ c4) (r7 : Kd.C k62 w A7 x.f4.length x.f4) (q7 : x.f4.length ≤ c7) (hxl : x.f4.length ≤ 1000) (hi : i < x.f4.length) :
  Calls Tryd.prog 42 #[.agg #[.int .i64 x.f0.f0, .int .i64 x.f0.f1, .slice A2 x.f0.f2.length c2, .string x.f1.f0, .slice A4 x.f1.f1.length c4, .int .i64 x.f2, .int .i64 x.f3, .slice A7 x.f4.length c7, .bool x.f5], .int .i64 (i : Int)] w (fun e W' => e = .returned (.int .i64 (owedAt x i)) ∧ Below w.heap.size w W') := by
 obtain ⟨R, hR⟩ : ∃ R, R = owedAt x i := ⟨_, rfl⟩
 rw [← hR]
 have hcur : saga_Current.f x.f0.f0 x.f0.f1 x.f0.f2 x.f1.f0 x.f1.f1 x.f2 x.f3 x.f4 x.f5 = some (if sagaOk x = true then curOf x else -1) := by unfold saga_Current.f; rw [if_pos hxl]
 obtain ⟨st, hst⟩ : ∃ q, q = stAt x i := ⟨_, rfl⟩
 obtain ⟨cu, hcu⟩ : ∃ q, q = (if sagaOk x = true then curOf x else -1 : Int) := ⟨_, rfl⟩
 rw [← hcu] at hcur
 unfold owedAt at hR
 rw [← hst, ← hcu] at hR
 obtain ⟨ad, he, hx0, _⟩ := at_T62 r7 (i : Int) (by omega) (by omega)
 subst he
 simp only [Int.toNat_natCast] at hx0
 rw [show (rd_T62 x.f4 (i : Int)).f0 = st from hst.symm] at hx0
 clear hst hcu
 generalize x.f2 = f2 at hR hcur ⊢
 generalize x.f5 = b5 at hR hcur ⊢
 obtain ⟨W1, hW1⟩ : ∃ W1, W1 = w.alloc (.cells #[.int .i64 x.f0.f0, .int .i64 x.f0.f1, .slice A2 x.f0.f2.length c2, .string x.f1.f0, .slice A4 x.f1.f1.length c4, .int .i64 f2, .int .i64 x.f3, .slice (some ad) x.f4.length c7, .bool b5] 50) := ⟨_, rfl⟩
 have hb1 : Below w.heap.size w W1 := by rw [hW1]; exact below_alloc (Below.refl _ _) _
 have hbx : W1.heap[w.heap.size]? = some (.cells #[.int .i64 x.f0.f0, .int .i64 x.f0.f1, .slice A2 x.f0.f2.length c2, .string x.f1.f0, .slice A4 x.f1.f1.length c4, .int .i64 f2, .int .i64 x.f3, .slice (some ad) x.f4.length c7, .bool b5] 50 (0, 0)) := by rw [hW1]; exact blk_new w _
 have hx0 := pw_cell_below hb1 hx0
 have b0x : W1.cell? ⟨w.heap.size, 0, none⟩ = some (.int .i64 x.f0.f0) := (blk_cell hbx 0).trans rfl
 have b1x : W1.cell? ⟨w.heap.size, 1, none⟩ = some (.int .i64 x.f0.f1) := (blk_cell hbx 1).trans rfl
 have b2x : W1.cell? ⟨w.heap.size, 2, none⟩ = some (.slice A2 x.f0.f2.length c2) := (blk_cell hbx 2).trans rfl
 have b3x : W1.cell? ⟨w.heap.size, 3, none⟩ = some (.string x.f1.f0) := (blk_cell hbx 3).trans rfl
 have b4x : W1.cell? ⟨w.heap.size, 4, none⟩ = some (.slice A4 x.f1.f1.length c4) := (blk_cell hbx 4).trans rfl
 have b5x : W1.cell? ⟨w.heap.size, 5, none⟩ = some (.int .i64 f2) := (blk_cell hbx 5).trans rfl
 have b6x : W1.cell? ⟨w.heap.size, 6, none⟩ = some (.int .i64 x.f3) := (blk_cell hbx 6).trans rfl
 have b7x : W1.cell? ⟨w.heap.size, 7, none⟩ = some (.slice (some ad) x.f4.length c7) := (blk_cell hbx 7).trans rfl
 have b8x : W1.cell? ⟨w.heap.size, 8, none⟩ = some (.bool b5) := (blk_cell hbx 8).trans rfl
 have HCUR := Aside0.mk hcur
 have HR2 := Aside0.mk (Kd.C_below r2 hb1)
 have HR4 := Aside0.mk (Kd.C_below r4 hb1)
 have HR7 := Aside0.mk (Kd.C_below r7 hb1)
 have HQ2 := Aside0.mk q2
 have HQ4 := Aside0.mk q4
 have HQ7 := Aside0.mk q7
 have HB1 := Aside0.mk hb1
 have HW1 := Aside0.mk hW1
 have HRR := Aside0.mk hR
 clear r2 r4 r7 q2 q4 q7 hb1 hbx hW1 hR hcur hxl
 have fin : ∀ (q : Int) (W' : World), q = R → Below W1.heap.size W1 W' → Ending.returned (.int .i64 q) = Ending.returned (.int .i64 R) ∧ Below w.heap.size w W' := fun q W' hq hb => ⟨by rw [hq], below_step HB1.out hb⟩
 have FIN := Aside0.mk fin
 clear fin
 by_cases s1 : st = 1
 ·subst s1
  by_cases a1 : f2 = 1
  ·subst a1
   go_enter Tryd.func42, Tryd.ntmps42
   go_wp2_with (fail)
   rw [← HW1.out]
   go_quiet (fail)
   go_wp2
   go_ret
   exact FIN.out _ _ (by rw [HRR.out]; simp) (by first | exact pw_below_drewN (Below.refl _ _) _ | exact below_drew (Below.refl _ _) | exact Below.refl _ _)
  ·by_cases a4 : f2 = 4 ∨ f2 = 5
   ·rcases a4 with a4 | a4
    ·subst a4
     go_enter Tryd.func42, Tryd.ntmps42
     go_wp2_with (fail)
     rw [← HW1.out]
     go_quiet (fail)
     go_wp2_with (fail)
     refine (saga_Current.calls x.f0.f0 x.f0.f1 A2 c2 x.f0.f2 x.f1.f0 A4 c4 x.f1.f1 4 x.f3 (some ad) c7 x.f4 b5 cu _ (Kd.C_below HR2.out (by first | exact pw_below_drewN (Below.refl _ _) _ | exact below_drew (Below.refl _ _) | exact Below.refl _ _)) HQ2.out (Kd.C_below HR4.out (by first | exact pw_below_drewN (Below.refl _ _) _ | exact below_drew (Below.refl _ _) | exact Below.refl _ _)) HQ4.out (Kd.C_below HR7.out (by first | exact pw_below_drewN (Below.refl _ _) _ | exact below_drew (Below.refl _ _) | exact Below.refl _ _)) HQ7.out HCUR.out).mono ?_
     rintro e w5 ⟨rfl, hb5⟩
     have HB5 := Aside0.mk (below_step (by first | exact pw_below_drewN (Below.refl _ _) _ | exact below_drew (Below.refl _ _) | exact Below.refl _ _) hb5)
     clear hb5
     by_cases hc : (i : Int) = cu
     ·go_wp2
      go_ret
      exact FIN.out _ _ (by rw [HRR.out]; simp [hc]) HB5.out
     ·go_wp2
      go_ret
      exact FIN.out _ _ (by rw [HRR.out]; simp [hc]) HB5.out
    ·subst a4
     go_enter Tryd.func42, Tryd.ntmps42
     go_wp2_with (fail)
     rw [← HW1.out]
     go_quiet (fail)
     go_wp2_with (fail)
     refine (saga_Current.calls x.f0.f0 x.f0.f1 A2 c2 x.f0.f2 x.f1.f0 A4 c4 x.f1.f1 5 x.f3 (some ad) c7 x.f4 b5 cu _ (Kd.C_below HR2.out (by first | exact pw_below_drewN (Below.refl _ _) _ | exact below_drew (Below.refl _ _) | exact Below.refl _ _)) HQ2.out (Kd.C_below HR4.out (by first | exact pw_below_drewN (Below.refl _ _) _ | exact below_drew (Below.refl _ _) | exact Below.refl _ _)) HQ4.out (Kd.C_below HR7.out (by first | exact pw_below_drewN (Below.refl _ _) _ | exact below_drew (Below.refl _ _) | exact Below.refl _ _)) HQ7.out HCUR.out).mono ?_
     rintro e w5 ⟨rfl, hb5⟩
     have HB5 := Aside0.mk (below_step (by first | exact pw_below_drewN (Below.refl _ _) _ | exact below_drew (Below.refl _ _) | exact Below.refl _ _) hb5)
     clear hb5
     by_cases hc : (i : Int) = cu
     ·go_wp2
      go_ret
      exact FIN.out _ _ (by rw [HRR.out]; simp [hc]) HB5.out
     ·go_wp2
      go_ret
      exact FIN.out _ _ (by rw [HRR.out]; simp [hc]) HB5.out
   ·by_cases a3 : f2 = 3
    ·subst a3
     cases b5 with
     | false =>
      go_enter Tryd.func42, Tryd.ntmps42
      go_wp2_with (fail)
      rw [← HW1.out]
      go_quiet (fail)
      go_wp2
      go_ret
      exact FIN.out _ _ (by rw [HRR.out]; simp) (by first | exact pw_below_drewN (Below.refl _ _) _ | exact below_drew (Below.refl _ _) | exact Below.refl _ _)
     | true =>
      go_enter Tryd.func42, Tryd.ntmps42
      go_wp2_with (fail)
      rw [← HW1.out]
      go_quiet (fail)
      go_wp2
      go_ret
      exact FIN.out _ _ (by rw [HRR.out]; simp) (by first | exact pw_below_drewN (Below.refl _ _) _ | exact below_drew (Below.refl _ _) | exact Below.refl _ _)
    ·by_cases a6 : f2 = 6
     ·subst a6
      go_enter Tryd.func42, Tryd.ntmps42
      go_wp2_with (fail)
      rw [← HW1.out]
      go_quiet (fail)
      go_wp2
      go_ret
      exact FIN.out _ _ (by rw [HRR.out]; simp) (by first | exact pw_below_drewN (Below.refl _ _) _ | exact below_drew (Below.refl _ _) | exact Below.refl _ _)
     ·have n4 : ¬ f2 = 4 := fun h => a4 (.inl h)
      have n5 : ¬ f2 = 5 := fun h => a4 (.inr h)
      clear a4
      go_enter Tryd.func42, Tryd.ntmps42
      go_wp2_with (fail)
      rw [← HW1.out]
      go_quiet (fail)
      go_wp2
      go_ret
      exact FIN.out _ _ (by rw [HRR.out]; simp [a1, n4, n5, a3, a6]) (by first | exact pw_below_drewN (Below.refl _ _) _ | exact below_drew (Below.refl _ _) | exact Below.refl _ _)
 ·by_cases s2 : st = 2
  ·subst s2
   by_cases a1 : f2 = 1
   ·subst a1
    go_enter Tryd.func42, Tryd.ntmps42
    go_wp2_with (fail)
    rw [← HW1.out]
    go_quiet (fail)
    go_wp2
    go_ret
    exact FIN.out _ _ (by rw [HRR.out]; simp) (by first | exact pw_below_drewN (Below.refl _ _) _ | exact below_drew (Below.refl _ _) | exact Below.refl _ _)
   ·by_cases a4 : f2 = 4 ∨ f2 = 5
    ·rcases a4 with a4 | a4
     ·subst a4
      go_enter Tryd.func42, Tryd.ntmps42
      go_wp2_with (fail)
      rw [← HW1.out]
      go_quiet (fail)
      go_wp2_with (fail)
      refine (saga_Current.calls x.f0.f0 x.f0.f1 A2 c2 x.f0.f2 x.f1.f0 A4 c4 x.f1.f1 4 x.f3 (some ad) c7 x.f4 b5 cu _ (Kd.C_below HR2.out (by first | exact pw_below_drewN (Below.refl _ _) _ | exact below_drew (Below.refl _ _) | exact Below.refl _ _)) HQ2.out (Kd.C_below HR4.out (by first | exact pw_below_drewN (Below.refl _ _) _ | exact below_drew (Below.refl _ _) | exact Below.refl _ _)) HQ4.out (Kd.C_below HR7.out (by first | exact pw_below_drewN (Below.refl _ _) _ | exact below_drew (Below.refl _ _) | exact Below.refl _ _)) HQ7.out HCUR.out).mono ?_
      rintro e w5 ⟨rfl, hb5⟩
      have HB5 := Aside0.mk (below_step (by first | exact pw_below_drewN (Below.refl _ _) _ | exact below_drew (Below.refl _ _) | exact Below.refl _ _) hb5)
      clear hb5
      by_cases hc : (i : Int) = cu
      ·go_wp2
       go_ret
       exact FIN.out _ _ (by rw [HRR.out]; simp [hc]) HB5.out
      ·go_wp2
       go_ret
       exact FIN.out _ _ (by rw [HRR.out]; simp [hc]) HB5.out
     ·subst a4
      go_enter Tryd.func42, Tryd.ntmps42
      go_wp2_with (fail)
      rw [← HW1.out]
      go_quiet (fail)
      go_wp2_with (fail)
      refine (saga_Current.calls x.f0.f0 x.f0.f1 A2 c2 x.f0.f2 x.f1.f0 A4 c4 x.f1.f1 5 x.f3 (some ad) c7 x.f4 b5 cu _ (Kd.C_below HR2.out (by first | exact pw_below_drewN (Below.refl _ _) _ | exact below_drew (Below.refl _ _) | exact Below.refl _ _)) HQ2.out (Kd.C_below HR4.out (by first | exact pw_below_drewN (Below.refl _ _) _ | exact below_drew (Below.refl _ _) | exact Below.refl _ _)) HQ4.out (Kd.C_below HR7.out (by first | exact pw_below_drewN (Below.refl _ _) _ | exact below_drew (Below.refl _ _) | exact Below.refl _ _)) HQ7.out HCUR.out).mono ?_
      rintro e w5 ⟨rfl, hb5⟩
      have HB5 := Aside0.mk (below_step (by first | exact pw_below_drewN (Below.refl _ _) _ | exact below_drew (Below.refl _ _) | exact Below.refl _ _) hb5)
      clear hb5
      by_cases hc : (i : Int) = cu
      ·go_wp2
       go_ret
       exact FIN.out _ _ (by rw [HRR.out]; simp [hc]) HB5.out
      ·go_wp2
       go_ret
       exact FIN.out _ _ (by rw [HRR.out]; simp [hc]) HB5.out
    ·by_cases a3 : f2 = 3
     ·subst a3
      cases b5 with
      | false =>
       go_enter Tryd.func42, Tryd.ntmps42
       go_wp2_with (fail)
       rw [← HW1.out]
       go_quiet (fail)
       go_wp2
       go_ret
       exact FIN.out _ _ (by rw [HRR.out]; simp) (by first | exact pw_below_drewN (Below.refl _ _) _ | exact below_drew (Below.refl _ _) | exact Below.refl _ _)
      | true =>
       go_enter Tryd.func42, Tryd.ntmps42
       go_wp2_with (fail)
       rw [← HW1.out]
       go_quiet (fail)
       go_wp2
       go_ret
       exact FIN.out _ _ (by rw [HRR.out]; simp) (by first | exact pw_below_drewN (Below.refl _ _) _ | exact below_drew (Below.refl _ _) | exact Below.refl _ _)
     ·by_cases a6 : f2 = 6
      ·subst a6
       go_enter Tryd.func42, Tryd.ntmps42
       go_wp2_with (fail)
       rw [← HW1.out]
       go_quiet (fail)
       go_wp2
       go_ret
       exact FIN.out _ _ (by rw [HRR.out]; simp) (by first | exact pw_below_drewN (Below.refl _ _) _ | exact below_drew (Below.refl _ _) | exact Below.refl _ _)
      ·have n4 : ¬ f2 = 4 := fun h => a4 (.inl h)
       have n5 : ¬ f2 = 5 := fun h => a4 (.inr h)
       clear a4
       go_enter Tryd.func42, Tryd.ntmps42
       go_wp2_with (fail)
       rw [← HW1.out]
       go_quiet (fail)
       go_wp2
       go_ret
       exact FIN.out _ _ (by rw [HRR.out]; simp [a1, n4, n5, a3, a6]) (by first | exact pw_below_drewN (Below.refl _ _) _ | exact below_drew (Below.refl _ _) | exact Below.refl _ _)
  ·have d1 : decide (st = 1) = false := by simp [s1]
   have d2 : decide (st = 2) = false := by simp [s2]
   have d3 : (st == 1) = false := by simp [s1]
   have d4 : (st == 2) = false := by simp [s2]
   by_cases a1 : f2 = 1
   ·subst a1
    go_enter Tryd.func42, Tryd.ntmps42
    go_wp2_with (fail)
    rw [← HW1.out]
    go_quiet (fail)
    go_wp2
    go_ret
    exact FIN.out _ _ (by rw [HRR.out]; simp [s1, s2]) (by first | exact pw_below_drewN (Below.refl _ _) _ | exact below_drew (Below.refl _ _) | exact Below.refl _ _)
   ·by_cases a4 : f2 = 4 ∨ f2 = 5
    ·rcases a4 with a4 | a4
     ·subst a4
      go_enter Tryd.func42, Tryd.ntmps42
      go_wp2_with (fail)
      rw [← HW1.out]
      go_quiet (fail)
      go_wp2_with (fail)
      refine (saga_Current.calls x.f0.f0 x.f0.f1 A2 c2 x.f0.f2 x.f1.f0 A4 c4 x.f1.f1 4 x.f3 (some ad) c7 x.f4 b5 cu _ (Kd.C_below HR2.out (by first | exact pw_below_drewN (Below.refl _ _) _ | exact below_drew (Below.refl _ _) | exact Below.refl _ _)) HQ2.out (Kd.C_below HR4.out (by first | exact pw_below_drewN (Below.refl _ _) _ | exact below_drew (Below.refl _ _) | exact Below.refl _ _)) HQ4.out (Kd.C_below HR7.out (by first | exact pw_below_drewN (Below.refl _ _) _ | exact below_drew (Below.refl _ _) | exact Below.refl _ _)) HQ7.out HCUR.out).mono ?_
      rintro e w5 ⟨rfl, hb5⟩
      have HB5 := Aside0.mk (below_step (by first | exact pw_below_drewN (Below.refl _ _) _ | exact below_drew (Below.refl _ _) | exact Below.refl _ _) hb5)
      clear hb5
      by_cases hc : (i : Int) = cu
      ·go_wp2
       go_ret
       exact FIN.out _ _ (by rw [HRR.out]; simp [s1, s2, hc]) HB5.out
      ·go_wp2
       go_ret
       exact FIN.out _ _ (by rw [HRR.out]; simp [s1, s2, hc]) HB5.out
     ·subst a4
      go_enter Tryd.func42, Tryd.ntmps42
      go_wp2_with (fail)
      rw [← HW1.out]
      go_quiet (fail)
      go_wp2_with (fail)
      refine (saga_Current.calls x.f0.f0 x.f0.f1 A2 c2 x.f0.f2 x.f1.f0 A4 c4 x.f1.f1 5 x.f3 (some ad) c7 x.f4 b5 cu _ (Kd.C_below HR2.out (by first | exact pw_below_drewN (Below.refl _ _) _ | exact below_drew (Below.refl _ _) | exact Below.refl _ _)) HQ2.out (Kd.C_below HR4.out (by first | exact pw_below_drewN (Below.refl _ _) _ | exact below_drew (Below.refl _ _) | exact Below.refl _ _)) HQ4.out (Kd.C_below HR7.out (by first | exact pw_below_drewN (Below.refl _ _) _ | exact below_drew (Below.refl _ _) | exact Below.refl _ _)) HQ7.out HCUR.out).mono ?_
      rintro e w5 ⟨rfl, hb5⟩
      have HB5 := Aside0.mk (below_step (by first | exact pw_below_drewN (Below.refl _ _) _ | exact below_drew (Below.refl _ _) | exact Below.refl _ _) hb5)
      clear hb5
      by_cases hc : (i : Int) = cu
      ·go_wp2
       go_ret
       exact FIN.out _ _ (by rw [HRR.out]; simp [s1, s2, hc]) HB5.out
      ·go_wp2
       go_ret
       exact FIN.out _ _ (by rw [HRR.out]; simp [s1, s2, hc]) HB5.out
    ·by_cases a3 : f2 = 3
     ·subst a3
      cases b5 with
      | false =>
       go_enter Tryd.func42, Tryd.ntmps42
       go_wp2_with (fail)
       rw [← HW1.out]
       go_quiet (fail)
       go_wp2
       go_ret
       exact FIN.out _ _ (by rw [HRR.out]; simp [s1, s2]) (by first | exact pw_below_drewN (Below.refl _ _) _ | exact below_drew (Below.refl _ _) | exact Below.refl _ _)
      | true =>
       go_enter Tryd.func42, Tryd.ntmps42
       go_wp2_with (fail)
       rw [← HW1.out]
       go_quiet (fail)
       go_wp2
       go_ret
       exact FIN.out _ _ (by rw [HRR.out]; simp [s1, s2]) (by first | exact pw_below_drewN (Below.refl _ _) _ | exact below_drew (Below.refl _ _) | exact Below.refl _ _)
     ·by_cases a6 : f2 = 6
      ·subst a6
       go_enter Tryd.func42, Tryd.ntmps42
       go_wp2_with (fail)
       rw [← HW1.out]
       go_quiet (fail)
       go_wp2
       go_ret
       exact FIN.out _ _ (by rw [HRR.out]; simp [s1, s2]) (by first | exact pw_below_drewN (Below.refl _ _) _ | exact below_drew (Below.refl _ _) | exact Below.refl _ _)
      ·have n4 : ¬ f2 = 4 := fun h => a4 (.inl h)
       have n5 : ¬ f2 = 5 := fun h => a4 (.inr h)
       clear a4
       go_enter Tryd.func42, Tryd.ntmps42
       go_wp2_with (fail)
       rw [← HW1.out]
       go_quiet (fail)
       go_wp2
       go_ret
       exact FIN.out _ _ (by rw [HRR.out]; simp [s1, s2, a1, n4, n5, a3, a6]) (by first | exact pw_below_drewN (Below.refl _ _) _ | exact below_drew (Below.refl _ _) | exact Below.refl _ _)
def dues_owed.f (a0_0 : Int) (a0_1 : Int) (l0_2 : List (S69)) (a0_3 : ByteArray) (l0_4 : List (S60)) (a0_5 : Int) (a0_6 : Int) (l0_7 : List (S62)) (a0_8 : Bool) (a1 : Int) : Option Int := if l0_7.length ≤ 1000 then (if 0 ≤ a1 then (if a1.toNat < l0_7.length then some (owedAt ⟨⟨a0_0, a0_1, l0_2⟩, ⟨a0_3, l0_4⟩, a0_5, a0_6, l0_7, a0_8⟩ a1.toNat) else none) else none) else none
theorem dues_owed.calls (a0_0 : Int) (a0_1 : Int) (A0_2 : Option Addr) (c0_2 : Nat) (l0_2 : List (S69)) (a0_3 : ByteArray) (A0_4 : Option Addr) (c0_4 : Nat) (l0_4 : List (S60)) (a0_5 : Int) (a0_6 : Int) (A0_7 : Option Addr) (c0_7 : Nat) (l0_7 : List (S62)) (a0_8 : Bool) (a1 : Int) (r : Int) (w : World) (hr0_2 : Kd.C k69 w A0_2 l0_2.length l0_2) (hc0_2 : l0_2.length ≤ c0_2) (hr0_4 : Kd.C k60 w A0_4 l0_4.length l0_4) (hc0_4 : l0_4.length ≤ c0_4) (hr0_7 : Kd.C k62 w A0_7 l0_7.length l0_7) (hc0_7 : l0_7.length ≤ c0_7) (h : dues_owed.f a0_0 a0_1 l0_2 a0_3 l0_4 a0_5 a0_6 l0_7 a0_8 a1 = some r) :
  Calls Tryd.prog 42 #[.agg #[.int .i64 a0_0, .int .i64 a0_1, .slice A0_2 l0_2.length c0_2, .string a0_3, .slice A0_4 l0_4.length c0_4, .int .i64 a0_5, .int .i64 a0_6, .slice A0_7 l0_7.length c0_7, .bool a0_8], .int .i64 a1] w fun e w' => e = .returned (.int .i64 r) ∧ Below w.heap.size w w' := by
 unfold dues_owed.f at h
 by_cases hl : l0_7.length ≤ 1000
 ·rw [if_pos hl] at h
  by_cases h0 : 0 ≤ a1
  ·rw [if_pos h0] at h
   by_cases h1 : a1.toNat < l0_7.length
   ·rw [if_pos h1] at h
    obtain rfl := Option.some.inj h
    obtain ⟨i, rfl⟩ : ∃ i : Nat, a1 = (i : Int) := ⟨a1.toNat, by omega⟩
    rw [Int.toNat_natCast] at h1 ⊢
    exact dues_owed.at ⟨⟨a0_0, a0_1, l0_2⟩, ⟨a0_3, l0_4⟩, a0_5, a0_6, l0_7, a0_8⟩ i A0_2 c0_2 A0_4 c0_4 A0_7 c0_7 w hr0_2 hc0_2 hr0_4 hc0_4 hr0_7 hc0_7 hl h1
   ·rw [if_neg h1] at h; cases h
  ·rw [if_neg h0] at h; cases h
 ·rw [if_neg hl] at h; cases h

/-! ### child_owned: function 68 -/
def child_owned.f (a0_0 : Int) (a0_1 : Int) (l0_2 : List (S69)) : Option (Int × Int × (List (S69))) := (slices_Clone_api_Hop_api_Hop.f l0_2).bind fun t155 => (some (a0_0, a0_1, t155))
set_option maxHeartbeats 8000000 in
set_option maxRecDepth 100000 in
theorem child_owned.calls (a0_0 : Int) (a0_1 : Int) (A0_2 : Option Addr) (c0_2 : Nat) (l0_2 : List (S69)) (r1 : Int) (r2 : Int) (r3 : List (S69)) (w : World) (hr0_2 : Kd.C k69 w A0_2 l0_2.length l0_2) (hc0_2 : l0_2.length ≤ c0_2) (h : child_owned.f a0_0 a0_1 l0_2 = some (r1, r2, r3)) :
  Calls Tryd.prog 68 #[.agg #[.int .i64 a0_0, .int .i64 a0_1, .slice A0_2 l0_2.length c0_2]] w fun e w' => ∃ v2_ : Value, e = .returned (.agg #[.int .i64 r1, .int .i64 r2, v2_]) ∧ Kd.R k69 69 w' w.heap.size (fun _ => True) v2_ r3 ∧ Below w.heap.size w w' := by
 have hu40 := Tryd.underlying40
 have HR0_2 := Aside0.mk hr0_2
 have HC0_2 := Aside0.mk hc0_2
 clear hr0_2 hc0_2
 have HB := Aside0.mk (Below.refl w.heap.size w)
 have H : ((slices_Clone_api_Hop_api_Hop.f l0_2).bind fun t155 => (some (a0_0, a0_1, t155))) = some (r1, r2, r3) := h
 clear h
 replace H := Option.bind_eq_some_iff.mp H
 obtain ⟨t155, A20, H⟩ := H
 replace H : (some (a0_0, a0_1, t155)) = some (r1, r2, r3) := H
 have A2 := Aside0.mk A20
 clear A20
 simp only [Option.some.injEq, Prod.mk.injEq] at H
 obtain ⟨rfl, rfl, rfl⟩ := H
 go_enter Tryd.func68, Tryd.ntmps68
 go_wp2_with (first | ((with_reducible refine gate_dst (N := 1) rfl ?_); refine box_event ?hg (N := 1) ?hd (cs := #[.int .i64 a0_0, .int .i64 a0_1, .slice A0_2 l0_2.length c0_2]) (t := 40) ?hr ?_; (case hd => rfl); (case hg => rfl); (case hr => first | (go_simp; done) | (go_simp; rfl)); intro gb153 hg w3 hbox hb; have n0_ := Aside0.mk (below_step (mvL0 HB.out) hb); have n1_ := Aside0.mk (hbox); have n2_ := Aside0.mk ((by rw [hg]; exact (below_size (mvL0 HB.out)) : w.heap.size ≤ gb153)); have n3_ := Aside0.mk ((by rw [hg]; exact (below_size (mvL0 HB.out)) : w.heap.size ≤ gb153)); clear HB; have HB := n0_; have BK153 := n1_; have GW153 := n2_; have GE153 := n3_; clear n0_ n1_ n2_ n3_; clear hb hbox hg) | ((with_reducible refine gate_dst (N := 2) rfl ?_); refine box_event ?hg (N := 2) ?hd (cs := #[.int .i64 0, .int .i64 0, .slice none 0 0]) (t := 40) ?hr ?_; (case hd => rfl); (case hg => rfl); (case hr => first | (go_simp; done) | (go_simp; rfl)); intro gb154 hg w4 hbox hb; have n0_ := Aside0.mk (blk_below (g := gb153) (o := .cells #[.int .i64 a0_0, .int .i64 a0_1, .slice A0_2 l0_2.length c0_2] 40 (0, 0)) (mvB BK153.out) hb); have n1_ := Aside0.mk (below_step (mvL1 HB.out GE153.out) hb); have n2_ := Aside0.mk (hbox); have n3_ := Aside0.mk ((by rw [hg]; exact (below_size (mvL1 HB.out GE153.out)) : w.heap.size ≤ gb154)); have n4_ := Aside0.mk ((by rw [hg]; exact (below_size (mvL1 HB.out GE153.out)) : w.heap.size ≤ gb154)); have n5_ := Aside0.mk ((by rw [hg]; exact Nat.ne_of_lt (blk_lt (g := gb153) (o := .cells #[.int .i64 a0_0, .int .i64 a0_1, .slice A0_2 l0_2.length c0_2] 40 (0, 0)) (mvB BK153.out)) : gb153 ≠ gb154)); have n6_ := Aside0.mk ((by rw [hg]; exact Nat.ne_of_gt (blk_lt (g := gb153) (o := .cells #[.int .i64 a0_0, .int .i64 a0_1, .slice A0_2 l0_2.length c0_2] 40 (0, 0)) (mvB BK153.out)) : gb154 ≠ gb153)); clear BK153; clear HB; have BK153 := n0_; have HB := n1_; have BK154 := n2_; have GW154 := n3_; have GE154 := n4_; have NB153_154 := n5_; have NB154_153 := n6_; clear n0_ n1_ n2_ n3_ n4_ n5_ n6_; clear hb hbox hg; have hnb5 := NB153_154.out; have hnc5 := NB154_153.out; have hcz6_0 : w4.cell? ⟨gb153, 0, none⟩ = some (.int .i64 a0_0) := (blk_cell BK153.out 0).trans rfl; have hcz6_1 : w4.cell? ⟨gb153, 1, none⟩ = some (.int .i64 a0_1) := (blk_cell BK153.out 1).trans rfl; have hcz6_2 : w4.cell? ⟨gb153, 2, none⟩ = some (.slice A0_2 l0_2.length c0_2) := (blk_cell BK153.out 2).trans rfl; have hfz6_0 := blk_frozen BK153.out 0; have hfz6_1 := blk_frozen BK153.out 1; have hfz6_2 := blk_frozen BK153.out 2) | ((with_reducible refine gate_callee (f := 40) rfl ?_); refine goesL_ (some 5) rfl rfl Tryd.func40 (by kernel_rfl) rfl #[.slice A0_2 l0_2.length c0_2] rfl (by (try simp only [List.map_toArray, List.map_cons, List.map_nil]); first | done | rfl | (simp only [List.length_drop, List.length_take]; rfl)) ?_; (with_reducible refine (slices_Clone_api_Hop_api_Hop.calls _ _ l0_2 t155 _ ?side1 ?side2 A2.out).mono ?_); (case side1 => repeat (first | exact (Kd.C_below HR0_2.out HB.out) | (with_reducible refine Kd.C_alloc ?_ _) | (with_reducible refine Kd.C_drewN ?_ _) | (with_reducible refine Kd.C_drew ?_))); (case side2 => exact HC0_2.out); rintro e w7 ⟨v156, rfl, ho0, hb⟩; refine ⟨_, rfl, ?_⟩; have n0_ := Aside0.mk (Kd.R_lower ho0 (below_size (mvL2 HB.out GE153.out GE154.out))); have n1_ := Aside0.mk (blk_below (g := gb153) (o := .cells #[.int .i64 a0_0, .int .i64 a0_1, .slice A0_2 l0_2.length c0_2] 40 (0, 0)) (mvB BK153.out) hb); have n2_ := Aside0.mk (blk_below (g := gb154) (o := .cells #[.int .i64 0, .int .i64 0, .slice none 0 0] 40 (0, 0)) (mvB BK154.out) hb); have n3_ := Aside0.mk (below_step (mvL2 HB.out GE153.out GE154.out) hb); clear BK153; clear BK154; clear HB; have HO157 := n0_; have BK153 := n1_; have BK154 := n2_; have HB := n3_; clear n0_ n1_ n2_ n3_; (try clear hb); (try clear hb2); (try clear hk); (try clear hi); (try clear ho0); obtain ⟨Ao8, co8, eo8⟩ := Kd.R_slice HO157.out; subst eo8; have hcz9_0 : w7.cell? ⟨gb153, 0, none⟩ = some (.int .i64 a0_0) := (blk_cell BK153.out 0).trans rfl; have hcz9_1 : w7.cell? ⟨gb153, 1, none⟩ = some (.int .i64 a0_1) := (blk_cell BK153.out 1).trans rfl; have hcz9_2 : w7.cell? ⟨gb153, 2, none⟩ = some (.slice A0_2 l0_2.length c0_2) := (blk_cell BK153.out 2).trans rfl; have hfz9_0 := blk_frozen BK153.out 0; have hfz9_1 := blk_frozen BK153.out 1; have hfz9_2 := blk_frozen BK153.out 2; have hcz10_0 : w7.cell? ⟨gb154, 0, none⟩ = some (.int .i64 0) := (blk_cell BK154.out 0).trans rfl; have hcz10_1 : w7.cell? ⟨gb154, 1, none⟩ = some (.int .i64 0) := (blk_cell BK154.out 1).trans rfl; have hcz10_2 : w7.cell? ⟨gb154, 2, none⟩ = some (.slice none 0 0) := (blk_cell BK154.out 2).trans rfl; have hfz10_0 := blk_frozen BK154.out 0; have hfz10_1 := blk_frozen BK154.out 1; have hfz10_2 := blk_frozen BK154.out 2))
 refine bodyPost_ret (results_cell_row rfl _ _ gb154 40 #[.int .i64 a0_0, .int .i64 a0_1, .slice Ao8 t155.length co8] (0, 0) _ rfl (by (with_reducible repeat (first | refine blk_drewN ?_ _ | refine blk_drew ?_ | refine blk_alloc ?_ _)); refine blk_put (cs := #[.int .i64 a0_0, .int .i64 a0_1, .slice none 0 0]) ?_ 2 _ rfl; (with_reducible repeat (first | refine blk_drewN ?_ _ | refine blk_drew ?_ | refine blk_alloc ?_ _)); refine blk_put (cs := #[.int .i64 a0_0, .int .i64 0, .slice none 0 0]) ?_ 1 _ rfl; (with_reducible repeat (first | refine blk_drewN ?_ _ | refine blk_drew ?_ | refine blk_alloc ?_ _)); refine blk_put (cs := #[.int .i64 0, .int .i64 0, .slice none 0 0]) ?_ 0 _ rfl; (with_reducible repeat (first | refine blk_drewN ?_ _ | refine blk_drew ?_ | refine blk_alloc ?_ _)); refine blk_far ?_ NB154_153.out _; (with_reducible repeat (first | refine blk_drewN ?_ _ | refine blk_drew ?_ | refine blk_alloc ?_ _)); exact BK154.out) Tryd.underlying40 rfl (by kernel_rfl)) rfl ?_
 exact ⟨_, by first | rfl | (simp [errW_none, errW_some] <;> rfl) | (simp [*, errW_none, errW_some] <;> rfl) | (simp only [h_bne_nil, h_beq_nil] <;> rfl), by (with_reducible repeat (first | apply Kd.R_alloc | apply Kd.R_drewN | apply Kd.R_drew)); exact Kd.R_mono (Kd.R_far (p := ⟨gb154, 2, none⟩) (Kd.R_far (p := ⟨gb154, 1, none⟩) (Kd.R_far (p := ⟨gb154, 0, none⟩) (Kd.R_far (p := ⟨gb153, 2, none⟩) (Kd.R_types (Kd.R_types HO157.out BK153.out (by decide)) BK154.out (by decide)) (fun _ hk => hk.1.2) (.slice Ao8 t155.length co8)) (fun _ hk => hk.2) (.int .i64 a0_0)) (fun _ hk => hk.2) (.int .i64 a0_1)) (fun _ hk => hk.2) (.slice Ao8 t155.length co8)) (fun _ hk => trivial), by repeat (first | (with_reducible first | exact HB.out | apply below_alloc | apply pw_below_drewN | apply below_drew1 | refine below_set ?_ GE153.out | refine below_set ?_ GE154.out) | exact HB.out)⟩

end Go.Proofs.YtidobdhkncaljaaDoorK
