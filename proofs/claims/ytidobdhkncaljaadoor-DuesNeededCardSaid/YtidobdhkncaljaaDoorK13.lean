-- made by hprint.py out of the translation and the hand texts
import Derived.Test.YtidobdhkncaljaaDoorKMv
import Derived.Test.YtidobdhkncaljaaDoorK0
import Derived.Test.YtidobdhkncaljaaDoorK2
import Derived.Test.YtidobdhkncaljaaDoorK3
import Derived.Test.YtidobdhkncaljaaDoorK4
import Derived.Test.YtidobdhkncaljaaDoorK5
import Derived.Test.YtidobdhkncaljaaDoorK6
import Derived.Test.YtidobdhkncaljaaDoorK7
import Derived.Test.YtidobdhkncaljaaDoorK8
import Derived.Test.YtidobdhkncaljaaDoorK9
import Derived.Test.YtidobdhkncaljaaDoorK10
import Derived.Test.YtidobdhkncaljaaDoorK11
import Derived.Test.YtidobdhkncaljaaDoorK12
namespace Go.Proofs.YtidobdhkncaljaaDoorK
open Go.RowKit Go.Proofs.YtidobdhkncaljaaDoorW.PrintWords Go.Proofs.YtidobdhkncaljaaDoorW.PrintLast Go.Proofs.YtidobdhkncaljaaDoorW.PrintMore
attribute [local go_sem] max2_int min2_int max_two min_two max_three min_three max_four min_four   -- for this text's walks alone
set_option linter.unusedVariables false
set_option linter.unusedSimpArgs false

/-! ### dues_To: function 21 -/
def dues_To.l0 : Nat → Int → List (S42) → List (S42) → Int → Int → Option ((List (S42)))
 | 0, _, _, _, _, _ => none
 | k + 1, x0, x5, x10, x11, x12 => if x12 < x11 then (if 0 ≤ x12 then (if x12 < (x10.length : Int) then ((note_Ends.f k ((rd_T42 x10 x12).f0) ((rd_T42 x10 x12).f1.f0) ((rd_T42 x10 x12).f1.f1) ((rd_T42 x10 x12).f1.f2) ((rd_T42 x10 x12).f2) ((rd_T42 x10 x12).f3)).bind fun bt181 => ((note_Check.f ((rd_T42 x10 x12).f0) ((rd_T42 x10 x12).f1.f0) ((rd_T42 x10 x12).f1.f1) ((rd_T42 x10 x12).f1.f2) ((rd_T42 x10 x12).f2) ((rd_T42 x10 x12).f3)).bind fun t183 => (if t183 = 0 then (if bt181.2 = x0 then ((some (([] : List (S69)) : List (S69))).bind fun y184 => (if y184.length + ((rd_T42 x10 x12).f1.f2).length < 8796093022208 then (if x5.length < 1954687338268 then (dues_To.l0 k x0 (x5 ++ [(⟨(rd_T42 x10 x12).f0, (⟨(rd_T42 x10 x12).f1.f0, (rd_T42 x10 x12).f1.f1, (y184 ++ ((rd_T42 x10 x12).f1.f2))⟩ : S40), (rd_T42 x10 x12).f2, (rd_T42 x10 x12).f3⟩ : S42)]) x10 x11 (wrap64 (x12 + 1))) else (none)) else (none))) else (dues_To.l0 k x0 x5 x10 x11 (wrap64 (x12 + 1)))) else (dues_To.l0 k x0 x5 x10 x11 (wrap64 (x12 + 1)))))) else (none)) else (none)) else (some x5)
def dues_To.f (k : Nat) (a0 : Int) (l1 : List (S42)) : Option ((List (S42))) := dues_To.l0 k a0 ([] : List (S42)) l1 (l1.length : Int) 0
theorem dues_To.mono_l : ∀ k, (∀ y0 y1 y2 y3 y4, LeO (dues_To.l0 k y0 y1 y2 y3 y4) (dues_To.l0 (k + 1) y0 y1 y2 y3 y4))
 | 0 => fun _ _ _ _ _ r h => by simp [dues_To.l0] at h
 | k + 1 => by
  have ih0 := dues_To.mono_l k
  ·intro y0 y1 y2 y3 y4
   unfold dues_To.l0
   repeat' first
   | (with_reducible exact ih0 _ _ _ _ _)
   | (with_reducible exact note_Ends.mono _ _ _ _ _ _ _)
   | (with_reducible exact LeO.refl _)
   | (with_reducible exact LeO.none _)
   | (with_reducible refine LeO.ite ?_ ?_)
   | (with_reducible refine LeO.bind ?_ (fun _ => ?_))
   | exact ih0 _ _ _ _ _
   | exact note_Ends.mono _ _ _ _ _ _ _
   | exact LeO.none _
   | refine LeO.ite ?_ ?_
   | refine LeO.bind ?_ (fun _ => ?_)
theorem dues_To.mono : ∀ a0 a1 k, LeO (dues_To.f k a0 a1) (dues_To.f (k + 1) a0 a1) := by
 intro a0 a1 k
 have ih0 := dues_To.mono_l k
 unfold dues_To.f
 repeat' first
   | (with_reducible exact ih0 _ _ _ _ _)
   | (with_reducible exact note_Ends.mono _ _ _ _ _ _ _)
   | (with_reducible exact LeO.refl _)
   | (with_reducible exact LeO.none _)
   | (with_reducible refine LeO.ite ?_ ?_)
   | (with_reducible refine LeO.bind ?_ (fun _ => ?_))
   | exact ih0 _ _ _ _ _
   | exact note_Ends.mono _ _ _ _ _ _ _
   | exact LeO.none _
   | refine LeO.ite ?_ ?_
   | refine LeO.bind ?_ (fun _ => ?_)
set_option maxHeartbeats 8000000 in
set_option maxRecDepth 100000 in
theorem dues_To.calls (k : Nat) (a0 : Int) (A1 : Option Addr) (c1 : Nat) (l1 : List (S42)) (r : List (S42)) (w : World) (hr1 : Kd.C k42 w A1 l1.length l1) (hc1 : l1.length ≤ c1) (h : dues_To.f k a0 l1 = some r) :
  Calls Tryd.prog 21 #[.int .i64 a0, .slice A1 l1.length c1] w fun e w' => ∃ v0_ : Value, e = .returned (v0_) ∧ Kd.S k42 42 w' w.heap.size (fun _ => True) v0_ r ∧ Below w.heap.size w w' := by
 have hu42 := Tryd.underlying42
 have HR1 := Aside0.mk hr1
 have HC1 := Aside0.mk hc1
 clear hr1 hc1
 have HB := Aside0.mk (Below.refl w.heap.size w)
 have H : (dues_To.l0 k a0 ([] : List (S42)) l1 (l1.length : Int) 0) = some r := h
 clear h
 have H' := Aside0.mk H
 clear H
 go_enter Tryd.func21, Tryd.ntmps21
 go_wp2
 go_loopg [5, 12] k (fun kq v5 v12 w' => ∃ (x5_1 : List (S42)) (x12_1 : Int), v12 = .int .i64 x12_1 ∧ Aside0 (dues_To.l0 kq a0 x5_1 l1 (l1.length : Int) x12_1 = some r) ∧ Aside0 (kq ≤ k) ∧ Aside0 (Kd.S k42 42 w' w.heap.size (fun _ => True) v5 x5_1) ∧ Aside0 (Below w.heap.size w w'))
 case atStart => exact ⟨(([] : List (S42))), (0), (by first | rfl | (simp; done) | (simp [*]; done)), H', ⟨Nat.le_refl _⟩, ⟨by first | exact Kd.S_nil _ _ _ _ _ | exact Kd.N_nil _ _ _ _ _ | exact Kd.V_nil _ _ _ _ _ | exact Kd.Q_nil _ _ _ _ _ | exact Kd.R_nil _ _ _ _ _⟩, ⟨by repeat (first | (with_reducible first | exact HB.out | apply below_alloc | apply pw_below_drewN | apply below_drew1) | exact HB.out)⟩⟩
 case round =>
  clear H'
  try clear c1
  try clear c2
  try clear p2
  obtain ⟨x5_1, x12_1, rfl, HA, HK1, HO_5, HB⟩ := hrel
  cases gk with
  | zero => exact absurd HA.out (by simp [dues_To.l0])
  | succ k1 =>
   have H := HA.out
   clear HA
   simp only [dues_To.l0] at H
   by_cases c3 : x12_1 < (l1.length : Int)
   ·rw [if_pos c3] at H
    have c3b0 : decide (x12_1 < (l1.length : Int)) = true := decide_eq_true c3
    clear c3
    by_cases c4 : 0 ≤ x12_1
    ·rw [if_pos c4] at H
     have c4b0 : decide (0 ≤ x12_1) = true := decide_eq_true c4
     clear c4
     by_cases c5 : x12_1 < (l1.length : Int)
     ·rw [if_pos c5] at H
      have c5b0 : decide (x12_1 < (l1.length : Int)) = true := decide_eq_true c5
      clear c5
      replace H := Option.bind_eq_some_iff.mp H
      obtain ⟨⟨t181, t182⟩, A60, H⟩ := H
      replace H : ((note_Check.f ((rd_T42 l1 x12_1).f0) ((rd_T42 l1 x12_1).f1.f0) ((rd_T42 l1 x12_1).f1.f1) ((rd_T42 l1 x12_1).f1.f2) ((rd_T42 l1 x12_1).f2) ((rd_T42 l1 x12_1).f3)).bind fun t183 => (if t183 = 0 then (if t182 = a0 then ((some (([] : List (S69)) : List (S69))).bind fun y184 => (if y184.length + ((rd_T42 l1 x12_1).f1.f2).length < 8796093022208 then (if x5_1.length < 1954687338268 then (dues_To.l0 k1 a0 (x5_1 ++ [(⟨(rd_T42 l1 x12_1).f0, (⟨(rd_T42 l1 x12_1).f1.f0, (rd_T42 l1 x12_1).f1.f1, (y184 ++ ((rd_T42 l1 x12_1).f1.f2))⟩ : S40), (rd_T42 l1 x12_1).f2, (rd_T42 l1 x12_1).f3⟩ : S42)]) l1 (l1.length : Int) (wrap64 (x12_1 + 1))) else (none)) else (none))) else (dues_To.l0 k1 a0 x5_1 l1 (l1.length : Int) (wrap64 (x12_1 + 1)))) else (dues_To.l0 k1 a0 x5_1 l1 (l1.length : Int) (wrap64 (x12_1 + 1))))) = some r := H
      have A6 := Aside0.mk A60
      clear A60
      replace H := Option.bind_eq_some_iff.mp H
      obtain ⟨t183, A70, H⟩ := H
      replace H : (if t183 = 0 then (if t182 = a0 then ((some (([] : List (S69)) : List (S69))).bind fun y184 => (if y184.length + ((rd_T42 l1 x12_1).f1.f2).length < 8796093022208 then (if x5_1.length < 1954687338268 then (dues_To.l0 k1 a0 (x5_1 ++ [(⟨(rd_T42 l1 x12_1).f0, (⟨(rd_T42 l1 x12_1).f1.f0, (rd_T42 l1 x12_1).f1.f1, (y184 ++ ((rd_T42 l1 x12_1).f1.f2))⟩ : S40), (rd_T42 l1 x12_1).f2, (rd_T42 l1 x12_1).f3⟩ : S42)]) l1 (l1.length : Int) (wrap64 (x12_1 + 1))) else (none)) else (none))) else (dues_To.l0 k1 a0 x5_1 l1 (l1.length : Int) (wrap64 (x12_1 + 1)))) else (dues_To.l0 k1 a0 x5_1 l1 (l1.length : Int) (wrap64 (x12_1 + 1)))) = some r := H
      have A7 := Aside0.mk A70
      clear A70
      by_cases c8 : t183 = 0
      ·rw [if_pos c8] at H
       have c8b0 : (t183 == 0) = true := beq_iff_eq.mpr c8
       have c8b1 : (t183 != 0) = false := bne_eq_false_iff_eq.mpr c8
       clear c8
       by_cases c9 : t182 = a0
       ·rw [if_pos c9] at H
        have c9b0 : (t182 == a0) = true := beq_iff_eq.mpr c9
        have c9b1 : (t182 != a0) = false := bne_eq_false_iff_eq.mpr c9
        clear c9
        obtain ⟨y184, hy184⟩ : ∃ y_ : List (S69), y_ = (([] : List (S69))) := ⟨_, rfl⟩
        replace H : (if y184.length + ((rd_T42 l1 x12_1).f1.f2).length < 8796093022208 then (if x5_1.length < 1954687338268 then (dues_To.l0 k1 a0 (x5_1 ++ [(⟨(rd_T42 l1 x12_1).f0, (⟨(rd_T42 l1 x12_1).f1.f0, (rd_T42 l1 x12_1).f1.f1, (y184 ++ ((rd_T42 l1 x12_1).f1.f2))⟩ : S40), (rd_T42 l1 x12_1).f2, (rd_T42 l1 x12_1).f3⟩ : S42)]) l1 (l1.length : Int) (wrap64 (x12_1 + 1))) else (none)) else (none)) = some r := by first | (rw [hy184]; with_reducible exact H) | (have H2_ := (Option.bind_some _ _).symm.trans H; rw [hy184]; with_reducible exact H2_) | (have H2_ := (Option.bind_some _ _).symm.trans H; with_reducible exact H2_) | with_reducible exact H | (rw [hy184]; exact H) | exact H
        have Ny184 := Aside0.mk hy184
        clear hy184
        by_cases c10 : y184.length + ((rd_T42 l1 x12_1).f1.f2).length < 8796093022208
        ·rw [if_pos c10] at H
         have LMc10 := Aside0.mk c10
         clear c10
         obtain ⟨y187, hy187⟩ : ∃ y_ : List (S69), y_ = (y184 ++ ((rd_T42 l1 x12_1).f1.f2)) := ⟨_, rfl⟩
         replace H : (if x5_1.length < 1954687338268 then (dues_To.l0 k1 a0 (x5_1 ++ [(⟨(rd_T42 l1 x12_1).f0, (⟨(rd_T42 l1 x12_1).f1.f0, (rd_T42 l1 x12_1).f1.f1, y187⟩ : S40), (rd_T42 l1 x12_1).f2, (rd_T42 l1 x12_1).f3⟩ : S42)]) l1 (l1.length : Int) (wrap64 (x12_1 + 1))) else (none)) = some r := by first | (rw [hy187]; with_reducible exact H) | (have H2_ := (Option.bind_some _ _).symm.trans H; rw [hy187]; with_reducible exact H2_) | (have H2_ := (Option.bind_some _ _).symm.trans H; with_reducible exact H2_) | with_reducible exact H | (rw [hy187]; exact H) | exact H
         have Ny187 := Aside0.mk hy187
         clear hy187
         by_cases c11 : x5_1.length < 1954687338268
         ·rw [if_pos c11] at H
          have LMc11 := Aside0.mk c11
          clear c11
          obtain ⟨y190, hy190⟩ : ∃ y_ : List (S42), y_ = (x5_1 ++ [(⟨(rd_T42 l1 x12_1).f0, (⟨(rd_T42 l1 x12_1).f1.f0, (rd_T42 l1 x12_1).f1.f1, y187⟩ : S40), (rd_T42 l1 x12_1).f2, (rd_T42 l1 x12_1).f3⟩ : S42)]) := ⟨_, rfl⟩
          replace H : (dues_To.l0 k1 a0 y190 l1 (l1.length : Int) (wrap64 (x12_1 + 1))) = some r := by first | (rw [hy190]; with_reducible exact H) | (have H2_ := (Option.bind_some _ _).symm.trans H; rw [hy190]; with_reducible exact H2_) | (have H2_ := (Option.bind_some _ _).symm.trans H; with_reducible exact H2_) | with_reducible exact H | (rw [hy190]; exact H) | exact H
          have Ny190 := Aside0.mk hy190
          clear hy190
          have H' := Aside0.mk H
          clear H
          have p179 : 0 ≤ (x12_1 : Int) := of_decide_eq_true (by first | (with_reducible assumption) | assumption)
          have q179 : x12_1 < (l1.length : Int) := of_decide_eq_true (by first | (with_reducible assumption) | assumption)
          obtain ⟨ad179, A179_3, c179_3, e179, hx179_0, hx179_1, hx179_2, hx179_3, hx179_4, hx179_5, hl179_3, hi179_3⟩ := at_T42 HR1.out x12_1 p179 q179
          cases e179
          replace hx179_0 := (HB.out.cell (World.block_lt_of_cell? w _ hx179_0)).trans hx179_0
          replace hx179_1 := (HB.out.cell (World.block_lt_of_cell? w _ hx179_1)).trans hx179_1
          replace hx179_2 := (HB.out.cell (World.block_lt_of_cell? w _ hx179_2)).trans hx179_2
          replace hx179_3 := (HB.out.cell (World.block_lt_of_cell? w _ hx179_3)).trans hx179_3
          replace hx179_4 := (HB.out.cell (World.block_lt_of_cell? w _ hx179_4)).trans hx179_4
          replace hx179_5 := (HB.out.cell (World.block_lt_of_cell? w _ hx179_5)).trans hx179_5
          have HR179_3 := Aside0.mk hi179_3
          have HC179_3 := Aside0.mk hl179_3
          clear hi179_3 hl179_3
          replace p179 := eq_true p179
          replace q179 := eq_true q179
          go_wp2_with (first | ((with_reducible refine gate_dst (N := 7) rfl ?_); refine box_event ?hg (N := 7) ?hd (cs := #[.int .i64 0, .int .i64 0, .int .i64 0, .slice none 0 0, .string (⟨#[]⟩ : ByteArray), .int .i64 0]) (t := 42) ?hr ?_; (case hd => rfl); (case hg => rfl); (case hr => first | (go_simp; done) | (go_simp; rfl)); intro gb180 hg w12 hbox hb; have n0_ := Aside0.mk (Kd.S_below (Kd.S_elderB (mvS HO_5.out) gb180 (Nat.le_of_eq hg.symm)) hb); have n1_ := Aside0.mk (below_step (mvL0 HB.out) hb); have n2_ := Aside0.mk (hbox); have n3_ := Aside0.mk ((by rw [hg]; exact (below_size (mvL0 HB.out)) : w.heap.size ≤ gb180)); have n4_ := Aside0.mk ((by rw [hg]; exact (below_size (mvL0 HB.out)) : w.heap.size ≤ gb180)); clear HO_5; clear HB; have HO_5 := n0_; have HB := n1_; have BK180 := n2_; have GW180 := n3_; have GE180 := n4_; clear n0_ n1_ n2_ n3_ n4_; clear hb hbox hg; have hcz13_0 : w12.cell? ⟨gb180, 0, none⟩ = some (.int .i64 0) := (blk_cell BK180.out 0).trans rfl; have hcz13_1 : w12.cell? ⟨gb180, 1, none⟩ = some (.int .i64 0) := (blk_cell BK180.out 1).trans rfl; have hcz13_2 : w12.cell? ⟨gb180, 2, none⟩ = some (.int .i64 0) := (blk_cell BK180.out 2).trans rfl; have hcz13_3 : w12.cell? ⟨gb180, 3, none⟩ = some (.slice none 0 0) := (blk_cell BK180.out 3).trans rfl; have hcz13_4 : w12.cell? ⟨gb180, 4, none⟩ = some (.string (⟨#[]⟩ : ByteArray)) := (blk_cell BK180.out 4).trans rfl; have hcz13_5 : w12.cell? ⟨gb180, 5, none⟩ = some (.int .i64 0) := (blk_cell BK180.out 5).trans rfl; have hfz13_0 := blk_frozen BK180.out 0; have hfz13_1 := blk_frozen BK180.out 1; have hfz13_2 := blk_frozen BK180.out 2; have hfz13_3 := blk_frozen BK180.out 3; have hfz13_4 := blk_frozen BK180.out 4; have hfz13_5 := blk_frozen BK180.out 5) | ((with_reducible refine gate_callee (f := 9) rfl ?_); refine goesL_ (some 18) rfl rfl Tryd.func9 (by kernel_rfl) rfl #[.agg #[.int .i64 ((rd_T42 l1 x12_1).f0), .int .i64 ((rd_T42 l1 x12_1).f1.f0), .int .i64 ((rd_T42 l1 x12_1).f1.f1), .slice A179_3 ((rd_T42 l1 x12_1).f1.f2).length c179_3, .string ((rd_T42 l1 x12_1).f2), .int .i64 ((rd_T42 l1 x12_1).f3)]] rfl (by (try simp only [List.map_toArray, List.map_cons, List.map_nil]); first | done | rfl | (simp only [List.length_drop, List.length_take]; rfl)) ?_; (with_reducible refine (note_Ends.calls k1 ((rd_T42 l1 x12_1).f0) ((rd_T42 l1 x12_1).f1.f0) ((rd_T42 l1 x12_1).f1.f1) _ _ ((rd_T42 l1 x12_1).f1.f2) ((rd_T42 l1 x12_1).f2) ((rd_T42 l1 x12_1).f3) t181 t182 _ ?side1 ?side2 A6.out).mono ?_); (case side1 => exact Kd.C_below HR179_3.out (mvL1 HB.out GE180.out)); (case side2 => exact HC179_3.out); rintro e w14 ⟨rfl, hb⟩; refine ⟨_, rfl, ?_⟩; have n0_ := Aside0.mk (Kd.S_below (by (with_reducible repeat (first | apply Kd.S_alloc | apply Kd.S_drewN | apply Kd.S_drew)); exact (Kd.S_mono (Kd.S_far (p := ⟨gb180, 5, none⟩) (Kd.S_far (p := ⟨gb180, 4, none⟩) (Kd.S_far (p := ⟨gb180, 3, none⟩) (Kd.S_far (p := ⟨gb180, 2, none⟩) (Kd.S_far (p := ⟨gb180, 1, none⟩) (Kd.S_far (p := ⟨gb180, 0, none⟩) (Kd.S_mono HO_5.out (fun k_ hk => (⟨hk, hk.2⟩ : _ ∧ k_ ≠ gb180))) (fun _ hk => hk.2) (.int .i64 ((rd_T42 l1 x12_1).f0))) (fun _ hk => hk.2) (.int .i64 ((rd_T42 l1 x12_1).f1.f0))) (fun _ hk => hk.2) (.int .i64 ((rd_T42 l1 x12_1).f1.f1))) (fun _ hk => hk.2) (.slice A179_3 ((rd_T42 l1 x12_1).f1.f2).length c179_3)) (fun _ hk => hk.2) (.string ((rd_T42 l1 x12_1).f2))) (fun _ hk => hk.2) (.int .i64 ((rd_T42 l1 x12_1).f3))) (fun _ h_ => h_.1))) hb); have n1_ := Aside0.mk (blk_below (g := gb180) (o := .cells #[.int .i64 ((rd_T42 l1 x12_1).f0), .int .i64 ((rd_T42 l1 x12_1).f1.f0), .int .i64 ((rd_T42 l1 x12_1).f1.f1), .slice A179_3 ((rd_T42 l1 x12_1).f1.f2).length c179_3, .string ((rd_T42 l1 x12_1).f2), .int .i64 ((rd_T42 l1 x12_1).f3)] 42 (0, 0)) (by (with_reducible repeat (first | refine blk_drewN ?_ _ | refine blk_drew ?_ | refine blk_alloc ?_ _)); refine blk_put (cs := #[.int .i64 ((rd_T42 l1 x12_1).f0), .int .i64 ((rd_T42 l1 x12_1).f1.f0), .int .i64 ((rd_T42 l1 x12_1).f1.f1), .slice A179_3 ((rd_T42 l1 x12_1).f1.f2).length c179_3, .string ((rd_T42 l1 x12_1).f2), .int .i64 0]) ?_ 5 _ rfl; (with_reducible repeat (first | refine blk_drewN ?_ _ | refine blk_drew ?_ | refine blk_alloc ?_ _)); refine blk_put (cs := #[.int .i64 ((rd_T42 l1 x12_1).f0), .int .i64 ((rd_T42 l1 x12_1).f1.f0), .int .i64 ((rd_T42 l1 x12_1).f1.f1), .slice A179_3 ((rd_T42 l1 x12_1).f1.f2).length c179_3, .string (⟨#[]⟩ : ByteArray), .int .i64 0]) ?_ 4 _ rfl; (with_reducible repeat (first | refine blk_drewN ?_ _ | refine blk_drew ?_ | refine blk_alloc ?_ _)); refine blk_put (cs := #[.int .i64 ((rd_T42 l1 x12_1).f0), .int .i64 ((rd_T42 l1 x12_1).f1.f0), .int .i64 ((rd_T42 l1 x12_1).f1.f1), .slice none 0 0, .string (⟨#[]⟩ : ByteArray), .int .i64 0]) ?_ 3 _ rfl; (with_reducible repeat (first | refine blk_drewN ?_ _ | refine blk_drew ?_ | refine blk_alloc ?_ _)); refine blk_put (cs := #[.int .i64 ((rd_T42 l1 x12_1).f0), .int .i64 ((rd_T42 l1 x12_1).f1.f0), .int .i64 0, .slice none 0 0, .string (⟨#[]⟩ : ByteArray), .int .i64 0]) ?_ 2 _ rfl; (with_reducible repeat (first | refine blk_drewN ?_ _ | refine blk_drew ?_ | refine blk_alloc ?_ _)); refine blk_put (cs := #[.int .i64 ((rd_T42 l1 x12_1).f0), .int .i64 0, .int .i64 0, .slice none 0 0, .string (⟨#[]⟩ : ByteArray), .int .i64 0]) ?_ 1 _ rfl; (with_reducible repeat (first | refine blk_drewN ?_ _ | refine blk_drew ?_ | refine blk_alloc ?_ _)); refine blk_put (cs := #[.int .i64 0, .int .i64 0, .int .i64 0, .slice none 0 0, .string (⟨#[]⟩ : ByteArray), .int .i64 0]) ?_ 0 _ rfl; (with_reducible repeat (first | refine blk_drewN ?_ _ | refine blk_drew ?_ | refine blk_alloc ?_ _)); exact BK180.out) hb); have n2_ := Aside0.mk (below_step (mvL1 HB.out GE180.out) hb); clear HO_5; clear BK180; clear HB; have HO_5 := n0_; have BK180 := n1_; have HB := n2_; clear n0_ n1_ n2_; (try clear hb); (try clear hb2); (try clear hk); (try clear hi); have hcz15_0 : w14.cell? ⟨gb180, 0, none⟩ = some (.int .i64 ((rd_T42 l1 x12_1).f0)) := (blk_cell BK180.out 0).trans rfl; have hcz15_1 : w14.cell? ⟨gb180, 1, none⟩ = some (.int .i64 ((rd_T42 l1 x12_1).f1.f0)) := (blk_cell BK180.out 1).trans rfl; have hcz15_2 : w14.cell? ⟨gb180, 2, none⟩ = some (.int .i64 ((rd_T42 l1 x12_1).f1.f1)) := (blk_cell BK180.out 2).trans rfl; have hcz15_3 : w14.cell? ⟨gb180, 3, none⟩ = some (.slice A179_3 ((rd_T42 l1 x12_1).f1.f2).length c179_3) := (blk_cell BK180.out 3).trans rfl; have hcz15_4 : w14.cell? ⟨gb180, 4, none⟩ = some (.string ((rd_T42 l1 x12_1).f2)) := (blk_cell BK180.out 4).trans rfl; have hcz15_5 : w14.cell? ⟨gb180, 5, none⟩ = some (.int .i64 ((rd_T42 l1 x12_1).f3)) := (blk_cell BK180.out 5).trans rfl; have hfz15_0 := blk_frozen BK180.out 0; have hfz15_1 := blk_frozen BK180.out 1; have hfz15_2 := blk_frozen BK180.out 2; have hfz15_3 := blk_frozen BK180.out 3; have hfz15_4 := blk_frozen BK180.out 4; have hfz15_5 := blk_frozen BK180.out 5) | ((with_reducible refine gate_callee (f := 10) rfl ?_); refine goesL_ (some 22) rfl rfl Tryd.func10 (by kernel_rfl) rfl #[.agg #[.int .i64 ((rd_T42 l1 x12_1).f0), .int .i64 ((rd_T42 l1 x12_1).f1.f0), .int .i64 ((rd_T42 l1 x12_1).f1.f1), .slice A179_3 ((rd_T42 l1 x12_1).f1.f2).length c179_3, .string ((rd_T42 l1 x12_1).f2), .int .i64 ((rd_T42 l1 x12_1).f3)]] rfl (by (try simp only [List.map_toArray, List.map_cons, List.map_nil]); first | done | rfl | (simp only [List.length_drop, List.length_take]; rfl)) ?_; (with_reducible refine (note_Check.calls ((rd_T42 l1 x12_1).f0) ((rd_T42 l1 x12_1).f1.f0) ((rd_T42 l1 x12_1).f1.f1) _ _ ((rd_T42 l1 x12_1).f1.f2) ((rd_T42 l1 x12_1).f2) ((rd_T42 l1 x12_1).f3) t183 _ ?side1 ?side2 A7.out).mono ?_); (case side1 => repeat (first | exact (Kd.C_below HR179_3.out HB.out) | (with_reducible refine Kd.C_alloc ?_ _) | (with_reducible refine Kd.C_drewN ?_ _) | (with_reducible refine Kd.C_drew ?_))); (case side2 => exact HC179_3.out); rintro e w16 ⟨rfl, hb⟩; refine ⟨_, rfl, ?_⟩; have n0_ := Aside0.mk (Kd.S_below (mvS HO_5.out) hb); have n1_ := Aside0.mk (blk_below (g := gb180) (o := .cells #[.int .i64 ((rd_T42 l1 x12_1).f0), .int .i64 ((rd_T42 l1 x12_1).f1.f0), .int .i64 ((rd_T42 l1 x12_1).f1.f1), .slice A179_3 ((rd_T42 l1 x12_1).f1.f2).length c179_3, .string ((rd_T42 l1 x12_1).f2), .int .i64 ((rd_T42 l1 x12_1).f3)] 42 (0, 0)) (mvB BK180.out) hb); have n2_ := Aside0.mk (below_step (mvL1 HB.out GE180.out) hb); clear HO_5; clear BK180; clear HB; have HO_5 := n0_; have BK180 := n1_; have HB := n2_; clear n0_ n1_ n2_; (try clear hb); (try clear hb2); (try clear hk); (try clear hi)) | ((with_reducible refine gate_dst (N := 29) rfl ?_); refine Kd.R_lit k69 _ 69 ?hg (N := 29) ?hd (xs := ([] : List (S69))) (inner := []) (ok := fun _ => True) (okp := fun _ => True) ?hr ?hp (fun _ hk => hk) trivial (Below.refl _ _) (Nat.le_refl _) (by simp) ?_; (case hd => rfl); (case hg => rfl); (case hr => first | (go_simp; done) | (go_simp; rfl)); (case hp => exact (Reps.none _ _)); intro v185 w17 ho18 hb hg_ hnew_; clear hg_ hnew_; (first | rw [← Ny184.out] at ho18 | (simp only [Int.reduceToNat] at ho18; rw [← Ny184.out] at ho18)); have n0_ := Aside0.mk (Kd.S_elder' (mvS HO_5.out) (Kd.R_base ho18) hb); have n1_ := Aside0.mk (Kd.R_lower ho18 (below_size (mvL1 HB.out GE180.out))); have n2_ := Aside0.mk (blk_below (g := gb180) (o := .cells #[.int .i64 ((rd_T42 l1 x12_1).f0), .int .i64 ((rd_T42 l1 x12_1).f1.f0), .int .i64 ((rd_T42 l1 x12_1).f1.f1), .slice A179_3 ((rd_T42 l1 x12_1).f1.f2).length c179_3, .string ((rd_T42 l1 x12_1).f2), .int .i64 ((rd_T42 l1 x12_1).f3)] 42 (0, 0)) (mvB BK180.out) hb); have n3_ := Aside0.mk (below_step (mvL1 HB.out GE180.out) hb); clear HO_5; clear BK180; clear HB; have HO_5 := n0_; have HO186 := n1_; have BK180 := n2_; have HB := n3_; clear n0_ n1_ n2_ n3_; clear hb ho18; have hcz19_0 : w17.cell? ⟨gb180, 0, none⟩ = some (.int .i64 ((rd_T42 l1 x12_1).f0)) := (blk_cell BK180.out 0).trans rfl; have hcz19_1 : w17.cell? ⟨gb180, 1, none⟩ = some (.int .i64 ((rd_T42 l1 x12_1).f1.f0)) := (blk_cell BK180.out 1).trans rfl; have hcz19_2 : w17.cell? ⟨gb180, 2, none⟩ = some (.int .i64 ((rd_T42 l1 x12_1).f1.f1)) := (blk_cell BK180.out 2).trans rfl; have hcz19_3 : w17.cell? ⟨gb180, 3, none⟩ = some (.slice A179_3 ((rd_T42 l1 x12_1).f1.f2).length c179_3) := (blk_cell BK180.out 3).trans rfl; have hcz19_4 : w17.cell? ⟨gb180, 4, none⟩ = some (.string ((rd_T42 l1 x12_1).f2)) := (blk_cell BK180.out 4).trans rfl; have hcz19_5 : w17.cell? ⟨gb180, 5, none⟩ = some (.int .i64 ((rd_T42 l1 x12_1).f3)) := (blk_cell BK180.out 5).trans rfl; have hfz19_0 := blk_frozen BK180.out 0; have hfz19_1 := blk_frozen BK180.out 1; have hfz19_2 := blk_frozen BK180.out 2; have hfz19_3 := blk_frozen BK180.out 3; have hfz19_4 := blk_frozen BK180.out 4; have hfz19_5 := blk_frozen BK180.out 5) | ((with_reducible refine gate_builtin (b := .append) (xs := #[.tmp 29, .tmp 32]) rfl ?_); at_builtin; refine Kd.R_append_rows k69 (w0 := w) w.heap.size rfl (.tmp 29) (.tmp 32) 38 69 (.agg #[(.int .i64 0), (.int .i64 0)]) 16 rfl Tryd.underlying38 info69 rfl (by decide) (by omega) v185 y184 ((rd_T42 l1 x12_1).f1.f2) _ _ _ (fun _ => True) (fun _ => False) rfl rfl ?aO ?aR (fun _ _ h => h) (fun _ h => h.elim) ?aF ?aB ?aS ?aL ?_; (case aR => repeat (first | exact (Kd.C_below HR179_3.out HB.out) | (with_reducible refine Kd.C_alloc ?_ _) | (with_reducible refine Kd.C_drewN ?_ _) | (with_reducible refine Kd.C_drew ?_))); (case aB => exact (mvL1 HB.out GE180.out)); (case aF => exact (fun _ _ => trivial)); (case aO => exact (mvR HO186.out)); (case aS => exact (below_size (mvL1 HB.out GE180.out))); (case aL => have := LMc10.out; omega); intro v188 w20 ho hb hg hat; rw [← Ny187.out] at ho; have n0_ := Aside0.mk (Kd.S_after (ok := (fun k_ => k_ ≠ gb180)) (by (with_reducible repeat (first | apply Kd.S_alloc | apply Kd.S_drewN | apply Kd.S_drew)); exact Kd.S_mono HO_5.out (fun _ hk => ⟨hk.1.2, hk.2⟩)) hg hat); have n1_ := Aside0.mk (blk_grown (g := gb180) (o := .cells #[.int .i64 ((rd_T42 l1 x12_1).f0), .int .i64 ((rd_T42 l1 x12_1).f1.f0), .int .i64 ((rd_T42 l1 x12_1).f1.f1), .slice A179_3 ((rd_T42 l1 x12_1).f1.f2).length c179_3, .string ((rd_T42 l1 x12_1).f2), .int .i64 ((rd_T42 l1 x12_1).f3)] 42 (0, 0)) (mvB BK180.out) hg (Kd.R_ne HO186.out BK180.out (by decide))); have n2_ := Aside0.mk (hb); have n3_ := Aside0.mk (ho); clear HO_5; clear BK180; clear HB; clear HO186; have HO_5 := n0_; have BK180 := n1_; have HB := n2_; have HO189 := n3_; clear n0_ n1_ n2_ n3_; clear ho hb hg hat; obtain ⟨Ao21, co21, eo21⟩ := Kd.R_slice HO189.out; subst eo21; have hcz22_0 : w20.cell? ⟨gb180, 0, none⟩ = some (.int .i64 ((rd_T42 l1 x12_1).f0)) := (blk_cell BK180.out 0).trans rfl; have hcz22_1 : w20.cell? ⟨gb180, 1, none⟩ = some (.int .i64 ((rd_T42 l1 x12_1).f1.f0)) := (blk_cell BK180.out 1).trans rfl; have hcz22_2 : w20.cell? ⟨gb180, 2, none⟩ = some (.int .i64 ((rd_T42 l1 x12_1).f1.f1)) := (blk_cell BK180.out 2).trans rfl; have hcz22_3 : w20.cell? ⟨gb180, 3, none⟩ = some (.slice A179_3 ((rd_T42 l1 x12_1).f1.f2).length c179_3) := (blk_cell BK180.out 3).trans rfl; have hcz22_4 : w20.cell? ⟨gb180, 4, none⟩ = some (.string ((rd_T42 l1 x12_1).f2)) := (blk_cell BK180.out 4).trans rfl; have hcz22_5 : w20.cell? ⟨gb180, 5, none⟩ = some (.int .i64 ((rd_T42 l1 x12_1).f3)) := (blk_cell BK180.out 5).trans rfl; have hfz22_0 := blk_frozen BK180.out 0; have hfz22_1 := blk_frozen BK180.out 1; have hfz22_2 := blk_frozen BK180.out 2; have hfz22_3 := blk_frozen BK180.out 3; have hfz22_4 := blk_frozen BK180.out 4; have hfz22_5 := blk_frozen BK180.out 5) | ((with_reducible refine gate_store (t := 38) (p := 35) rfl ?_); refine store_event (t := 38) (p := 35) (v := ?vo_w23) (w1 := (w20.setCell ⟨gb180, 3, none⟩ (.slice Ao21 y187.length co21))) ?hg ?ho ?hn ?hr ?_; (case ho => rfl); (case hg => rfl); (case hn => rfl); (case hr => first | (go_simp; done) | (go_simp; rfl)); intro w23 hw; have n0_ : Aside0 (Kd.S k42 42 w23 w.heap.size (fun k_ => some k_ ≠ (.slice Ao21 y187.length co21 : Value).ownBlock ∧ k_ ≠ gb180) u5 x5_1) := ⟨(by rw [hw]; exact (by (with_reducible repeat (first | apply Kd.S_alloc | apply Kd.S_drewN | apply Kd.S_drew)); exact Kd.S_mono (Kd.S_far (p := ⟨gb180, 3, none⟩) (Kd.S_mono HO_5.out (fun k_ hk => (⟨hk, hk.1⟩ : _ ∧ k_ ≠ gb180))) (fun _ hk => hk.2) (.slice Ao21 y187.length co21)) (fun _ hk => ⟨hk.1.2, hk.1.1⟩)))⟩; have n1_ : Aside0 (Kd.R k69 69 w23 w.heap.size (fun _ => True) (.slice Ao21 y187.length co21) y187) := ⟨(by rw [hw]; exact (by (with_reducible repeat (first | apply Kd.R_alloc | apply Kd.R_drewN | apply Kd.R_drew)); exact Kd.R_mono (Kd.R_far (p := ⟨gb180, 3, none⟩) (Kd.R_types HO189.out BK180.out (by decide)) (fun _ hk => hk.2) (.slice Ao21 y187.length co21)) (fun _ hk => trivial)))⟩; have n2_ : Aside0 (w23.heap[gb180]? = some (.cells #[.int .i64 ((rd_T42 l1 x12_1).f0), .int .i64 ((rd_T42 l1 x12_1).f1.f0), .int .i64 ((rd_T42 l1 x12_1).f1.f1), .slice Ao21 y187.length co21, .string ((rd_T42 l1 x12_1).f2), .int .i64 ((rd_T42 l1 x12_1).f3)] 42 (0, 0))) := ⟨(by rw [hw]; exact (by (with_reducible repeat (first | refine blk_drewN ?_ _ | refine blk_drew ?_ | refine blk_alloc ?_ _)); refine blk_put (cs := #[.int .i64 ((rd_T42 l1 x12_1).f0), .int .i64 ((rd_T42 l1 x12_1).f1.f0), .int .i64 ((rd_T42 l1 x12_1).f1.f1), .slice A179_3 ((rd_T42 l1 x12_1).f1.f2).length c179_3, .string ((rd_T42 l1 x12_1).f2), .int .i64 ((rd_T42 l1 x12_1).f3)]) ?_ 3 _ rfl; (with_reducible repeat (first | refine blk_drewN ?_ _ | refine blk_drew ?_ | refine blk_alloc ?_ _)); exact BK180.out))⟩; have n3_ : Aside0 (Below w.heap.size w w23) := ⟨(by rw [hw]; exact (mvL1 HB.out GE180.out))⟩; clear hw; clear HO_5; clear HO189; clear BK180; clear HB; have HO_5 := n0_; have HO189 := n1_; have BK180 := n2_; have HB := n3_; clear n0_ n1_ n2_ n3_; have hcz24_0 : w23.cell? ⟨gb180, 0, none⟩ = some (.int .i64 ((rd_T42 l1 x12_1).f0)) := (blk_cell BK180.out 0).trans rfl; have hcz24_1 : w23.cell? ⟨gb180, 1, none⟩ = some (.int .i64 ((rd_T42 l1 x12_1).f1.f0)) := (blk_cell BK180.out 1).trans rfl; have hcz24_2 : w23.cell? ⟨gb180, 2, none⟩ = some (.int .i64 ((rd_T42 l1 x12_1).f1.f1)) := (blk_cell BK180.out 2).trans rfl; have hcz24_3 : w23.cell? ⟨gb180, 3, none⟩ = some (.slice Ao21 y187.length co21) := (blk_cell BK180.out 3).trans rfl; have hcz24_4 : w23.cell? ⟨gb180, 4, none⟩ = some (.string ((rd_T42 l1 x12_1).f2)) := (blk_cell BK180.out 4).trans rfl; have hcz24_5 : w23.cell? ⟨gb180, 5, none⟩ = some (.int .i64 ((rd_T42 l1 x12_1).f3)) := (blk_cell BK180.out 5).trans rfl; have hfz24_0 := blk_frozen BK180.out 0; have hfz24_1 := blk_frozen BK180.out 1; have hfz24_2 := blk_frozen BK180.out 2; have hfz24_3 := blk_frozen BK180.out 3; have hfz24_4 := blk_frozen BK180.out 4; have hfz24_5 := blk_frozen BK180.out 5) | ((with_reducible refine gate_builtin (b := .append) (xs := #[.tmp 36, .tmp 38]) rfl ?_); at_builtin; refine Kd.S_append k42 (w0 := w) w.heap.size rfl (.tmp 36) (.tmp 38) 32 42 (.agg #[(.int .i64 0), (.int .i64 0), (.int .i64 0), (.slice none 0 0), (.string ⟨#[]⟩), (.int .i64 0)]) 72 rfl Tryd.underlying32 info42 rfl (by decide) (by omega) u5 x5_1 (⟨(rd_T42 l1 x12_1).f0, (⟨(rd_T42 l1 x12_1).f1.f0, (rd_T42 l1 x12_1).f1.f1, y187⟩ : S40), (rd_T42 l1 x12_1).f2, (rd_T42 l1 x12_1).f3⟩ : S42) [.int .i64 ((rd_T42 l1 x12_1).f0), .int .i64 ((rd_T42 l1 x12_1).f1.f0), .int .i64 ((rd_T42 l1 x12_1).f1.f1), .slice Ao21 y187.length co21, .string ((rd_T42 l1 x12_1).f2), .int .i64 ((rd_T42 l1 x12_1).f3)] (fun k_ => k_ ≠ gb180) (fun k_ => some k_ = (.slice Ao21 y187.length co21 : Value).ownBlock) rfl rfl ?aP (fun k_ hk_ => ((Kd.R_mono (ok' := fun k_ => ((fun k_ => k_ ≠ gb180)) k_ ∧ some k_ ≠ (u5 : Value).ownBlock) (Kd.R_types (Kd.R_apart' (HO189.out) (Kd.S_typed HO_5.out) (by decide)) BK180.out (by decide)) (fun k_ hk => ⟨hk.2, hk.1.2⟩))).1 k_ hk_.symm) ?aF ?aO ?aB ?aS ?aL ?_; (case aP => exact k42_mkM _ _ _ (⟨(rd_T42 l1 x12_1).f0, (⟨(rd_T42 l1 x12_1).f1.f0, (rd_T42 l1 x12_1).f1.f1, y187⟩ : S40), (rd_T42 l1 x12_1).f2, (rd_T42 l1 x12_1).f3⟩ : S42) (Kd.R_mono (Kd.R_tight rfl (Kd.R_mono (ok' := fun k_ => ((fun k_ => k_ ≠ gb180)) k_ ∧ some k_ ≠ (u5 : Value).ownBlock) (Kd.R_types (Kd.R_apart' (HO189.out) (Kd.S_typed HO_5.out) (by decide)) BK180.out (by decide)) (fun k_ hk => ⟨hk.2, hk.1.2⟩))) (fun _ h_ => h_))); (case aB => exact (mvL1 HB.out GE180.out)); (case aF => exact (fun k_ hk => Kd.freshB (g := gb180) (o := .cells #[.int .i64 ((rd_T42 l1 x12_1).f0), .int .i64 ((rd_T42 l1 x12_1).f1.f0), .int .i64 ((rd_T42 l1 x12_1).f1.f1), .slice Ao21 y187.length co21, .string ((rd_T42 l1 x12_1).f2), .int .i64 ((rd_T42 l1 x12_1).f3)] 42 (0, 0)) (mvB BK180.out) k_ hk)); (case aO => exact (by (with_reducible repeat (first | apply Kd.S_alloc | apply Kd.S_drewN | apply Kd.S_drew)); exact Kd.S_mono HO_5.out (fun k_ hk => ⟨hk.2, fun e_ => hk.1 e_⟩))); (case aS => exact (below_size (mvL1 HB.out GE180.out))); (case aL => have := LMc11.out; omega); intro v191 w25 ho hb hg hat; rw [← Ny190.out] at ho; have n0_ := Aside0.mk (blk_grown (g := gb180) (o := .cells #[.int .i64 ((rd_T42 l1 x12_1).f0), .int .i64 ((rd_T42 l1 x12_1).f1.f0), .int .i64 ((rd_T42 l1 x12_1).f1.f1), .slice Ao21 y187.length co21, .string ((rd_T42 l1 x12_1).f2), .int .i64 ((rd_T42 l1 x12_1).f3)] 42 (0, 0)) (mvB BK180.out) hg (Kd.S_away HO_5.out (fun _ hk => hk.2))); have n1_ := Aside0.mk (hb); have n2_ := Aside0.mk (ho); clear BK180; clear HB; clear HO_5; clear HO189; have BK180 := n0_; have HB := n1_; have HO192 := n2_; clear n0_ n1_ n2_; clear ho hb hg hat))
          go_roundg k1
          case measure => have := HK1.out; omega
          case rel => exact ⟨(y190), (wrap64 (x12_1 + 1)), (by first | rfl | (simp; done) | (simp [*]; done)), H', ⟨by have := HK1.out; omega⟩, ⟨by (with_reducible repeat (first | apply Kd.S_alloc | apply Kd.S_drewN | apply Kd.S_drew)); exact Kd.S_mono HO192.out (fun _ hk => trivial)⟩, ⟨by repeat (first | (with_reducible first | exact HB.out | apply below_alloc | apply pw_below_drewN | apply below_drew1 | refine below_set ?_ GE180.out) | exact HB.out)⟩⟩
         ·rw [if_neg c11] at H
          exact absurd H (by simp)
        ·rw [if_neg c10] at H
         exact absurd H (by simp)
       ·rw [if_neg c9] at H
        have c9b0 : (t182 == a0) = false := beq_eq_false_iff_ne.mpr c9
        have c9b1 : (t182 != a0) = true := bne_iff_ne.mpr c9
        have H' := Aside0.mk H
        clear H
        have p179 : 0 ≤ (x12_1 : Int) := of_decide_eq_true (by first | (with_reducible assumption) | assumption)
        have q179 : x12_1 < (l1.length : Int) := of_decide_eq_true (by first | (with_reducible assumption) | assumption)
        obtain ⟨ad179, A179_3, c179_3, e179, hx179_0, hx179_1, hx179_2, hx179_3, hx179_4, hx179_5, hl179_3, hi179_3⟩ := at_T42 HR1.out x12_1 p179 q179
        cases e179
        replace hx179_0 := (HB.out.cell (World.block_lt_of_cell? w _ hx179_0)).trans hx179_0
        replace hx179_1 := (HB.out.cell (World.block_lt_of_cell? w _ hx179_1)).trans hx179_1
        replace hx179_2 := (HB.out.cell (World.block_lt_of_cell? w _ hx179_2)).trans hx179_2
        replace hx179_3 := (HB.out.cell (World.block_lt_of_cell? w _ hx179_3)).trans hx179_3
        replace hx179_4 := (HB.out.cell (World.block_lt_of_cell? w _ hx179_4)).trans hx179_4
        replace hx179_5 := (HB.out.cell (World.block_lt_of_cell? w _ hx179_5)).trans hx179_5
        have HR179_3 := Aside0.mk hi179_3
        have HC179_3 := Aside0.mk hl179_3
        clear hi179_3 hl179_3
        replace p179 := eq_true p179
        replace q179 := eq_true q179
        go_wp2_with (first | ((with_reducible refine gate_dst (N := 7) rfl ?_); refine box_event ?hg (N := 7) ?hd (cs := #[.int .i64 0, .int .i64 0, .int .i64 0, .slice none 0 0, .string (⟨#[]⟩ : ByteArray), .int .i64 0]) (t := 42) ?hr ?_; (case hd => rfl); (case hg => rfl); (case hr => first | (go_simp; done) | (go_simp; rfl)); intro gb180 hg w26 hbox hb; have n0_ := Aside0.mk (Kd.S_below (Kd.S_elderB (mvS HO_5.out) gb180 (Nat.le_of_eq hg.symm)) hb); have n1_ := Aside0.mk (below_step (mvL0 HB.out) hb); have n2_ := Aside0.mk (hbox); have n3_ := Aside0.mk ((by rw [hg]; exact (below_size (mvL0 HB.out)) : w.heap.size ≤ gb180)); have n4_ := Aside0.mk ((by rw [hg]; exact (below_size (mvL0 HB.out)) : w.heap.size ≤ gb180)); clear HO_5; clear HB; have HO_5 := n0_; have HB := n1_; have BK180 := n2_; have GW180 := n3_; have GE180 := n4_; clear n0_ n1_ n2_ n3_ n4_; clear hb hbox hg; have hcz27_0 : w26.cell? ⟨gb180, 0, none⟩ = some (.int .i64 0) := (blk_cell BK180.out 0).trans rfl; have hcz27_1 : w26.cell? ⟨gb180, 1, none⟩ = some (.int .i64 0) := (blk_cell BK180.out 1).trans rfl; have hcz27_2 : w26.cell? ⟨gb180, 2, none⟩ = some (.int .i64 0) := (blk_cell BK180.out 2).trans rfl; have hcz27_3 : w26.cell? ⟨gb180, 3, none⟩ = some (.slice none 0 0) := (blk_cell BK180.out 3).trans rfl; have hcz27_4 : w26.cell? ⟨gb180, 4, none⟩ = some (.string (⟨#[]⟩ : ByteArray)) := (blk_cell BK180.out 4).trans rfl; have hcz27_5 : w26.cell? ⟨gb180, 5, none⟩ = some (.int .i64 0) := (blk_cell BK180.out 5).trans rfl; have hfz27_0 := blk_frozen BK180.out 0; have hfz27_1 := blk_frozen BK180.out 1; have hfz27_2 := blk_frozen BK180.out 2; have hfz27_3 := blk_frozen BK180.out 3; have hfz27_4 := blk_frozen BK180.out 4; have hfz27_5 := blk_frozen BK180.out 5) | ((with_reducible refine gate_callee (f := 9) rfl ?_); refine goesL_ (some 18) rfl rfl Tryd.func9 (by kernel_rfl) rfl #[.agg #[.int .i64 ((rd_T42 l1 x12_1).f0), .int .i64 ((rd_T42 l1 x12_1).f1.f0), .int .i64 ((rd_T42 l1 x12_1).f1.f1), .slice A179_3 ((rd_T42 l1 x12_1).f1.f2).length c179_3, .string ((rd_T42 l1 x12_1).f2), .int .i64 ((rd_T42 l1 x12_1).f3)]] rfl (by (try simp only [List.map_toArray, List.map_cons, List.map_nil]); first | done | rfl | (simp only [List.length_drop, List.length_take]; rfl)) ?_; (with_reducible refine (note_Ends.calls k1 ((rd_T42 l1 x12_1).f0) ((rd_T42 l1 x12_1).f1.f0) ((rd_T42 l1 x12_1).f1.f1) _ _ ((rd_T42 l1 x12_1).f1.f2) ((rd_T42 l1 x12_1).f2) ((rd_T42 l1 x12_1).f3) t181 t182 _ ?side1 ?side2 A6.out).mono ?_); (case side1 => exact Kd.C_below HR179_3.out (mvL1 HB.out GE180.out)); (case side2 => exact HC179_3.out); rintro e w28 ⟨rfl, hb⟩; refine ⟨_, rfl, ?_⟩; have n0_ := Aside0.mk (Kd.S_below (by (with_reducible repeat (first | apply Kd.S_alloc | apply Kd.S_drewN | apply Kd.S_drew)); exact (Kd.S_mono (Kd.S_far (p := ⟨gb180, 5, none⟩) (Kd.S_far (p := ⟨gb180, 4, none⟩) (Kd.S_far (p := ⟨gb180, 3, none⟩) (Kd.S_far (p := ⟨gb180, 2, none⟩) (Kd.S_far (p := ⟨gb180, 1, none⟩) (Kd.S_far (p := ⟨gb180, 0, none⟩) (Kd.S_mono HO_5.out (fun k_ hk => (⟨hk, hk.2⟩ : _ ∧ k_ ≠ gb180))) (fun _ hk => hk.2) (.int .i64 ((rd_T42 l1 x12_1).f0))) (fun _ hk => hk.2) (.int .i64 ((rd_T42 l1 x12_1).f1.f0))) (fun _ hk => hk.2) (.int .i64 ((rd_T42 l1 x12_1).f1.f1))) (fun _ hk => hk.2) (.slice A179_3 ((rd_T42 l1 x12_1).f1.f2).length c179_3)) (fun _ hk => hk.2) (.string ((rd_T42 l1 x12_1).f2))) (fun _ hk => hk.2) (.int .i64 ((rd_T42 l1 x12_1).f3))) (fun _ h_ => h_.1))) hb); have n1_ := Aside0.mk (blk_below (g := gb180) (o := .cells #[.int .i64 ((rd_T42 l1 x12_1).f0), .int .i64 ((rd_T42 l1 x12_1).f1.f0), .int .i64 ((rd_T42 l1 x12_1).f1.f1), .slice A179_3 ((rd_T42 l1 x12_1).f1.f2).length c179_3, .string ((rd_T42 l1 x12_1).f2), .int .i64 ((rd_T42 l1 x12_1).f3)] 42 (0, 0)) (by (with_reducible repeat (first | refine blk_drewN ?_ _ | refine blk_drew ?_ | refine blk_alloc ?_ _)); refine blk_put (cs := #[.int .i64 ((rd_T42 l1 x12_1).f0), .int .i64 ((rd_T42 l1 x12_1).f1.f0), .int .i64 ((rd_T42 l1 x12_1).f1.f1), .slice A179_3 ((rd_T42 l1 x12_1).f1.f2).length c179_3, .string ((rd_T42 l1 x12_1).f2), .int .i64 0]) ?_ 5 _ rfl; (with_reducible repeat (first | refine blk_drewN ?_ _ | refine blk_drew ?_ | refine blk_alloc ?_ _)); refine blk_put (cs := #[.int .i64 ((rd_T42 l1 x12_1).f0), .int .i64 ((rd_T42 l1 x12_1).f1.f0), .int .i64 ((rd_T42 l1 x12_1).f1.f1), .slice A179_3 ((rd_T42 l1 x12_1).f1.f2).length c179_3, .string (⟨#[]⟩ : ByteArray), .int .i64 0]) ?_ 4 _ rfl; (with_reducible repeat (first | refine blk_drewN ?_ _ | refine blk_drew ?_ | refine blk_alloc ?_ _)); refine blk_put (cs := #[.int .i64 ((rd_T42 l1 x12_1).f0), .int .i64 ((rd_T42 l1 x12_1).f1.f0), .int .i64 ((rd_T42 l1 x12_1).f1.f1), .slice none 0 0, .string (⟨#[]⟩ : ByteArray), .int .i64 0]) ?_ 3 _ rfl; (with_reducible repeat (first | refine blk_drewN ?_ _ | refine blk_drew ?_ | refine blk_alloc ?_ _)); refine blk_put (cs := #[.int .i64 ((rd_T42 l1 x12_1).f0), .int .i64 ((rd_T42 l1 x12_1).f1.f0), .int .i64 0, .slice none 0 0, .string (⟨#[]⟩ : ByteArray), .int .i64 0]) ?_ 2 _ rfl; (with_reducible repeat (first | refine blk_drewN ?_ _ | refine blk_drew ?_ | refine blk_alloc ?_ _)); refine blk_put (cs := #[.int .i64 ((rd_T42 l1 x12_1).f0), .int .i64 0, .int .i64 0, .slice none 0 0, .string (⟨#[]⟩ : ByteArray), .int .i64 0]) ?_ 1 _ rfl; (with_reducible repeat (first | refine blk_drewN ?_ _ | refine blk_drew ?_ | refine blk_alloc ?_ _)); refine blk_put (cs := #[.int .i64 0, .int .i64 0, .int .i64 0, .slice none 0 0, .string (⟨#[]⟩ : ByteArray), .int .i64 0]) ?_ 0 _ rfl; (with_reducible repeat (first | refine blk_drewN ?_ _ | refine blk_drew ?_ | refine blk_alloc ?_ _)); exact BK180.out) hb); have n2_ := Aside0.mk (below_step (mvL1 HB.out GE180.out) hb); clear HO_5; clear BK180; clear HB; have HO_5 := n0_; have BK180 := n1_; have HB := n2_; clear n0_ n1_ n2_; (try clear hb); (try clear hb2); (try clear hk); (try clear hi); have hcz29_0 : w28.cell? ⟨gb180, 0, none⟩ = some (.int .i64 ((rd_T42 l1 x12_1).f0)) := (blk_cell BK180.out 0).trans rfl; have hcz29_1 : w28.cell? ⟨gb180, 1, none⟩ = some (.int .i64 ((rd_T42 l1 x12_1).f1.f0)) := (blk_cell BK180.out 1).trans rfl; have hcz29_2 : w28.cell? ⟨gb180, 2, none⟩ = some (.int .i64 ((rd_T42 l1 x12_1).f1.f1)) := (blk_cell BK180.out 2).trans rfl; have hcz29_3 : w28.cell? ⟨gb180, 3, none⟩ = some (.slice A179_3 ((rd_T42 l1 x12_1).f1.f2).length c179_3) := (blk_cell BK180.out 3).trans rfl; have hcz29_4 : w28.cell? ⟨gb180, 4, none⟩ = some (.string ((rd_T42 l1 x12_1).f2)) := (blk_cell BK180.out 4).trans rfl; have hcz29_5 : w28.cell? ⟨gb180, 5, none⟩ = some (.int .i64 ((rd_T42 l1 x12_1).f3)) := (blk_cell BK180.out 5).trans rfl; have hfz29_0 := blk_frozen BK180.out 0; have hfz29_1 := blk_frozen BK180.out 1; have hfz29_2 := blk_frozen BK180.out 2; have hfz29_3 := blk_frozen BK180.out 3; have hfz29_4 := blk_frozen BK180.out 4; have hfz29_5 := blk_frozen BK180.out 5) | ((with_reducible refine gate_callee (f := 10) rfl ?_); refine goesL_ (some 22) rfl rfl Tryd.func10 (by kernel_rfl) rfl #[.agg #[.int .i64 ((rd_T42 l1 x12_1).f0), .int .i64 ((rd_T42 l1 x12_1).f1.f0), .int .i64 ((rd_T42 l1 x12_1).f1.f1), .slice A179_3 ((rd_T42 l1 x12_1).f1.f2).length c179_3, .string ((rd_T42 l1 x12_1).f2), .int .i64 ((rd_T42 l1 x12_1).f3)]] rfl (by (try simp only [List.map_toArray, List.map_cons, List.map_nil]); first | done | rfl | (simp only [List.length_drop, List.length_take]; rfl)) ?_; (with_reducible refine (note_Check.calls ((rd_T42 l1 x12_1).f0) ((rd_T42 l1 x12_1).f1.f0) ((rd_T42 l1 x12_1).f1.f1) _ _ ((rd_T42 l1 x12_1).f1.f2) ((rd_T42 l1 x12_1).f2) ((rd_T42 l1 x12_1).f3) t183 _ ?side1 ?side2 A7.out).mono ?_); (case side1 => repeat (first | exact (Kd.C_below HR179_3.out HB.out) | (with_reducible refine Kd.C_alloc ?_ _) | (with_reducible refine Kd.C_drewN ?_ _) | (with_reducible refine Kd.C_drew ?_))); (case side2 => exact HC179_3.out); rintro e w30 ⟨rfl, hb⟩; refine ⟨_, rfl, ?_⟩; have n0_ := Aside0.mk (Kd.S_below (mvS HO_5.out) hb); have n1_ := Aside0.mk (blk_below (g := gb180) (o := .cells #[.int .i64 ((rd_T42 l1 x12_1).f0), .int .i64 ((rd_T42 l1 x12_1).f1.f0), .int .i64 ((rd_T42 l1 x12_1).f1.f1), .slice A179_3 ((rd_T42 l1 x12_1).f1.f2).length c179_3, .string ((rd_T42 l1 x12_1).f2), .int .i64 ((rd_T42 l1 x12_1).f3)] 42 (0, 0)) (mvB BK180.out) hb); have n2_ := Aside0.mk (below_step (mvL1 HB.out GE180.out) hb); clear HO_5; clear BK180; clear HB; have HO_5 := n0_; have BK180 := n1_; have HB := n2_; clear n0_ n1_ n2_; (try clear hb); (try clear hb2); (try clear hk); (try clear hi)))
        go_roundg k1
        case measure => have := HK1.out; omega
        case rel => exact ⟨(x5_1), (wrap64 (x12_1 + 1)), (by first | rfl | (simp; done) | (simp [*]; done)), H', ⟨by have := HK1.out; omega⟩, ⟨by (with_reducible repeat (first | apply Kd.S_alloc | apply Kd.S_drewN | apply Kd.S_drew)); exact Kd.S_mono HO_5.out (fun _ hk => trivial)⟩, ⟨by repeat (first | (with_reducible first | exact HB.out | apply below_alloc | apply pw_below_drewN | apply below_drew1 | refine below_set ?_ GE180.out) | exact HB.out)⟩⟩
      ·rw [if_neg c8] at H
       have c8b0 : (t183 == 0) = false := beq_eq_false_iff_ne.mpr c8
       have c8b1 : (t183 != 0) = true := bne_iff_ne.mpr c8
       have H' := Aside0.mk H
       clear H
       have p179 : 0 ≤ (x12_1 : Int) := of_decide_eq_true (by first | (with_reducible assumption) | assumption)
       have q179 : x12_1 < (l1.length : Int) := of_decide_eq_true (by first | (with_reducible assumption) | assumption)
       obtain ⟨ad179, A179_3, c179_3, e179, hx179_0, hx179_1, hx179_2, hx179_3, hx179_4, hx179_5, hl179_3, hi179_3⟩ := at_T42 HR1.out x12_1 p179 q179
       cases e179
       replace hx179_0 := (HB.out.cell (World.block_lt_of_cell? w _ hx179_0)).trans hx179_0
       replace hx179_1 := (HB.out.cell (World.block_lt_of_cell? w _ hx179_1)).trans hx179_1
       replace hx179_2 := (HB.out.cell (World.block_lt_of_cell? w _ hx179_2)).trans hx179_2
       replace hx179_3 := (HB.out.cell (World.block_lt_of_cell? w _ hx179_3)).trans hx179_3
       replace hx179_4 := (HB.out.cell (World.block_lt_of_cell? w _ hx179_4)).trans hx179_4
       replace hx179_5 := (HB.out.cell (World.block_lt_of_cell? w _ hx179_5)).trans hx179_5
       have HR179_3 := Aside0.mk hi179_3
       have HC179_3 := Aside0.mk hl179_3
       clear hi179_3 hl179_3
       replace p179 := eq_true p179
       replace q179 := eq_true q179
       go_wp2_with (first | ((with_reducible refine gate_dst (N := 7) rfl ?_); refine box_event ?hg (N := 7) ?hd (cs := #[.int .i64 0, .int .i64 0, .int .i64 0, .slice none 0 0, .string (⟨#[]⟩ : ByteArray), .int .i64 0]) (t := 42) ?hr ?_; (case hd => rfl); (case hg => rfl); (case hr => first | (go_simp; done) | (go_simp; rfl)); intro gb180 hg w31 hbox hb; have n0_ := Aside0.mk (Kd.S_below (Kd.S_elderB (mvS HO_5.out) gb180 (Nat.le_of_eq hg.symm)) hb); have n1_ := Aside0.mk (below_step (mvL0 HB.out) hb); have n2_ := Aside0.mk (hbox); have n3_ := Aside0.mk ((by rw [hg]; exact (below_size (mvL0 HB.out)) : w.heap.size ≤ gb180)); have n4_ := Aside0.mk ((by rw [hg]; exact (below_size (mvL0 HB.out)) : w.heap.size ≤ gb180)); clear HO_5; clear HB; have HO_5 := n0_; have HB := n1_; have BK180 := n2_; have GW180 := n3_; have GE180 := n4_; clear n0_ n1_ n2_ n3_ n4_; clear hb hbox hg; have hcz32_0 : w31.cell? ⟨gb180, 0, none⟩ = some (.int .i64 0) := (blk_cell BK180.out 0).trans rfl; have hcz32_1 : w31.cell? ⟨gb180, 1, none⟩ = some (.int .i64 0) := (blk_cell BK180.out 1).trans rfl; have hcz32_2 : w31.cell? ⟨gb180, 2, none⟩ = some (.int .i64 0) := (blk_cell BK180.out 2).trans rfl; have hcz32_3 : w31.cell? ⟨gb180, 3, none⟩ = some (.slice none 0 0) := (blk_cell BK180.out 3).trans rfl; have hcz32_4 : w31.cell? ⟨gb180, 4, none⟩ = some (.string (⟨#[]⟩ : ByteArray)) := (blk_cell BK180.out 4).trans rfl; have hcz32_5 : w31.cell? ⟨gb180, 5, none⟩ = some (.int .i64 0) := (blk_cell BK180.out 5).trans rfl; have hfz32_0 := blk_frozen BK180.out 0; have hfz32_1 := blk_frozen BK180.out 1; have hfz32_2 := blk_frozen BK180.out 2; have hfz32_3 := blk_frozen BK180.out 3; have hfz32_4 := blk_frozen BK180.out 4; have hfz32_5 := blk_frozen BK180.out 5) | ((with_reducible refine gate_callee (f := 9) rfl ?_); refine goesL_ (some 18) rfl rfl Tryd.func9 (by kernel_rfl) rfl #[.agg #[.int .i64 ((rd_T42 l1 x12_1).f0), .int .i64 ((rd_T42 l1 x12_1).f1.f0), .int .i64 ((rd_T42 l1 x12_1).f1.f1), .slice A179_3 ((rd_T42 l1 x12_1).f1.f2).length c179_3, .string ((rd_T42 l1 x12_1).f2), .int .i64 ((rd_T42 l1 x12_1).f3)]] rfl (by (try simp only [List.map_toArray, List.map_cons, List.map_nil]); first | done | rfl | (simp only [List.length_drop, List.length_take]; rfl)) ?_; (with_reducible refine (note_Ends.calls k1 ((rd_T42 l1 x12_1).f0) ((rd_T42 l1 x12_1).f1.f0) ((rd_T42 l1 x12_1).f1.f1) _ _ ((rd_T42 l1 x12_1).f1.f2) ((rd_T42 l1 x12_1).f2) ((rd_T42 l1 x12_1).f3) t181 t182 _ ?side1 ?side2 A6.out).mono ?_); (case side1 => exact Kd.C_below HR179_3.out (mvL1 HB.out GE180.out)); (case side2 => exact HC179_3.out); rintro e w33 ⟨rfl, hb⟩; refine ⟨_, rfl, ?_⟩; have n0_ := Aside0.mk (Kd.S_below (by (with_reducible repeat (first | apply Kd.S_alloc | apply Kd.S_drewN | apply Kd.S_drew)); exact (Kd.S_mono (Kd.S_far (p := ⟨gb180, 5, none⟩) (Kd.S_far (p := ⟨gb180, 4, none⟩) (Kd.S_far (p := ⟨gb180, 3, none⟩) (Kd.S_far (p := ⟨gb180, 2, none⟩) (Kd.S_far (p := ⟨gb180, 1, none⟩) (Kd.S_far (p := ⟨gb180, 0, none⟩) (Kd.S_mono HO_5.out (fun k_ hk => (⟨hk, hk.2⟩ : _ ∧ k_ ≠ gb180))) (fun _ hk => hk.2) (.int .i64 ((rd_T42 l1 x12_1).f0))) (fun _ hk => hk.2) (.int .i64 ((rd_T42 l1 x12_1).f1.f0))) (fun _ hk => hk.2) (.int .i64 ((rd_T42 l1 x12_1).f1.f1))) (fun _ hk => hk.2) (.slice A179_3 ((rd_T42 l1 x12_1).f1.f2).length c179_3)) (fun _ hk => hk.2) (.string ((rd_T42 l1 x12_1).f2))) (fun _ hk => hk.2) (.int .i64 ((rd_T42 l1 x12_1).f3))) (fun _ h_ => h_.1))) hb); have n1_ := Aside0.mk (blk_below (g := gb180) (o := .cells #[.int .i64 ((rd_T42 l1 x12_1).f0), .int .i64 ((rd_T42 l1 x12_1).f1.f0), .int .i64 ((rd_T42 l1 x12_1).f1.f1), .slice A179_3 ((rd_T42 l1 x12_1).f1.f2).length c179_3, .string ((rd_T42 l1 x12_1).f2), .int .i64 ((rd_T42 l1 x12_1).f3)] 42 (0, 0)) (by (with_reducible repeat (first | refine blk_drewN ?_ _ | refine blk_drew ?_ | refine blk_alloc ?_ _)); refine blk_put (cs := #[.int .i64 ((rd_T42 l1 x12_1).f0), .int .i64 ((rd_T42 l1 x12_1).f1.f0), .int .i64 ((rd_T42 l1 x12_1).f1.f1), .slice A179_3 ((rd_T42 l1 x12_1).f1.f2).length c179_3, .string ((rd_T42 l1 x12_1).f2), .int .i64 0]) ?_ 5 _ rfl; (with_reducible repeat (first | refine blk_drewN ?_ _ | refine blk_drew ?_ | refine blk_alloc ?_ _)); refine blk_put (cs := #[.int .i64 ((rd_T42 l1 x12_1).f0), .int .i64 ((rd_T42 l1 x12_1).f1.f0), .int .i64 ((rd_T42 l1 x12_1).f1.f1), .slice A179_3 ((rd_T42 l1 x12_1).f1.f2).length c179_3, .string (⟨#[]⟩ : ByteArray), .int .i64 0]) ?_ 4 _ rfl; (with_reducible repeat (first | refine blk_drewN ?_ _ | refine blk_drew ?_ | refine blk_alloc ?_ _)); refine blk_put (cs := #[.int .i64 ((rd_T42 l1 x12_1).f0), .int .i64 ((rd_T42 l1 x12_1).f1.f0), .int .i64 ((rd_T42 l1 x12_1).f1.f1), .slice none 0 0, .string (⟨#[]⟩ : ByteArray), .int .i64 0]) ?_ 3 _ rfl; (with_reducible repeat (first | refine blk_drewN ?_ _ | refine blk_drew ?_ | refine blk_alloc ?_ _)); refine blk_put (cs := #[.int .i64 ((rd_T42 l1 x12_1).f0), .int .i64 ((rd_T42 l1 x12_1).f1.f0), .int .i64 0, .slice none 0 0, .string (⟨#[]⟩ : ByteArray), .int .i64 0]) ?_ 2 _ rfl; (with_reducible repeat (first | refine blk_drewN ?_ _ | refine blk_drew ?_ | refine blk_alloc ?_ _)); refine blk_put (cs := #[.int .i64 ((rd_T42 l1 x12_1).f0), .int .i64 0, .int .i64 0, .slice none 0 0, .string (⟨#[]⟩ : ByteArray), .int .i64 0]) ?_ 1 _ rfl; (with_reducible repeat (first | refine blk_drewN ?_ _ | refine blk_drew ?_ | refine blk_alloc ?_ _)); refine blk_put (cs := #[.int .i64 0, .int .i64 0, .int .i64 0, .slice none 0 0, .string (⟨#[]⟩ : ByteArray), .int .i64 0]) ?_ 0 _ rfl; (with_reducible repeat (first | refine blk_drewN ?_ _ | refine blk_drew ?_ | refine blk_alloc ?_ _)); exact BK180.out) hb); have n2_ := Aside0.mk (below_step (mvL1 HB.out GE180.out) hb); clear HO_5; clear BK180; clear HB; have HO_5 := n0_; have BK180 := n1_; have HB := n2_; clear n0_ n1_ n2_; (try clear hb); (try clear hb2); (try clear hk); (try clear hi); have hcz34_0 : w33.cell? ⟨gb180, 0, none⟩ = some (.int .i64 ((rd_T42 l1 x12_1).f0)) := (blk_cell BK180.out 0).trans rfl; have hcz34_1 : w33.cell? ⟨gb180, 1, none⟩ = some (.int .i64 ((rd_T42 l1 x12_1).f1.f0)) := (blk_cell BK180.out 1).trans rfl; have hcz34_2 : w33.cell? ⟨gb180, 2, none⟩ = some (.int .i64 ((rd_T42 l1 x12_1).f1.f1)) := (blk_cell BK180.out 2).trans rfl; have hcz34_3 : w33.cell? ⟨gb180, 3, none⟩ = some (.slice A179_3 ((rd_T42 l1 x12_1).f1.f2).length c179_3) := (blk_cell BK180.out 3).trans rfl; have hcz34_4 : w33.cell? ⟨gb180, 4, none⟩ = some (.string ((rd_T42 l1 x12_1).f2)) := (blk_cell BK180.out 4).trans rfl; have hcz34_5 : w33.cell? ⟨gb180, 5, none⟩ = some (.int .i64 ((rd_T42 l1 x12_1).f3)) := (blk_cell BK180.out 5).trans rfl; have hfz34_0 := blk_frozen BK180.out 0; have hfz34_1 := blk_frozen BK180.out 1; have hfz34_2 := blk_frozen BK180.out 2; have hfz34_3 := blk_frozen BK180.out 3; have hfz34_4 := blk_frozen BK180.out 4; have hfz34_5 := blk_frozen BK180.out 5) | ((with_reducible refine gate_callee (f := 10) rfl ?_); refine goesL_ (some 22) rfl rfl Tryd.func10 (by kernel_rfl) rfl #[.agg #[.int .i64 ((rd_T42 l1 x12_1).f0), .int .i64 ((rd_T42 l1 x12_1).f1.f0), .int .i64 ((rd_T42 l1 x12_1).f1.f1), .slice A179_3 ((rd_T42 l1 x12_1).f1.f2).length c179_3, .string ((rd_T42 l1 x12_1).f2), .int .i64 ((rd_T42 l1 x12_1).f3)]] rfl (by (try simp only [List.map_toArray, List.map_cons, List.map_nil]); first | done | rfl | (simp only [List.length_drop, List.length_take]; rfl)) ?_; (with_reducible refine (note_Check.calls ((rd_T42 l1 x12_1).f0) ((rd_T42 l1 x12_1).f1.f0) ((rd_T42 l1 x12_1).f1.f1) _ _ ((rd_T42 l1 x12_1).f1.f2) ((rd_T42 l1 x12_1).f2) ((rd_T42 l1 x12_1).f3) t183 _ ?side1 ?side2 A7.out).mono ?_); (case side1 => repeat (first | exact (Kd.C_below HR179_3.out HB.out) | (with_reducible refine Kd.C_alloc ?_ _) | (with_reducible refine Kd.C_drewN ?_ _) | (with_reducible refine Kd.C_drew ?_))); (case side2 => exact HC179_3.out); rintro e w35 ⟨rfl, hb⟩; refine ⟨_, rfl, ?_⟩; have n0_ := Aside0.mk (Kd.S_below (mvS HO_5.out) hb); have n1_ := Aside0.mk (blk_below (g := gb180) (o := .cells #[.int .i64 ((rd_T42 l1 x12_1).f0), .int .i64 ((rd_T42 l1 x12_1).f1.f0), .int .i64 ((rd_T42 l1 x12_1).f1.f1), .slice A179_3 ((rd_T42 l1 x12_1).f1.f2).length c179_3, .string ((rd_T42 l1 x12_1).f2), .int .i64 ((rd_T42 l1 x12_1).f3)] 42 (0, 0)) (mvB BK180.out) hb); have n2_ := Aside0.mk (below_step (mvL1 HB.out GE180.out) hb); clear HO_5; clear BK180; clear HB; have HO_5 := n0_; have BK180 := n1_; have HB := n2_; clear n0_ n1_ n2_; (try clear hb); (try clear hb2); (try clear hk); (try clear hi)))
       go_roundg k1
       case measure => have := HK1.out; omega
       case rel => exact ⟨(x5_1), (wrap64 (x12_1 + 1)), (by first | rfl | (simp; done) | (simp [*]; done)), H', ⟨by have := HK1.out; omega⟩, ⟨by (with_reducible repeat (first | apply Kd.S_alloc | apply Kd.S_drewN | apply Kd.S_drew)); exact Kd.S_mono HO_5.out (fun _ hk => trivial)⟩, ⟨by repeat (first | (with_reducible first | exact HB.out | apply below_alloc | apply pw_below_drewN | apply below_drew1 | refine below_set ?_ GE180.out) | exact HB.out)⟩⟩
     ·rw [if_neg c5] at H
      exact absurd H (by simp)
    ·rw [if_neg c4] at H
     exact absurd H (by simp)
   ·rw [if_neg c3] at H
    have c3b0 : decide (x12_1 < (l1.length : Int)) = false := decide_eq_false c3
    clear c3
    obtain rfl := Option.some.inj H
    go_wp2
    go_ret
    exact ⟨_, by first | rfl | (simp [errW_none, errW_some] <;> rfl) | (simp [*, errW_none, errW_some] <;> rfl) | (simp only [h_bne_nil, h_beq_nil] <;> rfl), by (with_reducible repeat (first | apply Kd.S_alloc | apply Kd.S_drewN | apply Kd.S_drew)); exact HO_5.out, by repeat (first | (with_reducible first | exact HB.out | apply below_alloc | apply pw_below_drewN | apply below_drew1) | exact HB.out)⟩

/-! ### ententelaw27_awake: function 6, by hand -/
/-! what the printed loops over an id's path come to -/
theorem path_l0 (l : List S69) (hl : l.length ≤ 1000) : ∀ (d k : Nat) (acc : List Int) (i : Nat), i + d = l.length → d < k → acc.length + d ≤ 1000 → ident_path.l0 k acc l (l.length : Int) (i : Int) = some (acc ++ (l.drop i).map (fun h => h.f1)) := by
 intro d
 induction d with
 | zero =>
  intro k acc i hi hk ha
  obtain ⟨k, rfl⟩ : ∃ m, k = m + 1 := ⟨k - 1, by omega⟩
  simp only [ident_path.l0]
  rw [if_neg (by omega), List.drop_of_length_le (by omega)]
  simp
 | succ d ih =>
  intro k acc i hi hk ha
  obtain ⟨k, rfl⟩ : ∃ m, k = m + 1 := ⟨k - 1, by omega⟩
  have hlt : i < l.length := by omega
  simp only [ident_path.l0]
  rw [if_pos (by omega), if_pos (by omega), if_pos (by omega), if_pos (by omega), wrap_up (by omega) (by omega), show ((i : Int) + 1) = ((i + 1 : Nat) : Int) by omega, ih k _ (i + 1) (by omega) (by omega) (by simp; omega), List.drop_eq_getElem_cons hlt]
  have e : rd_T69 l (i : Int) = l[i] := by unfold rd_T69; rw [Int.toNat_natCast, List.getD_eq_getElem?_getD, List.getElem?_eq_getElem hlt]; rfl
  rw [e]
  simp only [List.map_cons, List.append_assoc, List.cons_append, List.nil_append]
theorem path_f (k : Nat) (a b : Int) (l : List S69) (hk : l.length < k) (hl : l.length ≤ 999) : ident_path.f k a b l = some (pathL a l) := by
 unfold ident_path.f
 have h := path_l0 l (by omega) l.length k [a] 0 (by omega) hk (by simp; omega)
 rw [List.drop_zero] at h
 exact h
/-- Where a saga lives. -/
def orgOf (a b : Int) (l : List S69) : Int := if idOk a b l = true then rd (pathL a l) (l.length : Int) else -1
theorem idOk_len {a b : Int} {l : List S69} (h : idOk a b l = true) : l.length ≤ 4 := by
 simp [idOk] at h
 omega
theorem Org_f (k : Nat) (a b : Int) (l : List S69) (hk : 4 < k) : ident_Org.f k a b l = some (orgOf a b l) := by
 unfold ident_Org.f ident_Check.f orgOf
 simp only [Option.bind_some]
 by_cases h : idOk a b l = true
 ·have hl := idOk_len h
  have hp : (pathL a l).length = l.length + 1 := by simp [pathL]
  rw [if_pos h, if_pos rfl, path_f k a b l (by omega) (by omega), if_pos h]
  simp only [Option.bind_some]
  rw [hp, show wrap64 (((l.length + 1 : Nat) : Int) - 1) = (l.length : Int) by unfold wrap64; omega, if_pos (by omega), if_pos (by omega)]
 ·rw [if_neg h, if_neg (by omega), if_neg h]
def awHotel : ByteArray := ⟨#[104, 111, 116, 101, 108]⟩
def awSaga : S50 := ⟨⟨0, 1, []⟩, ⟨⟨#[116, 114, 105, 112]⟩, [⟨⟨0, ⟨#[]⟩, 0⟩, 3, ⟨#[104, 111, 116, 101, 108]⟩, 0, 9⟩]⟩, 1, 0, [⟨1, 0⟩], false⟩
theorem aw_name1 : nameOk ⟨#[116, 114, 105, 112]⟩ = true := by decide
theorem aw_name2 : nameOk ⟨#[104, 111, 116, 101, 108]⟩ = true := by decide
theorem aw_ok : sagaOk awSaga = true := by
 have ha : askAt awSaga 0 = true := by show askS _ = true; rw [askS_iff]; decide
 have h1 : idOk 0 1 ([] : List S69) = true := by decide
 have h2 : defOk ⟨#[116, 114, 105, 112]⟩ awSaga.f1.f1 = true := by decide
 have h3 : allP awSaga (partOk awSaga) = true := by
  show (List.range 1).all _ = true
  simp only [List.range_succ, List.range_zero, List.nil_append, List.all_cons, List.all_nil, Bool.and_true]
  unfold partOk
  rw [ha]
  decide
 have h4 : fitsOk awSaga = true := by
  unfold fitsOk
  rw [if_pos (show awSaga.f2 = 1 from rfl)]
  have hg : gotLen awSaga = 0 := by
   show gotN awSaga 1 0 = 0
   unfold gotN
   unfold gotAt
   rw [ha]
   decide
  unfold runOk
  rw [hg]
  unfold tailOk
  show (!false && decide ((0 : Int) = 0) && (List.range' 0 1).all _) = true
  simp only [List.range'_succ, List.range'_zero, List.all_cons, List.all_nil, Bool.and_true]
  unfold tailAt
  rw [ha]
  decide
 unfold sagaOk
 show (idOk 0 1 [] && if awSaga.f2 = 7 then _ else _) = true
 rw [h1, if_neg (by decide), show defOk awSaga.f1.f0 awSaga.f1.f1 = true from h2, h3, h4]
 decide
theorem aw_notes : notesOf awSaga = [⟨1, ⟨0, 1, [⟨0, 3⟩]⟩, ⟨#[104, 111, 116, 101, 108]⟩, 0⟩] := by
 have ha : askAt awSaga 0 = true := by show askS _ = true; rw [askS_iff]; decide
 have hk : dueKids awSaga 1 = [(0, 0, 1, [⟨0, 3⟩])] := by
  unfold dueKids
  simp only [List.range_succ, List.range_zero, List.nil_append, List.filterMap_cons, List.filterMap_nil]
  unfold dueKid dueKidOk
  rw [ha]
  rfl
 unfold notesOf
 rw [show awSaga.f1.f1.length = 1 from rfl, hk]
 have ho : owedAt awSaga 0 = 1 := by unfold owedAt; rw [if_pos (show awSaga.f2 = 1 from rfl)]; rfl
 have ht : (tellOf awSaga).2.2.2.2.2.2 = false := by
  unfold tellOf
  rw [aw_ok]
  rfl
 rw [ht]
 simp only [List.flatMap_cons, List.flatMap_nil, dueNote, ho]
 rfl
def awNote : S42 := ⟨1, ⟨0, 1, [⟨0, 3⟩]⟩, ⟨#[104, 111, 116, 101, 108]⟩, 0⟩
theorem aw_Of (k : Nat) (hk : 4 < k) : dues_Of.f k 0 0 0 [] [] [] [] 0 1 [] ⟨#[116, 114, 105, 112]⟩ [⟨⟨0, ⟨#[]⟩, 0⟩, 3, ⟨#[104, 111, 116, 101, 108]⟩, 0, 9⟩] 1 0 [⟨1, 0⟩] false = some [awNote] := by
 unfold dues_Of.f
 rw [show saga_May.f 0 1 [] ⟨#[116, 114, 105, 112]⟩ [⟨⟨0, ⟨#[]⟩, 0⟩, 3, ⟨#[104, 111, 116, 101, 108]⟩, 0, 9⟩] 1 0 [⟨1, 0⟩] false = some (if sagaOk awSaga = true then 0 else 230) from rfl, if_pos aw_ok]
 simp only [Option.bind_some, if_true]
 rw [Org_f k _ _ _ hk, show orgOf 0 1 [] = 0 by kernel_rfl]
 simp only [Option.bind_some, if_true]
 rw [show dues_of.f 0 1 [] ⟨#[116, 114, 105, 112]⟩ [⟨⟨0, ⟨#[]⟩, 0⟩, 3, ⟨#[104, 111, 116, 101, 108]⟩, 0, 9⟩] 1 0 [⟨1, 0⟩] false = some (notesOf awSaga) from rfl, aw_notes]
 rfl
theorem aw_check : note_Check.f 1 0 1 [⟨0, 3⟩] ⟨#[104, 111, 116, 101, 108]⟩ 0 = some 0 := by
 unfold note_Check.f
 rw [show noteOk 1 0 1 [⟨0, 3⟩] ⟨#[104, 111, 116, 101, 108]⟩ 0 = true by decide, if_pos rfl]
theorem aw_Ends (k : Nat) (hk : 4 < k) : note_Ends.f k 1 0 1 [⟨0, 3⟩] ⟨#[104, 111, 116, 101, 108]⟩ 0 = some (0, 3) := by
 unfold note_Ends.f
 rw [aw_check, show ident_Parent.f 0 1 [⟨0, 3⟩] = some (0, 1, [], 0, true) by kernel_rfl]
 simp only [Option.bind_some, if_true]
 rw [if_pos (by omega), Org_f k _ _ _ hk, Org_f k _ _ _ hk, show orgOf 0 1 [] = 0 by kernel_rfl, show orgOf 0 1 [⟨0, 3⟩] = 3 by kernel_rfl]
 rfl
theorem aw_To (k : Nat) (p : Int) (hk : 6 < k) : dues_To.f k p [awNote] = some (if p = 3 then [awNote] else []) := by
 obtain ⟨k, rfl⟩ : ∃ m, k = m + 2 := ⟨k - 2, by omega⟩
 unfold dues_To.f
 rw [dues_To.l0]
 rw [if_pos (by decide), if_pos (by decide), if_pos (by decide)]
 rw [show rd_T42 [awNote] 0 = awNote from rfl]
 rw [show note_Ends.f (k + 1) awNote.f0 awNote.f1.f0 awNote.f1.f1 awNote.f1.f2 awNote.f2 awNote.f3 = some (0, 3) from aw_Ends (k + 1) (by omega), show note_Check.f awNote.f0 awNote.f1.f0 awNote.f1.f1 awNote.f1.f2 awNote.f2 awNote.f3 = some 0 from aw_check]
 simp only [Option.bind_some, if_true]
 have hw1 : wrap64 (0 + 1) = 1 := by unfold wrap64; omega
 by_cases hp : p = 3
 ·subst hp
  rw [if_pos rfl, if_pos (by decide), if_pos (by decide), hw1, dues_To.l0, if_neg (by decide)]
  rfl
 ·rw [if_neg (fun h => hp h.symm), hw1, dues_To.l0, if_neg (by decide), if_neg hp]
theorem one_C {α : Type} {d : Kd α} {w : World} {b : Nat} {cs : List Value} {t : TypeId} {x : α} (h : w.heap[b]? = some (Obj.cells cs.toArray t)) (hs : cs.length = d.sz) (hk : d.K w x cs) : d.C w (some ⟨b, 0, none⟩) 1 [x] := by
 refine ⟨rfl, by decide, fun _ => ⟨_, rfl, fun j p hj => ?_⟩⟩
 have hj1 := (List.getElem?_eq_some_iff.1 hj).1
 have : j = 0 := by simp at hj1; omega
 subst this
 simp at hj
 subst hj
 refine ⟨cs, hs, hk, fun i u hu => ?_⟩
 rw [Nat.zero_mul, Nat.zero_add]
 have e : (⟨b, 0, none⟩ : Addr).add i = ⟨b, i, none⟩ := by unfold Addr.add; split <;> simp_all
 rw [e]
 exact (blk_cell h i).trans (by simpa using hu)
set_option maxHeartbeats 2000000 in
set_option maxRecDepth 100000 in
theorem ententelaw27_awake.at (w : World) : Calls Tryd.prog 6 #[] w (fun e W' => e = .returned (.bool true) ∧ Below w.heap.size w W') := by
 go_enter Tryd.func6, Tryd.ntmps6
 go_wp2_with (fail)
 have hC4 : k60.C ((((w.alloc (Obj.cells #[.int .i64 0, .string ⟨#[]⟩, .int .i64 0, .int .i64 3, .string ⟨#[104, 111, 116, 101, 108]⟩, .int .i64 0, .int .i64 9] 60)).alloc (Obj.cells #[.string ⟨#[116, 114, 105, 112]⟩, .slice (some ⟨w.heap.size, 0, none⟩) 1 1] 47)).alloc (Obj.cells #[.int .i64 1, .int .i64 0] 62)).alloc (Obj.cells #[.int .i64 0, .int .i64 1, .slice none 0 0, .string ⟨#[116, 114, 105, 112]⟩, .slice (some ⟨w.heap.size, 0, none⟩) 1 1, .int .i64 1, .int .i64 0, .slice (some ⟨w.heap.size + 1 + 1, 0, none⟩) 1 1, .bool false] 50)) (some ⟨w.heap.size, 0, none⟩) 1 [⟨⟨0, ⟨#[]⟩, 0⟩, 3, ⟨#[104, 111, 116, 101, 108]⟩, 0, 9⟩] :=
  one_C (cs := [.int .i64 0, .string ⟨#[]⟩, .int .i64 0, .int .i64 3, .string ⟨#[104, 111, 116, 101, 108]⟩, .int .i64 0, .int .i64 9]) (blk_alloc (blk_alloc (blk_alloc (blk_new _ _) _) _) _) rfl (k60_mk _ ⟨⟨0, ⟨#[]⟩, 0⟩, 3, ⟨#[104, 111, 116, 101, 108]⟩, 0, 9⟩)
 have hC7 := one_C (d := k62) (x := (⟨1, 0⟩ : S62)) (cs := [.int .i64 1, .int .i64 0]) (blk_alloc (blk_new ((w.alloc (Obj.cells #[.int .i64 0, .string ⟨#[]⟩, .int .i64 0, .int .i64 3, .string ⟨#[104, 111, 116, 101, 108]⟩, .int .i64 0, .int .i64 9] 60)).alloc (Obj.cells #[.string ⟨#[116, 114, 105, 112]⟩, .slice (some ⟨w.heap.size, 0, none⟩) 1 1] 47)) (Obj.cells #[.int .i64 1, .int .i64 0] 62)) (Obj.cells #[.int .i64 0, .int .i64 1, .slice none 0 0, .string ⟨#[116, 114, 105, 112]⟩, .slice (some ⟨w.heap.size, 0, none⟩) 1 1, .int .i64 1, .int .i64 0, .slice (some ⟨w.heap.size + 1 + 1, 0, none⟩) 1 1, .bool false] 50)) rfl (k62_mk _ ⟨1, 0⟩)
 simp only [World.size_alloc] at hC7
 have hB0 : Below w.heap.size w ((((w.alloc (Obj.cells #[.int .i64 0, .string ⟨#[]⟩, .int .i64 0, .int .i64 3, .string ⟨#[104, 111, 116, 101, 108]⟩, .int .i64 0, .int .i64 9] 60)).alloc (Obj.cells #[.string ⟨#[116, 114, 105, 112]⟩, .slice (some ⟨w.heap.size, 0, none⟩) 1 1] 47)).alloc (Obj.cells #[.int .i64 1, .int .i64 0] 62)).alloc (Obj.cells #[.int .i64 0, .int .i64 1, .slice none 0 0, .string ⟨#[116, 114, 105, 112]⟩, .slice (some ⟨w.heap.size, 0, none⟩) 1 1, .int .i64 1, .int .i64 0, .slice (some ⟨w.heap.size + 1 + 1, 0, none⟩) 1 1, .bool false] 50)) :=
  below_alloc (below_alloc (below_alloc (below_alloc (Below.refl _ _) _) _) _) _
 refine (dues_Of.calls 40 0 0 0 none 0 [] none 0 [] none 0 [] none 0 [] 0 1 none 0 [] ⟨#[116, 114, 105, 112]⟩ (some ⟨w.heap.size, 0, none⟩) 1 [⟨⟨0, ⟨#[]⟩, 0⟩, 3, ⟨#[104, 111, 116, 101, 108]⟩, 0, 9⟩] 1 0 (some ⟨w.heap.size + 1 + 1, 0, none⟩) 1 [⟨1, 0⟩] false [awNote] _ (Kd.C_nil _ _) (Nat.le_refl _) (Kd.C_nil _ _) (Nat.le_refl _) (Kd.C_nil _ _) (Nat.le_refl _) (Kd.C_nil _ _) (Nat.le_refl _) (Kd.C_nil _ _) (Nat.le_refl _) hC4 (Nat.le_refl _) hC7 (Nat.le_refl _) (aw_Of 40 (by omega))).mono ?_
 generalize ((((w.alloc (Obj.cells #[.int .i64 0, .string ⟨#[]⟩, .int .i64 0, .int .i64 3, .string ⟨#[104, 111, 116, 101, 108]⟩, .int .i64 0, .int .i64 9] 60)).alloc (Obj.cells #[.string ⟨#[116, 114, 105, 112]⟩, .slice (some ⟨w.heap.size, 0, none⟩) 1 1] 47)).alloc (Obj.cells #[.int .i64 1, .int .i64 0] 62)).alloc (Obj.cells #[.int .i64 0, .int .i64 1, .slice none 0 0, .string ⟨#[116, 114, 105, 112]⟩, .slice (some ⟨w.heap.size, 0, none⟩) 1 1, .int .i64 1, .int .i64 0, .slice (some ⟨w.heap.size + 1 + 1, 0, none⟩) 1 1, .bool false] 50)) = W0 at hB0 ⊢
 clear hC4 hC7
 rintro e w1 ⟨v0_, rfl, hS, hb⟩
 obtain ⟨g, cap, rfl, hg0, hg1, _, _⟩ := Kd.S_form hS (by decide)
 obtain ⟨A0, c0, he, hcl, hC⟩ := Kd.S_reads hS
 cases he
 have HB1 := Aside0.mk (below_step hB0 hb)
 have hC' : k42.C w1 (some ⟨g, 0, none⟩) 1 [awNote] := hC
 obtain ⟨ad, A3, c3, he, x0, x1, x2, x3, x4, x5, l3, h3⟩ := at_T42 hC' 0 (by omega) (by omega)
 cases he
 obtain ⟨ad3, he3, y0, y1⟩ := at_T69 h3 0 (by omega) (by decide)
 subst he3
 have HC := Aside0.mk hC'
 have HCL := Aside0.mk hcl
 clear hS hC hC' hcl h3 l3 x1 x2 x5 hb hB0
 simp only [Addr.add, Int.toNat_zero, Nat.zero_mul, Nat.zero_add, if_true] at x0 x3 x4 y0 y1
 change w1.cell? ⟨g, 0, none⟩ = some (.int .i64 1) at x0
 change w1.cell? ⟨g, 3, none⟩ = some (.slice (some ad3) 1 c3) at x3
 change w1.cell? ⟨g, 4, none⟩ = some (.string ⟨#[104, 111, 116, 101, 108]⟩) at x4
 change w1.cell? ad3 = some (.int .i64 0) at y0
 change w1.cell? ⟨ad3.block, ad3.off + 1, none⟩ = some (.int .i64 3) at y1
 have hbl : (⟨#[104, 111, 116, 101, 108]⟩ : ByteArray).toList = ([104, 111, 116, 101, 108] : List UInt8) := by rw [ByteArray.toList_eq]
 obtain ⟨sub, hsub⟩ : ∃ s, s = (⟨#[104, 111, 116, 101, 108]⟩ : ByteArray) := ⟨_, rfl⟩
 rw [← hsub] at x4 hbl
 clear hsub
 go_wp2_with (fail)
 all_goals first | (exfalso; rename_i hne; exact hne hbl) | skip
 refine (dues_To.calls 8 3 (some ⟨g, 0, none⟩) cap [awNote] [awNote] _ HC.out HCL.out (by rw [aw_To 8 3 (by omega)]; rfl)).mono ?_
 rintro e w2 ⟨v1, rfl, hS, hb⟩
 obtain ⟨A1, c1, he, _, _⟩ := Kd.S_reads hS
 obtain rfl : v1 = .slice A1 1 c1 := he
 have HB2 := Aside0.mk (below_step HB1.out hb)
 have HC2 := Aside0.mk (Kd.C_below HC.out hb)
 clear hS hb x0 x3 x4 y0 y1 hbl HC HB1
 go_wp2_with (fail)
 refine (dues_To.calls 8 2 (some ⟨g, 0, none⟩) cap [awNote] [] _ HC2.out HCL.out (by rw [aw_To 8 2 (by omega)]; rfl)).mono ?_
 rintro e w3 ⟨v2, rfl, hS, hb⟩
 obtain ⟨A2, c2, he, _, _⟩ := Kd.S_reads hS
 obtain rfl : v2 = .slice A2 0 c2 := he
 have HB3 := Aside0.mk (below_step HB2.out hb)
 clear hS hb HC2 HB2
 go_wp2_with (fail)
 refine (dues_All.calls (-1) 0 0 none 0 [] none 0 [] none 0 [] none 0 [] [] _ (Kd.C_nil _ _) (Nat.le_refl _) (Kd.C_nil _ _) (Nat.le_refl _) (Kd.C_nil _ _) (Nat.le_refl _) (Kd.C_nil _ _) (Nat.le_refl _) (by unfold dues_All.f; rw [if_pos (by omega)])).mono ?_
 rintro e w4 ⟨v3, rfl, hS, hb⟩
 obtain ⟨A3', c3', he, _, _⟩ := Kd.S_reads hS
 obtain rfl : v3 = .slice A3' 0 c3' := he
 have HB4 := Aside0.mk (below_step HB3.out hb)
 clear hS hb HB3
 go_wp2_with (fail)
 go_ret
 exact ⟨rfl, HB4.out⟩
def ententelaw27_awake.f  : Option Bool := some true
theorem ententelaw27_awake.calls  (r : Bool) (w : World) (h : ententelaw27_awake.f  = some r) :
  Calls Tryd.prog 6 #[] w fun e w' => e = .returned (.bool r) ∧ Below w.heap.size w w' := by
 unfold ententelaw27_awake.f at h
 obtain rfl := Option.some.inj h
 exact ententelaw27_awake.at w

/-! ### ententelaw21_Few: function 12 -/
def ententelaw21_Few.f (a0_0 : Int) (a0_1 : Int) (l0_2 : List (S69)) (a0_3 : ByteArray) (l0_4 : List (S60)) (a0_5 : Int) (a0_6 : Int) (l0_7 : List (S62)) (a0_8 : Bool) : Option (Bool) := if (l0_2.length : Int) ≤ 50 then (if (l0_4.length : Int) ≤ 50 then (some (decide ((l0_7.length : Int) ≤ 200))) else (some false)) else (some false)
set_option maxHeartbeats 8000000 in
set_option maxRecDepth 100000 in
theorem ententelaw21_Few.calls (a0_0 : Int) (a0_1 : Int) (A0_2 : Option Addr) (c0_2 : Nat) (l0_2 : List (S69)) (a0_3 : ByteArray) (A0_4 : Option Addr) (c0_4 : Nat) (l0_4 : List (S60)) (a0_5 : Int) (a0_6 : Int) (A0_7 : Option Addr) (c0_7 : Nat) (l0_7 : List (S62)) (a0_8 : Bool) (r : Bool) (w : World) (hr0_2 : Kd.C k69 w A0_2 l0_2.length l0_2) (hc0_2 : l0_2.length ≤ c0_2) (hr0_4 : Kd.C k60 w A0_4 l0_4.length l0_4) (hc0_4 : l0_4.length ≤ c0_4) (hr0_7 : Kd.C k62 w A0_7 l0_7.length l0_7) (hc0_7 : l0_7.length ≤ c0_7) (h : ententelaw21_Few.f a0_0 a0_1 l0_2 a0_3 l0_4 a0_5 a0_6 l0_7 a0_8 = some r) :
  Calls Tryd.prog 12 #[.agg #[.int .i64 a0_0, .int .i64 a0_1, .slice A0_2 l0_2.length c0_2, .string a0_3, .slice A0_4 l0_4.length c0_4, .int .i64 a0_5, .int .i64 a0_6, .slice A0_7 l0_7.length c0_7, .bool a0_8]] w fun e w' => e = .returned (.bool r) ∧ Below w.heap.size w w' := by
 have hu50 := Tryd.underlying50
 have HR0_2 := Aside0.mk hr0_2
 have HC0_2 := Aside0.mk hc0_2
 clear hr0_2 hc0_2
 have HR0_4 := Aside0.mk hr0_4
 have HC0_4 := Aside0.mk hc0_4
 clear hr0_4 hc0_4
 have HR0_7 := Aside0.mk hr0_7
 have HC0_7 := Aside0.mk hc0_7
 clear hr0_7 hc0_7
 have HB := Aside0.mk (Below.refl w.heap.size w)
 have H : (if (l0_2.length : Int) ≤ 50 then (if (l0_4.length : Int) ≤ 50 then (some (decide ((l0_7.length : Int) ≤ 200))) else (some false)) else (some false)) = some r := h
 clear h
 by_cases c2 : (l0_2.length : Int) ≤ 50
 ·rw [if_pos c2] at H
  have c2b0 : decide ((l0_2.length : Int) ≤ 50) = true := decide_eq_true c2
  have c2b1 : decide (l0_2.length ≤ 50) = true := decide_eq_true (by omega)
  clear c2
  by_cases c3 : (l0_4.length : Int) ≤ 50
  ·rw [if_pos c3] at H
   have c3b0 : decide ((l0_4.length : Int) ≤ 50) = true := decide_eq_true c3
   have c3b1 : decide (l0_4.length ≤ 50) = true := decide_eq_true (by omega)
   clear c3
   obtain rfl := Option.some.inj H
   go_enter Tryd.func12, Tryd.ntmps12
   go_wp2_with (first | ((with_reducible refine gate_dst (N := 1) rfl ?_); (try (refine gate_guard (by rfl) ?_; dsimp only)); refine box_event ?hg (N := 1) ?hd (cs := #[.int .i64 a0_0, .int .i64 a0_1, .slice A0_2 l0_2.length c0_2, .string a0_3, .slice A0_4 l0_4.length c0_4, .int .i64 a0_5, .int .i64 a0_6, .slice A0_7 l0_7.length c0_7, .bool a0_8]) (t := 50) ?hr ?_; (case hd => rfl); (case hg => rfl); (case hr => first | (go_simp; done) | (go_simp; rfl)); intro gb193 hg w4 hbox hb; have n0_ := Aside0.mk (below_step (mvL0 HB.out) hb); have n1_ := Aside0.mk (hbox); have n2_ := Aside0.mk ((by rw [hg]; exact (below_size (mvL0 HB.out)) : w.heap.size ≤ gb193)); have n3_ := Aside0.mk ((by rw [hg]; exact (below_size (mvL0 HB.out)) : w.heap.size ≤ gb193)); clear HB; have HB := n0_; have BK193 := n1_; have GW193 := n2_; have GE193 := n3_; clear n0_ n1_ n2_ n3_; clear hb hbox hg; have hcz5_0 : w4.cell? ⟨gb193, 0, none⟩ = some (.int .i64 a0_0) := (blk_cell BK193.out 0).trans rfl; have hcz5_1 : w4.cell? ⟨gb193, 1, none⟩ = some (.int .i64 a0_1) := (blk_cell BK193.out 1).trans rfl; have hcz5_2 : w4.cell? ⟨gb193, 2, none⟩ = some (.slice A0_2 l0_2.length c0_2) := (blk_cell BK193.out 2).trans rfl; have hcz5_3 : w4.cell? ⟨gb193, 3, none⟩ = some (.string a0_3) := (blk_cell BK193.out 3).trans rfl; have hcz5_4 : w4.cell? ⟨gb193, 4, none⟩ = some (.slice A0_4 l0_4.length c0_4) := (blk_cell BK193.out 4).trans rfl; have hcz5_5 : w4.cell? ⟨gb193, 5, none⟩ = some (.int .i64 a0_5) := (blk_cell BK193.out 5).trans rfl; have hcz5_6 : w4.cell? ⟨gb193, 6, none⟩ = some (.int .i64 a0_6) := (blk_cell BK193.out 6).trans rfl; have hcz5_7 : w4.cell? ⟨gb193, 7, none⟩ = some (.slice A0_7 l0_7.length c0_7) := (blk_cell BK193.out 7).trans rfl; have hcz5_8 : w4.cell? ⟨gb193, 8, none⟩ = some (.bool a0_8) := (blk_cell BK193.out 8).trans rfl; have hfz5_0 := blk_frozen BK193.out 0; have hfz5_1 := blk_frozen BK193.out 1; have hfz5_2 := blk_frozen BK193.out 2; have hfz5_3 := blk_frozen BK193.out 3; have hfz5_4 := blk_frozen BK193.out 4; have hfz5_5 := blk_frozen BK193.out 5; have hfz5_6 := blk_frozen BK193.out 6; have hfz5_7 := blk_frozen BK193.out 7; have hfz5_8 := blk_frozen BK193.out 8))
   go_ret
   exact ⟨by first | rfl | (simp [errW_none, errW_some] <;> rfl) | (simp [*, errW_none, errW_some] <;> rfl) | (simp only [h_bne_nil, h_beq_nil] <;> rfl), by repeat (first | (with_reducible first | exact HB.out | apply below_alloc | apply pw_below_drewN | apply below_drew1 | refine below_set ?_ GE193.out) | exact HB.out)⟩
  ·rw [if_neg c3] at H
   have c3b0 : decide ((l0_4.length : Int) ≤ 50) = false := decide_eq_false c3
   have c3b1 : decide (l0_4.length ≤ 50) = false := decide_eq_false (by omega)
   clear c3
   obtain rfl := Option.some.inj H
   go_enter Tryd.func12, Tryd.ntmps12
   go_wp2_with (first | ((with_reducible refine gate_dst (N := 1) rfl ?_); (try (refine gate_guard (by rfl) ?_; dsimp only)); refine box_event ?hg (N := 1) ?hd (cs := #[.int .i64 a0_0, .int .i64 a0_1, .slice A0_2 l0_2.length c0_2, .string a0_3, .slice A0_4 l0_4.length c0_4, .int .i64 a0_5, .int .i64 a0_6, .slice A0_7 l0_7.length c0_7, .bool a0_8]) (t := 50) ?hr ?_; (case hd => rfl); (case hg => rfl); (case hr => first | (go_simp; done) | (go_simp; rfl)); intro gb193 hg w6 hbox hb; have n0_ := Aside0.mk (below_step (mvL0 HB.out) hb); have n1_ := Aside0.mk (hbox); have n2_ := Aside0.mk ((by rw [hg]; exact (below_size (mvL0 HB.out)) : w.heap.size ≤ gb193)); have n3_ := Aside0.mk ((by rw [hg]; exact (below_size (mvL0 HB.out)) : w.heap.size ≤ gb193)); clear HB; have HB := n0_; have BK193 := n1_; have GW193 := n2_; have GE193 := n3_; clear n0_ n1_ n2_ n3_; clear hb hbox hg; have hcz7_0 : w6.cell? ⟨gb193, 0, none⟩ = some (.int .i64 a0_0) := (blk_cell BK193.out 0).trans rfl; have hcz7_1 : w6.cell? ⟨gb193, 1, none⟩ = some (.int .i64 a0_1) := (blk_cell BK193.out 1).trans rfl; have hcz7_2 : w6.cell? ⟨gb193, 2, none⟩ = some (.slice A0_2 l0_2.length c0_2) := (blk_cell BK193.out 2).trans rfl; have hcz7_3 : w6.cell? ⟨gb193, 3, none⟩ = some (.string a0_3) := (blk_cell BK193.out 3).trans rfl; have hcz7_4 : w6.cell? ⟨gb193, 4, none⟩ = some (.slice A0_4 l0_4.length c0_4) := (blk_cell BK193.out 4).trans rfl; have hcz7_5 : w6.cell? ⟨gb193, 5, none⟩ = some (.int .i64 a0_5) := (blk_cell BK193.out 5).trans rfl; have hcz7_6 : w6.cell? ⟨gb193, 6, none⟩ = some (.int .i64 a0_6) := (blk_cell BK193.out 6).trans rfl; have hcz7_7 : w6.cell? ⟨gb193, 7, none⟩ = some (.slice A0_7 l0_7.length c0_7) := (blk_cell BK193.out 7).trans rfl; have hcz7_8 : w6.cell? ⟨gb193, 8, none⟩ = some (.bool a0_8) := (blk_cell BK193.out 8).trans rfl; have hfz7_0 := blk_frozen BK193.out 0; have hfz7_1 := blk_frozen BK193.out 1; have hfz7_2 := blk_frozen BK193.out 2; have hfz7_3 := blk_frozen BK193.out 3; have hfz7_4 := blk_frozen BK193.out 4; have hfz7_5 := blk_frozen BK193.out 5; have hfz7_6 := blk_frozen BK193.out 6; have hfz7_7 := blk_frozen BK193.out 7; have hfz7_8 := blk_frozen BK193.out 8))
   go_ret
   exact ⟨by first | rfl | (simp [errW_none, errW_some] <;> rfl) | (simp [*, errW_none, errW_some] <;> rfl) | (simp only [h_bne_nil, h_beq_nil] <;> rfl), by repeat (first | (with_reducible first | exact HB.out | apply below_alloc | apply pw_below_drewN | apply below_drew1 | refine below_set ?_ GE193.out) | exact HB.out)⟩
 ·rw [if_neg c2] at H
  have c2b0 : decide ((l0_2.length : Int) ≤ 50) = false := decide_eq_false c2
  have c2b1 : decide (l0_2.length ≤ 50) = false := decide_eq_false (by omega)
  clear c2
  obtain rfl := Option.some.inj H
  go_enter Tryd.func12, Tryd.ntmps12
  go_wp2_with (first | ((with_reducible refine gate_dst (N := 1) rfl ?_); (try (refine gate_guard (by rfl) ?_; dsimp only)); refine box_event ?hg (N := 1) ?hd (cs := #[.int .i64 a0_0, .int .i64 a0_1, .slice A0_2 l0_2.length c0_2, .string a0_3, .slice A0_4 l0_4.length c0_4, .int .i64 a0_5, .int .i64 a0_6, .slice A0_7 l0_7.length c0_7, .bool a0_8]) (t := 50) ?hr ?_; (case hd => rfl); (case hg => rfl); (case hr => first | (go_simp; done) | (go_simp; rfl)); intro gb193 hg w8 hbox hb; have n0_ := Aside0.mk (below_step (mvL0 HB.out) hb); have n1_ := Aside0.mk (hbox); have n2_ := Aside0.mk ((by rw [hg]; exact (below_size (mvL0 HB.out)) : w.heap.size ≤ gb193)); have n3_ := Aside0.mk ((by rw [hg]; exact (below_size (mvL0 HB.out)) : w.heap.size ≤ gb193)); clear HB; have HB := n0_; have BK193 := n1_; have GW193 := n2_; have GE193 := n3_; clear n0_ n1_ n2_ n3_; clear hb hbox hg; have hcz9_0 : w8.cell? ⟨gb193, 0, none⟩ = some (.int .i64 a0_0) := (blk_cell BK193.out 0).trans rfl; have hcz9_1 : w8.cell? ⟨gb193, 1, none⟩ = some (.int .i64 a0_1) := (blk_cell BK193.out 1).trans rfl; have hcz9_2 : w8.cell? ⟨gb193, 2, none⟩ = some (.slice A0_2 l0_2.length c0_2) := (blk_cell BK193.out 2).trans rfl; have hcz9_3 : w8.cell? ⟨gb193, 3, none⟩ = some (.string a0_3) := (blk_cell BK193.out 3).trans rfl; have hcz9_4 : w8.cell? ⟨gb193, 4, none⟩ = some (.slice A0_4 l0_4.length c0_4) := (blk_cell BK193.out 4).trans rfl; have hcz9_5 : w8.cell? ⟨gb193, 5, none⟩ = some (.int .i64 a0_5) := (blk_cell BK193.out 5).trans rfl; have hcz9_6 : w8.cell? ⟨gb193, 6, none⟩ = some (.int .i64 a0_6) := (blk_cell BK193.out 6).trans rfl; have hcz9_7 : w8.cell? ⟨gb193, 7, none⟩ = some (.slice A0_7 l0_7.length c0_7) := (blk_cell BK193.out 7).trans rfl; have hcz9_8 : w8.cell? ⟨gb193, 8, none⟩ = some (.bool a0_8) := (blk_cell BK193.out 8).trans rfl; have hfz9_0 := blk_frozen BK193.out 0; have hfz9_1 := blk_frozen BK193.out 1; have hfz9_2 := blk_frozen BK193.out 2; have hfz9_3 := blk_frozen BK193.out 3; have hfz9_4 := blk_frozen BK193.out 4; have hfz9_5 := blk_frozen BK193.out 5; have hfz9_6 := blk_frozen BK193.out 6; have hfz9_7 := blk_frozen BK193.out 7; have hfz9_8 := blk_frozen BK193.out 8))
  go_ret
  exact ⟨by first | rfl | (simp [errW_none, errW_some] <;> rfl) | (simp [*, errW_none, errW_some] <;> rfl) | (simp only [h_bne_nil, h_beq_nil] <;> rfl), by repeat (first | (with_reducible first | exact HB.out | apply below_alloc | apply pw_below_drewN | apply below_drew1 | refine below_set ?_ GE193.out) | exact HB.out)⟩

/-! ### ententelaw27_count: function 16 -/
def ententelaw27_count.l0 : Nat → List (S42) → Bool → Int → Int → Option (Int)
 | 0, _, _, _, _ => none
 | k + 1, x0, x1, x5, x6 => if x6 < (x0.length : Int) then (if 0 ≤ x6 then (if ((decide (((rd_T42 x0 x6).f0) ≥ 5)) == x1) = true then (ententelaw27_count.l0 k x0 x1 (wrap64 (x5 + 1)) (wrap64 (x6 + 1))) else (ententelaw27_count.l0 k x0 x1 x5 (wrap64 (x6 + 1)))) else (none)) else (some x5)
def ententelaw27_count.f (k : Nat) (l0 : List (S42)) (a1 : Bool) : Option (Int) := ententelaw27_count.l0 k l0 a1 0 0
theorem ententelaw27_count.mono_l : ∀ k, (∀ y0 y1 y2 y3, LeO (ententelaw27_count.l0 k y0 y1 y2 y3) (ententelaw27_count.l0 (k + 1) y0 y1 y2 y3))
 | 0 => fun _ _ _ _ r h => by simp [ententelaw27_count.l0] at h
 | k + 1 => by
  have ih0 := ententelaw27_count.mono_l k
  ·intro y0 y1 y2 y3
   unfold ententelaw27_count.l0
   repeat' first
   | (with_reducible exact ih0 _ _ _ _)
   | (with_reducible exact LeO.refl _)
   | (with_reducible exact LeO.none _)
   | (with_reducible refine LeO.ite ?_ ?_)
   | (with_reducible refine LeO.bind ?_ (fun _ => ?_))
   | exact ih0 _ _ _ _
   | exact LeO.none _
   | refine LeO.ite ?_ ?_
   | refine LeO.bind ?_ (fun _ => ?_)
theorem ententelaw27_count.mono : ∀ a0 a1 k, LeO (ententelaw27_count.f k a0 a1) (ententelaw27_count.f (k + 1) a0 a1) := by
 intro a0 a1 k
 have ih0 := ententelaw27_count.mono_l k
 unfold ententelaw27_count.f
 repeat' first
   | (with_reducible exact ih0 _ _ _ _)
   | (with_reducible exact LeO.refl _)
   | (with_reducible exact LeO.none _)
   | (with_reducible refine LeO.ite ?_ ?_)
   | (with_reducible refine LeO.bind ?_ (fun _ => ?_))
   | exact ih0 _ _ _ _
   | exact LeO.none _
   | refine LeO.ite ?_ ?_
   | refine LeO.bind ?_ (fun _ => ?_)
set_option maxHeartbeats 8000000 in
set_option maxRecDepth 100000 in
theorem ententelaw27_count.calls (k : Nat) (A0 : Option Addr) (c0 : Nat) (l0 : List (S42)) (a1 : Bool) (r : Int) (w : World) (hr0 : Kd.C k42 w A0 l0.length l0) (hc0 : l0.length ≤ c0) (h : ententelaw27_count.f k l0 a1 = some r) :
  Calls Tryd.prog 16 #[.slice A0 l0.length c0, .bool a1] w fun e w' => e = .returned (.int .i64 r) ∧ Drawn0 w w' := by
 have HR0 := Aside0.mk hr0
 have HC0 := Aside0.mk hc0
 clear hr0 hc0
 have H : (ententelaw27_count.l0 k l0 a1 0 0) = some r := h
 clear h
 have H' := Aside0.mk H
 clear H
 go_enter Tryd.func16, Tryd.ntmps16
 go_wp2
 go_loopg [5, 6] k (fun kq v5 v6 w' => ∃ (x5_1 : Int) (x6_1 : Int), v5 = .int .i64 x5_1 ∧ v6 = .int .i64 x6_1 ∧ Aside0 (ententelaw27_count.l0 kq l0 a1 x5_1 x6_1 = some r) ∧ Aside0 (kq ≤ k) ∧ Drawn0 w w')
 case atStart => exact ⟨(0), (0), (by first | rfl | (simp; done) | (simp [*]; done)), (by first | rfl | (simp; done) | (simp [*]; done)), H', ⟨Nat.le_refl _⟩, by repeat (first | exact Drawn0.refl _ | apply Drawn0.step)⟩
 case round =>
  clear H'
  try clear c1
  try clear p2
  obtain ⟨x5_1, x6_1, rfl, rfl, HA, HK1, ⟨m1, rfl⟩⟩ := hrel
  cases gk with
  | zero => exact absurd HA.out (by simp [ententelaw27_count.l0])
  | succ k1 =>
   have H := HA.out
   clear HA
   simp only [ententelaw27_count.l0] at H
   by_cases c3 : x6_1 < (l0.length : Int)
   ·rw [if_pos c3] at H
    have c3b0 : decide (x6_1 < (l0.length : Int)) = true := decide_eq_true c3
    clear c3
    by_cases c4 : 0 ≤ x6_1
    ·rw [if_pos c4] at H
     have c4b0 : decide (0 ≤ x6_1) = true := decide_eq_true c4
     clear c4
     by_cases c5 : ((decide (((rd_T42 l0 x6_1).f0) ≥ 5)) == a1) = true
     ·rw [if_pos c5] at H
      have c5b0 : ((decide (((rd_T42 l0 x6_1).f0) ≥ 5)) == a1) = true := c5
      (try (have c5b1 : decide ((decide (((rd_T42 l0 x6_1).f0) ≥ 5)) = a1) = true := by simpa using c5))
      (try (have c5b2 : ((decide (((rd_T42 l0 x6_1).f0) ≥ 5)) == a1) = true := by simpa using c5))
      clear c5
      have H' := Aside0.mk H
      clear H
      have p194 : 0 ≤ (x6_1 : Int) := of_decide_eq_true (by first | (with_reducible assumption) | assumption)
      have q194 : x6_1 < (l0.length : Int) := of_decide_eq_true (by first | (with_reducible assumption) | assumption)
      obtain ⟨ad194, A194_3, c194_3, e194, hx194_0, hx194_1, hx194_2, hx194_3, hx194_4, hx194_5, hl194_3, hi194_3⟩ := at_T42 HR0.out x6_1 p194 q194
      cases e194
      have HR194_3 := Aside0.mk hi194_3
      have HC194_3 := Aside0.mk hl194_3
      clear hi194_3 hl194_3
      replace p194 := eq_true p194
      replace q194 := eq_true q194
      go_wp2
      go_roundg k1
      case measure => have := HK1.out; omega
      case rel => exact ⟨(wrap64 (x5_1 + 1)), (wrap64 (x6_1 + 1)), (by first | rfl | (simp; done) | (simp [*]; done)), (by first | rfl | (simp; done) | (simp [*]; done)), H', ⟨by have := HK1.out; omega⟩, by repeat (first | exact Drawn0.refl _ | apply Drawn0.step)⟩
     ·rw [if_neg c5] at H
      have c5b0 : ((decide (((rd_T42 l0 x6_1).f0) ≥ 5)) == a1) = false := by simpa using c5
      (try (have c5b1 : decide ((decide (((rd_T42 l0 x6_1).f0) ≥ 5)) = a1) = false := by simpa using c5))
      (try (have c5b2 : ((decide (((rd_T42 l0 x6_1).f0) ≥ 5)) == a1) = false := by simpa using c5))
      (try (have c5b3 : ¬ ((decide (((rd_T42 l0 x6_1).f0) ≥ 5)) = a1) := by simpa using c5))
      clear c5
      have H' := Aside0.mk H
      clear H
      have p194 : 0 ≤ (x6_1 : Int) := of_decide_eq_true (by first | (with_reducible assumption) | assumption)
      have q194 : x6_1 < (l0.length : Int) := of_decide_eq_true (by first | (with_reducible assumption) | assumption)
      obtain ⟨ad194, A194_3, c194_3, e194, hx194_0, hx194_1, hx194_2, hx194_3, hx194_4, hx194_5, hl194_3, hi194_3⟩ := at_T42 HR0.out x6_1 p194 q194
      cases e194
      have HR194_3 := Aside0.mk hi194_3
      have HC194_3 := Aside0.mk hl194_3
      clear hi194_3 hl194_3
      replace p194 := eq_true p194
      replace q194 := eq_true q194
      go_wp2
      go_roundg k1
      case measure => have := HK1.out; omega
      case rel => exact ⟨(x5_1), (wrap64 (x6_1 + 1)), (by first | rfl | (simp; done) | (simp [*]; done)), (by first | rfl | (simp; done) | (simp [*]; done)), H', ⟨by have := HK1.out; omega⟩, by repeat (first | exact Drawn0.refl _ | apply Drawn0.step)⟩
    ·rw [if_neg c4] at H
     exact absurd H (by simp)
   ·rw [if_neg c3] at H
    have c3b0 : decide (x6_1 < (l0.length : Int)) = false := decide_eq_false c3
    clear c3
    obtain rfl := Option.some.inj H
    go_wp2
    go_ret
    exact ⟨by first | rfl | (simp; done) | (simp [*]; done), by repeat (first | exact Drawn0.refl _ | apply Drawn0.step)⟩

end Go.Proofs.YtidobdhkncaljaaDoorK
