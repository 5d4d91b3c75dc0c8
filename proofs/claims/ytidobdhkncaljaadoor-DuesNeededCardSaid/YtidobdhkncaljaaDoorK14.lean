-- made by hprint.py out of the translation and the hand texts
import Derived.Test.YtidobdhkncaljaaDoorK0
import Derived.Test.YtidobdhkncaljaaDoorK2
import Derived.Test.YtidobdhkncaljaaDoorK6
import Derived.Test.YtidobdhkncaljaaDoorK9
namespace Go.Proofs.YtidobdhkncaljaaDoorK
open Go.RowKit Go.Proofs.YtidobdhkncaljaaDoorW.PrintWords Go.Proofs.YtidobdhkncaljaaDoorW.PrintLast Go.Proofs.YtidobdhkncaljaaDoorW.PrintMore
attribute [local go_sem] max2_int min2_int max_two min_two max_three min_three max_four min_four   -- for this text's walks alone
set_option linter.unusedVariables false
set_option linter.unusedSimpArgs false

/-! ### saga_Ended: function 17, by hand -/
def endedOk (x : S50) : Bool := sagaOk x && (if x.f2 = 7 then true else if x.f2 = 6 then !someOf x [1, 2] else if x.f2 = 3 then !someOf x [2] && !(x.f5 && someOf x [1]) else false)
set_option maxHeartbeats 1000000 in
set_option maxRecDepth 100000 in
theorem saga_Ended.at7 (x : S50) (A2 : Option Addr) (c2 : Nat) (A4 : Option Addr) (c4 : Nat) (A7 : Option Addr) (c7 : Nat) (w : World) (r2 : Kd.C k69 w A2 x.f0.f2.length x.f0.f2) (q2 : x.f0.f2.length ≤ c2) (r4 : Kd.C k60 w A4 x.f1.f1.length x.f1.f1) (q4 : x.f1.f1.length ≤ c4) (r7 : Kd.C k62 w A7 x.f4.length x.f4) (q7 : x.f4.length ≤ c7) (hst : x.f2 = 7) (hxl : x.f4.length ≤ 1000) :
  Calls Tryd.prog 17 #[.agg #[.int .i64 x.f0.f0, .int .i64 x.f0.f1, .slice A2 x.f0.f2.length c2, .string x.f1.f0, .slice A4 x.f1.f1.length c4, .int .i64 x.f2, .int .i64 x.f3, .slice A7 x.f4.length c7, .bool x.f5]] w (fun e W' => e = .returned ( .bool (endedOk x)) ∧ Below w.heap.size w W') := by
 obtain ⟨R, hR⟩ : ∃ R, R = endedOk x := ⟨_, rfl⟩
 rw [← hR]
 have HRR := Aside0.mk hR
 clear hR
 obtain ⟨O1, hO1⟩ : ∃ O1, O1 = (Obj.cells #[.int .i64 x.f0.f0, .int .i64 x.f0.f1, .slice A2 x.f0.f2.length c2, .string x.f1.f0, .slice A4 x.f1.f1.length c4, .int .i64 x.f2, .int .i64 x.f3, .slice A7 x.f4.length c7, .bool x.f5] 50) := ⟨_, rfl⟩
 obtain ⟨O2, hO2⟩ : ∃ O2, O2 = (Obj.cells #[.int .i64 x.f0.f0, .int .i64 x.f0.f1, .slice A2 x.f0.f2.length c2, .string x.f1.f0, .slice A4 x.f1.f1.length c4, .int .i64 x.f2, .int .i64 x.f3, .slice A7 x.f4.length c7, .bool x.f5] 88) := ⟨_, rfl⟩
 have hb1 : Below w.heap.size w (w.alloc O1) := below_alloc (Below.refl _ _) _
 have hgs : (w.alloc O1).heap[w.heap.size]? = some (.cells #[.int .i64 x.f0.f0, .int .i64 x.f0.f1, .slice A2 x.f0.f2.length c2, .string x.f1.f0, .slice A4 x.f1.f1.length c4, .int .i64 x.f2, .int .i64 x.f3, .slice A7 x.f4.length c7, .bool x.f5] 50 (0, 0)) := by rw [hO1]; exact blk_new w _
 obtain ⟨W1, hW1⟩ : ∃ W1, W1 = w.alloc O1 := ⟨_, rfl⟩
 rw [← hW1] at hgs hb1
 have HXL := Aside0.mk hxl
 have HST := Aside0.mk hst
 clear hst
 have HR2 := Aside0.mk r2
 have HR4 := Aside0.mk r4
 have HR7 := Aside0.mk r7
 have HB1 := Aside0.mk hb1
 have HGS := Aside0.mk hgs
 have HW1 := Aside0.mk (hO1 ▸ hW1)
 have HO2 := Aside0.mk hO2
 have HQ2 := Aside0.mk q2
 have HQ4 := Aside0.mk q4
 have HQ7 := Aside0.mk q7
 clear r2 r4 r7 hb1 hW1 hO1 hO2 hgs q2 q4 q7
 obtain ⟨bm, hbm⟩ : ∃ b, b = sagaOk x := ⟨_, rfl⟩
 have EM := Aside0.mk hbm
 go_enter Tryd.func17, Tryd.ntmps17
 go_wp2_with (fail)
 rw [← HW1.out]
 refine (saga_May.calls x.f0.f0 x.f0.f1 A2 c2 x.f0.f2 x.f1.f0 A4 c4 x.f1.f1 x.f2 x.f3 A7 c7 x.f4 x.f5 (if bm = true then 0 else 230) _ (Kd.C_below HR2.out HB1.out) HQ2.out (Kd.C_below HR4.out HB1.out) HQ4.out (Kd.C_below HR7.out HB1.out) HQ7.out (by rw [EM.out]; rfl)).mono ?_
 rintro e w2 ⟨rfl, hb2⟩
 have HB2 := Aside0.mk (below_step HB1.out hb2)
 have hgs2 := blk_below HGS.out hb2
 clear hb2 hbm
 have h0 : w2.cell? ⟨w.heap.size, 0, none⟩ = some (.int .i64 x.f0.f0) := (blk_cell hgs2 0).trans rfl
 have h1 : w2.cell? ⟨w.heap.size, 1, none⟩ = some (.int .i64 x.f0.f1) := (blk_cell hgs2 1).trans rfl
 have h2 : w2.cell? ⟨w.heap.size, 2, none⟩ = some (.slice A2 x.f0.f2.length c2) := (blk_cell hgs2 2).trans rfl
 have h3 : w2.cell? ⟨w.heap.size, 3, none⟩ = some (.string x.f1.f0) := (blk_cell hgs2 3).trans rfl
 have h4 : w2.cell? ⟨w.heap.size, 4, none⟩ = some (.slice A4 x.f1.f1.length c4) := (blk_cell hgs2 4).trans rfl
 have h5 : w2.cell? ⟨w.heap.size, 5, none⟩ = some (.int .i64 x.f2) := (blk_cell hgs2 5).trans rfl
 have h6 : w2.cell? ⟨w.heap.size, 6, none⟩ = some (.int .i64 x.f3) := (blk_cell hgs2 6).trans rfl
 have h7 : w2.cell? ⟨w.heap.size, 7, none⟩ = some (.slice A7 x.f4.length c7) := (blk_cell hgs2 7).trans rfl
 have h8 : w2.cell? ⟨w.heap.size, 8, none⟩ = some (.bool x.f5) := (blk_cell hgs2 8).trans rfl
 have HB2s := Aside0.mk (Below.refl w2.heap.size w2)
 cases bm with
 | false =>
  go_wp2
  go_ret
  refine ⟨(show Ending.returned (.bool false) = Ending.returned (.bool R) from ?_), HB2.out⟩
  rw [HRR.out]; unfold endedOk; rw [← EM.out]; rfl
 | true =>
  have hes : endedOk x = (if x.f2 = 7 then true else if x.f2 = 6 then !someOf x [1, 2] else if x.f2 = 3 then !someOf x [2] && !(x.f5 && someOf x [1]) else false) := by unfold endedOk; rw [← EM.out]; rfl
  have HES := Aside0.mk hes
  clear hes
  have hb3 : Below w2.heap.size w2 (w2.alloc O2) := below_alloc (Below.refl _ _) _
  have hg : (w2.alloc O2).heap[w2.heap.size]? = some (.cells #[.int .i64 x.f0.f0, .int .i64 x.f0.f1, .slice A2 x.f0.f2.length c2, .string x.f1.f0, .slice A4 x.f1.f1.length c4, .int .i64 x.f2, .int .i64 x.f3, .slice A7 x.f4.length c7, .bool x.f5] 88 (0, 0)) := by rw [HO2.out]; exact blk_new w2 _
  have HHH : Aside0 (HH (w2.alloc O2) w2.heap.size x) := ⟨A2, c2, A4, c4, A7, c7, hg, Kd.C_below (Kd.C_below HR2.out HB2.out) hb3, Kd.C_below (Kd.C_below HR4.out HB2.out) hb3, Kd.C_below (Kd.C_below HR7.out HB2.out) hb3⟩
  have HB3 := Aside0.mk (below_step HB2.out hb3)
  have hf8 : (w2.alloc O2).cell? ⟨w.heap.size, 8, none⟩ = some (.bool x.f5) := pw_cell_below hb3 h8
  have hs5 : (w2.alloc O2).cell? ⟨w.heap.size, 5, none⟩ = some (.int .i64 x.f2) := pw_cell_below hb3 h5
  have hs5u := hs5
  rw [HO2.out] at hs5u
  obtain ⟨W3, hW3⟩ : ∃ W3, W3 = w2.alloc O2 := ⟨_, rfl⟩
  rw [← hW3] at HHH HB3 hf8 hs5
  have HW3 := Aside0.mk (HO2.out ▸ hW3)
  have hsz : W3.heap.size = w2.heap.size + 1 := by rw [hW3, World.size_alloc]
  obtain ⟨G, hG⟩ : ∃ G, G = w2.heap.size := ⟨_, rfl⟩
  rw [← hG] at HHH hsz
  have HSZ := Aside0.mk hsz
  clear hsz
  clear hb3 hg hW3
  have s7 : (x.f2 == 7) = true := by rw [HST.out]; rfl
  have s6 : (x.f2 == 6) = false := by rw [HST.out]; rfl
  have s3 : (x.f2 == 3) = false := by rw [HST.out]; rfl
  go_wp2
  go_ret
  refine ⟨(show Ending.returned (.bool true) = Ending.returned (.bool R) from ?_), HW3.out ▸ HB3.out⟩
  rw [HRR.out, HES.out, if_pos HST.out]
set_option maxHeartbeats 1000000 in
set_option maxRecDepth 100000 in
theorem saga_Ended.at6 (x : S50) (A2 : Option Addr) (c2 : Nat) (A4 : Option Addr) (c4 : Nat) (A7 : Option Addr) (c7 : Nat) (w : World) (r2 : Kd.C k69 w A2 x.f0.f2.length x.f0.f2) (q2 : x.f0.f2.length ≤ c2) (r4 : Kd.C k60 w A4 x.f1.f1.length x.f1.f1) (q4 : x.f1.f1.length ≤ c4) (r7 : Kd.C k62 w A7 x.f4.length x.f4) (q7 : x.f4.length ≤ c7) (hst : x.f2 = 6) (hxl : x.f4.length ≤ 1000) :
  Calls Tryd.prog 17 #[.agg #[.int .i64 x.f0.f0, .int .i64 x.f0.f1, .slice A2 x.f0.f2.length c2, .string x.f1.f0, .slice A4 x.f1.f1.length c4, .int .i64 x.f2, .int .i64 x.f3, .slice A7 x.f4.length c7, .bool x.f5]] w (fun e W' => e = .returned ( .bool (endedOk x)) ∧ Below w.heap.size w W') := by
 obtain ⟨R, hR⟩ : ∃ R, R = endedOk x := ⟨_, rfl⟩
 rw [← hR]
 have HRR := Aside0.mk hR
 clear hR
 obtain ⟨O1, hO1⟩ : ∃ O1, O1 = (Obj.cells #[.int .i64 x.f0.f0, .int .i64 x.f0.f1, .slice A2 x.f0.f2.length c2, .string x.f1.f0, .slice A4 x.f1.f1.length c4, .int .i64 x.f2, .int .i64 x.f3, .slice A7 x.f4.length c7, .bool x.f5] 50) := ⟨_, rfl⟩
 obtain ⟨O2, hO2⟩ : ∃ O2, O2 = (Obj.cells #[.int .i64 x.f0.f0, .int .i64 x.f0.f1, .slice A2 x.f0.f2.length c2, .string x.f1.f0, .slice A4 x.f1.f1.length c4, .int .i64 x.f2, .int .i64 x.f3, .slice A7 x.f4.length c7, .bool x.f5] 88) := ⟨_, rfl⟩
 have hb1 : Below w.heap.size w (w.alloc O1) := below_alloc (Below.refl _ _) _
 have hgs : (w.alloc O1).heap[w.heap.size]? = some (.cells #[.int .i64 x.f0.f0, .int .i64 x.f0.f1, .slice A2 x.f0.f2.length c2, .string x.f1.f0, .slice A4 x.f1.f1.length c4, .int .i64 x.f2, .int .i64 x.f3, .slice A7 x.f4.length c7, .bool x.f5] 50 (0, 0)) := by rw [hO1]; exact blk_new w _
 obtain ⟨W1, hW1⟩ : ∃ W1, W1 = w.alloc O1 := ⟨_, rfl⟩
 rw [← hW1] at hgs hb1
 have HXL := Aside0.mk hxl
 have HST := Aside0.mk hst
 clear hst
 have HR2 := Aside0.mk r2
 have HR4 := Aside0.mk r4
 have HR7 := Aside0.mk r7
 have HB1 := Aside0.mk hb1
 have HGS := Aside0.mk hgs
 have HW1 := Aside0.mk (hO1 ▸ hW1)
 have HO2 := Aside0.mk hO2
 have HQ2 := Aside0.mk q2
 have HQ4 := Aside0.mk q4
 have HQ7 := Aside0.mk q7
 clear r2 r4 r7 hb1 hW1 hO1 hO2 hgs q2 q4 q7
 obtain ⟨bm, hbm⟩ : ∃ b, b = sagaOk x := ⟨_, rfl⟩
 have EM := Aside0.mk hbm
 go_enter Tryd.func17, Tryd.ntmps17
 go_wp2_with (fail)
 rw [← HW1.out]
 refine (saga_May.calls x.f0.f0 x.f0.f1 A2 c2 x.f0.f2 x.f1.f0 A4 c4 x.f1.f1 x.f2 x.f3 A7 c7 x.f4 x.f5 (if bm = true then 0 else 230) _ (Kd.C_below HR2.out HB1.out) HQ2.out (Kd.C_below HR4.out HB1.out) HQ4.out (Kd.C_below HR7.out HB1.out) HQ7.out (by rw [EM.out]; rfl)).mono ?_
 rintro e w2 ⟨rfl, hb2⟩
 have HB2 := Aside0.mk (below_step HB1.out hb2)
 have hgs2 := blk_below HGS.out hb2
 clear hb2 hbm
 have h0 : w2.cell? ⟨w.heap.size, 0, none⟩ = some (.int .i64 x.f0.f0) := (blk_cell hgs2 0).trans rfl
 have h1 : w2.cell? ⟨w.heap.size, 1, none⟩ = some (.int .i64 x.f0.f1) := (blk_cell hgs2 1).trans rfl
 have h2 : w2.cell? ⟨w.heap.size, 2, none⟩ = some (.slice A2 x.f0.f2.length c2) := (blk_cell hgs2 2).trans rfl
 have h3 : w2.cell? ⟨w.heap.size, 3, none⟩ = some (.string x.f1.f0) := (blk_cell hgs2 3).trans rfl
 have h4 : w2.cell? ⟨w.heap.size, 4, none⟩ = some (.slice A4 x.f1.f1.length c4) := (blk_cell hgs2 4).trans rfl
 have h5 : w2.cell? ⟨w.heap.size, 5, none⟩ = some (.int .i64 x.f2) := (blk_cell hgs2 5).trans rfl
 have h6 : w2.cell? ⟨w.heap.size, 6, none⟩ = some (.int .i64 x.f3) := (blk_cell hgs2 6).trans rfl
 have h7 : w2.cell? ⟨w.heap.size, 7, none⟩ = some (.slice A7 x.f4.length c7) := (blk_cell hgs2 7).trans rfl
 have h8 : w2.cell? ⟨w.heap.size, 8, none⟩ = some (.bool x.f5) := (blk_cell hgs2 8).trans rfl
 have HB2s := Aside0.mk (Below.refl w2.heap.size w2)
 cases bm with
 | false =>
  go_wp2
  go_ret
  refine ⟨(show Ending.returned (.bool false) = Ending.returned (.bool R) from ?_), HB2.out⟩
  rw [HRR.out]; unfold endedOk; rw [← EM.out]; rfl
 | true =>
  have hes : endedOk x = (if x.f2 = 7 then true else if x.f2 = 6 then !someOf x [1, 2] else if x.f2 = 3 then !someOf x [2] && !(x.f5 && someOf x [1]) else false) := by unfold endedOk; rw [← EM.out]; rfl
  have HES := Aside0.mk hes
  clear hes
  have hb3 : Below w2.heap.size w2 (w2.alloc O2) := below_alloc (Below.refl _ _) _
  have hg : (w2.alloc O2).heap[w2.heap.size]? = some (.cells #[.int .i64 x.f0.f0, .int .i64 x.f0.f1, .slice A2 x.f0.f2.length c2, .string x.f1.f0, .slice A4 x.f1.f1.length c4, .int .i64 x.f2, .int .i64 x.f3, .slice A7 x.f4.length c7, .bool x.f5] 88 (0, 0)) := by rw [HO2.out]; exact blk_new w2 _
  have HHH : Aside0 (HH (w2.alloc O2) w2.heap.size x) := ⟨A2, c2, A4, c4, A7, c7, hg, Kd.C_below (Kd.C_below HR2.out HB2.out) hb3, Kd.C_below (Kd.C_below HR4.out HB2.out) hb3, Kd.C_below (Kd.C_below HR7.out HB2.out) hb3⟩
  have HB3 := Aside0.mk (below_step HB2.out hb3)
  have hf8 : (w2.alloc O2).cell? ⟨w.heap.size, 8, none⟩ = some (.bool x.f5) := pw_cell_below hb3 h8
  have hs5 : (w2.alloc O2).cell? ⟨w.heap.size, 5, none⟩ = some (.int .i64 x.f2) := pw_cell_below hb3 h5
  have hs5u := hs5
  rw [HO2.out] at hs5u
  obtain ⟨W3, hW3⟩ : ∃ W3, W3 = w2.alloc O2 := ⟨_, rfl⟩
  rw [← hW3] at HHH HB3 hf8 hs5
  have HW3 := Aside0.mk (HO2.out ▸ hW3)
  have hsz : W3.heap.size = w2.heap.size + 1 := by rw [hW3, World.size_alloc]
  obtain ⟨G, hG⟩ : ∃ G, G = w2.heap.size := ⟨_, rfl⟩
  rw [← hG] at HHH hsz
  have HSZ := Aside0.mk hsz
  clear hsz
  clear hb3 hg hW3
  have s7 : (x.f2 == 7) = false := by rw [HST.out]; rfl
  have s6 : (x.f2 == 6) = true := by rw [HST.out]; rfl
  have s3 : (x.f2 == 3) = false := by rw [HST.out]; rfl
  go_wp2_with (fail)
  rw [← HW3.out, ← hG]
  clear hG
  have HHA : Aside0 (∀ o, HH (W3.alloc o) G x) := ⟨fun o => HHH.out.below (below_alloc (Below.refl W3.heap.size W3) o)⟩
  refine (saga_holder_some.at G x _ _ [1, 2] _ (HHA.out _) HXL.out (by simp) (HSZ.out ▸ lit2_reads W3 _ 1 2) (by simp)).mono ?_
  rintro e w5 ⟨rfl, hb5⟩
  have HB5 := Aside0.mk (below_step (below_alloc HB3.out _) hb5)
  clear hb5
  obtain ⟨b, hb⟩ : ∃ b, someOf x [1, 2] = b := ⟨_, rfl⟩
  rw [hb]
  have EB := Aside0.mk hb
  clear hb
  go_wp2
  go_ret
  refine ⟨(show Ending.returned (.bool (!b)) = Ending.returned (.bool R) from ?_), HB5.out⟩
  rw [HRR.out, HES.out, if_neg (by rw [HST.out]; decide), if_pos HST.out, EB.out]
set_option maxHeartbeats 1000000 in
set_option maxRecDepth 100000 in
theorem saga_Ended.at3 (x : S50) (A2 : Option Addr) (c2 : Nat) (A4 : Option Addr) (c4 : Nat) (A7 : Option Addr) (c7 : Nat) (w : World) (r2 : Kd.C k69 w A2 x.f0.f2.length x.f0.f2) (q2 : x.f0.f2.length ≤ c2) (r4 : Kd.C k60 w A4 x.f1.f1.length x.f1.f1) (q4 : x.f1.f1.length ≤ c4) (r7 : Kd.C k62 w A7 x.f4.length x.f4) (q7 : x.f4.length ≤ c7) (hst : x.f2 = 3) (hxl : x.f4.length ≤ 1000) :
  Calls Tryd.prog 17 #[.agg #[.int .i64 x.f0.f0, .int .i64 x.f0.f1, .slice A2 x.f0.f2.length c2, .string x.f1.f0, .slice A4 x.f1.f1.length c4, .int .i64 x.f2, .int .i64 x.f3, .slice A7 x.f4.length c7, .bool x.f5]] w (fun e W' => e = .returned ( .bool (endedOk x)) ∧ Below w.heap.size w W') := by
 obtain ⟨R, hR⟩ : ∃ R, R = endedOk x := ⟨_, rfl⟩
 rw [← hR]
 have HRR := Aside0.mk hR
 clear hR
 obtain ⟨O1, hO1⟩ : ∃ O1, O1 = (Obj.cells #[.int .i64 x.f0.f0, .int .i64 x.f0.f1, .slice A2 x.f0.f2.length c2, .string x.f1.f0, .slice A4 x.f1.f1.length c4, .int .i64 x.f2, .int .i64 x.f3, .slice A7 x.f4.length c7, .bool x.f5] 50) := ⟨_, rfl⟩
 obtain ⟨O2, hO2⟩ : ∃ O2, O2 = (Obj.cells #[.int .i64 x.f0.f0, .int .i64 x.f0.f1, .slice A2 x.f0.f2.length c2, .string x.f1.f0, .slice A4 x.f1.f1.length c4, .int .i64 x.f2, .int .i64 x.f3, .slice A7 x.f4.length c7, .bool x.f5] 88) := ⟨_, rfl⟩
 have hb1 : Below w.heap.size w (w.alloc O1) := below_alloc (Below.refl _ _) _
 have hgs : (w.alloc O1).heap[w.heap.size]? = some (.cells #[.int .i64 x.f0.f0, .int .i64 x.f0.f1, .slice A2 x.f0.f2.length c2, .string x.f1.f0, .slice A4 x.f1.f1.length c4, .int .i64 x.f2, .int .i64 x.f3, .slice A7 x.f4.length c7, .bool x.f5] 50 (0, 0)) := by rw [hO1]; exact blk_new w _
 obtain ⟨W1, hW1⟩ : ∃ W1, W1 = w.alloc O1 := ⟨_, rfl⟩
 rw [← hW1] at hgs hb1
 have HXL := Aside0.mk hxl
 have HST := Aside0.mk hst
 clear hst
 have HR2 := Aside0.mk r2
 have HR4 := Aside0.mk r4
 have HR7 := Aside0.mk r7
 have HB1 := Aside0.mk hb1
 have HGS := Aside0.mk hgs
 have HW1 := Aside0.mk (hO1 ▸ hW1)
 have HO2 := Aside0.mk hO2
 have HQ2 := Aside0.mk q2
 have HQ4 := Aside0.mk q4
 have HQ7 := Aside0.mk q7
 clear r2 r4 r7 hb1 hW1 hO1 hO2 hgs q2 q4 q7
 obtain ⟨bm, hbm⟩ : ∃ b, b = sagaOk x := ⟨_, rfl⟩
 have EM := Aside0.mk hbm
 go_enter Tryd.func17, Tryd.ntmps17
 go_wp2_with (fail)
 rw [← HW1.out]
 refine (saga_May.calls x.f0.f0 x.f0.f1 A2 c2 x.f0.f2 x.f1.f0 A4 c4 x.f1.f1 x.f2 x.f3 A7 c7 x.f4 x.f5 (if bm = true then 0 else 230) _ (Kd.C_below HR2.out HB1.out) HQ2.out (Kd.C_below HR4.out HB1.out) HQ4.out (Kd.C_below HR7.out HB1.out) HQ7.out (by rw [EM.out]; rfl)).mono ?_
 rintro e w2 ⟨rfl, hb2⟩
 have HB2 := Aside0.mk (below_step HB1.out hb2)
 have hgs2 := blk_below HGS.out hb2
 clear hb2 hbm
 have h0 : w2.cell? ⟨w.heap.size, 0, none⟩ = some (.int .i64 x.f0.f0) := (blk_cell hgs2 0).trans rfl
 have h1 : w2.cell? ⟨w.heap.size, 1, none⟩ = some (.int .i64 x.f0.f1) := (blk_cell hgs2 1).trans rfl
 have h2 : w2.cell? ⟨w.heap.size, 2, none⟩ = some (.slice A2 x.f0.f2.length c2) := (blk_cell hgs2 2).trans rfl
 have h3 : w2.cell? ⟨w.heap.size, 3, none⟩ = some (.string x.f1.f0) := (blk_cell hgs2 3).trans rfl
 have h4 : w2.cell? ⟨w.heap.size, 4, none⟩ = some (.slice A4 x.f1.f1.length c4) := (blk_cell hgs2 4).trans rfl
 have h5 : w2.cell? ⟨w.heap.size, 5, none⟩ = some (.int .i64 x.f2) := (blk_cell hgs2 5).trans rfl
 have h6 : w2.cell? ⟨w.heap.size, 6, none⟩ = some (.int .i64 x.f3) := (blk_cell hgs2 6).trans rfl
 have h7 : w2.cell? ⟨w.heap.size, 7, none⟩ = some (.slice A7 x.f4.length c7) := (blk_cell hgs2 7).trans rfl
 have h8 : w2.cell? ⟨w.heap.size, 8, none⟩ = some (.bool x.f5) := (blk_cell hgs2 8).trans rfl
 have HB2s := Aside0.mk (Below.refl w2.heap.size w2)
 cases bm with
 | false =>
  go_wp2
  go_ret
  refine ⟨(show Ending.returned (.bool false) = Ending.returned (.bool R) from ?_), HB2.out⟩
  rw [HRR.out]; unfold endedOk; rw [← EM.out]; rfl
 | true =>
  have hes : endedOk x = (if x.f2 = 7 then true else if x.f2 = 6 then !someOf x [1, 2] else if x.f2 = 3 then !someOf x [2] && !(x.f5 && someOf x [1]) else false) := by unfold endedOk; rw [← EM.out]; rfl
  have HES := Aside0.mk hes
  clear hes
  have hb3 : Below w2.heap.size w2 (w2.alloc O2) := below_alloc (Below.refl _ _) _
  have hg : (w2.alloc O2).heap[w2.heap.size]? = some (.cells #[.int .i64 x.f0.f0, .int .i64 x.f0.f1, .slice A2 x.f0.f2.length c2, .string x.f1.f0, .slice A4 x.f1.f1.length c4, .int .i64 x.f2, .int .i64 x.f3, .slice A7 x.f4.length c7, .bool x.f5] 88 (0, 0)) := by rw [HO2.out]; exact blk_new w2 _
  have HHH : Aside0 (HH (w2.alloc O2) w2.heap.size x) := ⟨A2, c2, A4, c4, A7, c7, hg, Kd.C_below (Kd.C_below HR2.out HB2.out) hb3, Kd.C_below (Kd.C_below HR4.out HB2.out) hb3, Kd.C_below (Kd.C_below HR7.out HB2.out) hb3⟩
  have HB3 := Aside0.mk (below_step HB2.out hb3)
  have hf8 : (w2.alloc O2).cell? ⟨w.heap.size, 8, none⟩ = some (.bool x.f5) := pw_cell_below hb3 h8
  have hs5 : (w2.alloc O2).cell? ⟨w.heap.size, 5, none⟩ = some (.int .i64 x.f2) := pw_cell_below hb3 h5
  have hs5u := hs5
  rw [HO2.out] at hs5u
  obtain ⟨W3, hW3⟩ : ∃ W3, W3 = w2.alloc O2 := ⟨_, rfl⟩
  rw [← hW3] at HHH HB3 hf8 hs5
  have HW3 := Aside0.mk (HO2.out ▸ hW3)
  have hsz : W3.heap.size = w2.heap.size + 1 := by rw [hW3, World.size_alloc]
  obtain ⟨G, hG⟩ : ∃ G, G = w2.heap.size := ⟨_, rfl⟩
  rw [← hG] at HHH hsz
  have HSZ := Aside0.mk hsz
  clear hsz
  clear hb3 hg hW3
  have s7 : (x.f2 == 7) = false := by rw [HST.out]; rfl
  have s6 : (x.f2 == 6) = false := by rw [HST.out]; rfl
  have s3 : (x.f2 == 3) = true := by rw [HST.out]; rfl
  obtain ⟨F, hF⟩ : ∃ F, x.f5 = F := ⟨_, rfl⟩
  rw [hF] at hf8
  have EF := Aside0.mk hF
  clear hF
  go_wp2_with (fail)
  rw [← HW3.out, ← hG]
  clear hG
  have HHA : Aside0 (∀ o, HH (W3.alloc o) G x) := ⟨fun o => HHH.out.below (below_alloc (Below.refl W3.heap.size W3) o)⟩
  refine (saga_holder_some.at G x _ _ [2] _ (HHA.out _) HXL.out (by simp) (HSZ.out ▸ lit1_reads W3 _ 2) (by simp)).mono ?_
  rintro e w5 ⟨rfl, hb5⟩
  have HB5 := Aside0.mk (below_step (below_alloc HB3.out _) hb5)
  have hf85 := pw_cell_below hb5 (show (World.alloc W3 _).cell? _ = _ from (World.cell?_alloc_lt _ _ _ (World.block_lt_of_cell? _ _ hf8)).trans hf8)
  have HHH5 := Aside0.mk ((HHA.out _).below hb5)
  clear hb5
  obtain ⟨b, hb⟩ : ∃ b, someOf x [2] = b := ⟨_, rfl⟩
  rw [hb]
  have EB := Aside0.mk hb
  clear hb
  cases b with
  | true =>
   go_wp2
   go_ret
   refine ⟨(show Ending.returned (.bool false) = Ending.returned (.bool R) from ?_), HB5.out⟩
   rw [HRR.out, HES.out, if_neg (by rw [HST.out]; decide), if_neg (by rw [HST.out]; decide), if_pos HST.out, EB.out]; rfl
  | false =>
   cases F with
   | false =>
    go_wp2
    go_ret
    refine ⟨(show Ending.returned (.bool true) = Ending.returned (.bool R) from ?_), HB5.out⟩
    rw [HRR.out, HES.out, if_neg (by rw [HST.out]; decide), if_neg (by rw [HST.out]; decide), if_pos HST.out, EB.out, EF.out]; rfl
   | true =>
    go_wp2_with (fail)
    have HHA5 : Aside0 (∀ o, HH (w5.alloc o) G x) := ⟨fun o => HHH5.out.below (below_alloc (Below.refl w5.heap.size w5) o)⟩
    refine (saga_holder_some.at G x _ _ [1] _ (HHA5.out _) HXL.out (by simp) (lit1_reads w5 _ 1) (by simp)).mono ?_
    rintro e w6 ⟨rfl, hb6⟩
    have HB6 := Aside0.mk (below_step (below_alloc HB5.out _) hb6)
    clear hb6
    obtain ⟨c, hc⟩ : ∃ b, someOf x [1] = b := ⟨_, rfl⟩
    rw [hc]
    have EC := Aside0.mk hc
    clear hc
    go_wp2
    go_ret
    refine ⟨(show Ending.returned (.bool (!c)) = Ending.returned (.bool R) from ?_), HB6.out⟩
    rw [HRR.out, HES.out, if_neg (by rw [HST.out]; decide), if_neg (by rw [HST.out]; decide), if_pos HST.out, EB.out, EF.out, EC.out]; cases c <;> rfl
set_option maxHeartbeats 1000000 in
set_option maxRecDepth 100000 in
theorem saga_Ended.at0 (x : S50) (A2 : Option Addr) (c2 : Nat) (A4 : Option Addr) (c4 : Nat) (A7 : Option Addr) (c7 : Nat) (w : World) (r2 : Kd.C k69 w A2 x.f0.f2.length x.f0.f2) (q2 : x.f0.f2.length ≤ c2) (r4 : Kd.C k60 w A4 x.f1.f1.length x.f1.f1) (q4 : x.f1.f1.length ≤ c4) (r7 : Kd.C k62 w A7 x.f4.length x.f4) (q7 : x.f4.length ≤ c7) (hst : x.f2 ≠ 3 ∧ x.f2 ≠ 6 ∧ x.f2 ≠ 7) (hxl : x.f4.length ≤ 1000) :
  Calls Tryd.prog 17 #[.agg #[.int .i64 x.f0.f0, .int .i64 x.f0.f1, .slice A2 x.f0.f2.length c2, .string x.f1.f0, .slice A4 x.f1.f1.length c4, .int .i64 x.f2, .int .i64 x.f3, .slice A7 x.f4.length c7, .bool x.f5]] w (fun e W' => e = .returned ( .bool (endedOk x)) ∧ Below w.heap.size w W') := by
 obtain ⟨R, hR⟩ : ∃ R, R = endedOk x := ⟨_, rfl⟩
 rw [← hR]
 have HRR := Aside0.mk hR
 clear hR
 obtain ⟨O1, hO1⟩ : ∃ O1, O1 = (Obj.cells #[.int .i64 x.f0.f0, .int .i64 x.f0.f1, .slice A2 x.f0.f2.length c2, .string x.f1.f0, .slice A4 x.f1.f1.length c4, .int .i64 x.f2, .int .i64 x.f3, .slice A7 x.f4.length c7, .bool x.f5] 50) := ⟨_, rfl⟩
 obtain ⟨O2, hO2⟩ : ∃ O2, O2 = (Obj.cells #[.int .i64 x.f0.f0, .int .i64 x.f0.f1, .slice A2 x.f0.f2.length c2, .string x.f1.f0, .slice A4 x.f1.f1.length c4, .int .i64 x.f2, .int .i64 x.f3, .slice A7 x.f4.length c7, .bool x.f5] 88) := ⟨_, rfl⟩
 have hb1 : Below w.heap.size w (w.alloc O1) := below_alloc (Below.refl _ _) _
 have hgs : (w.alloc O1).heap[w.heap.size]? = some (.cells #[.int .i64 x.f0.f0, .int .i64 x.f0.f1, .slice A2 x.f0.f2.length c2, .string x.f1.f0, .slice A4 x.f1.f1.length c4, .int .i64 x.f2, .int .i64 x.f3, .slice A7 x.f4.length c7, .bool x.f5] 50 (0, 0)) := by rw [hO1]; exact blk_new w _
 obtain ⟨W1, hW1⟩ : ∃ W1, W1 = w.alloc O1 := ⟨_, rfl⟩
 rw [← hW1] at hgs hb1
 have HXL := Aside0.mk hxl
 have HST := Aside0.mk hst
 clear hst
 have HR2 := Aside0.mk r2
 have HR4 := Aside0.mk r4
 have HR7 := Aside0.mk r7
 have HB1 := Aside0.mk hb1
 have HGS := Aside0.mk hgs
 have HW1 := Aside0.mk (hO1 ▸ hW1)
 have HO2 := Aside0.mk hO2
 have HQ2 := Aside0.mk q2
 have HQ4 := Aside0.mk q4
 have HQ7 := Aside0.mk q7
 clear r2 r4 r7 hb1 hW1 hO1 hO2 hgs q2 q4 q7
 obtain ⟨bm, hbm⟩ : ∃ b, b = sagaOk x := ⟨_, rfl⟩
 have EM := Aside0.mk hbm
 go_enter Tryd.func17, Tryd.ntmps17
 go_wp2_with (fail)
 rw [← HW1.out]
 refine (saga_May.calls x.f0.f0 x.f0.f1 A2 c2 x.f0.f2 x.f1.f0 A4 c4 x.f1.f1 x.f2 x.f3 A7 c7 x.f4 x.f5 (if bm = true then 0 else 230) _ (Kd.C_below HR2.out HB1.out) HQ2.out (Kd.C_below HR4.out HB1.out) HQ4.out (Kd.C_below HR7.out HB1.out) HQ7.out (by rw [EM.out]; rfl)).mono ?_
 rintro e w2 ⟨rfl, hb2⟩
 have HB2 := Aside0.mk (below_step HB1.out hb2)
 have hgs2 := blk_below HGS.out hb2
 clear hb2 hbm
 have h0 : w2.cell? ⟨w.heap.size, 0, none⟩ = some (.int .i64 x.f0.f0) := (blk_cell hgs2 0).trans rfl
 have h1 : w2.cell? ⟨w.heap.size, 1, none⟩ = some (.int .i64 x.f0.f1) := (blk_cell hgs2 1).trans rfl
 have h2 : w2.cell? ⟨w.heap.size, 2, none⟩ = some (.slice A2 x.f0.f2.length c2) := (blk_cell hgs2 2).trans rfl
 have h3 : w2.cell? ⟨w.heap.size, 3, none⟩ = some (.string x.f1.f0) := (blk_cell hgs2 3).trans rfl
 have h4 : w2.cell? ⟨w.heap.size, 4, none⟩ = some (.slice A4 x.f1.f1.length c4) := (blk_cell hgs2 4).trans rfl
 have h5 : w2.cell? ⟨w.heap.size, 5, none⟩ = some (.int .i64 x.f2) := (blk_cell hgs2 5).trans rfl
 have h6 : w2.cell? ⟨w.heap.size, 6, none⟩ = some (.int .i64 x.f3) := (blk_cell hgs2 6).trans rfl
 have h7 : w2.cell? ⟨w.heap.size, 7, none⟩ = some (.slice A7 x.f4.length c7) := (blk_cell hgs2 7).trans rfl
 have h8 : w2.cell? ⟨w.heap.size, 8, none⟩ = some (.bool x.f5) := (blk_cell hgs2 8).trans rfl
 have HB2s := Aside0.mk (Below.refl w2.heap.size w2)
 cases bm with
 | false =>
  go_wp2
  go_ret
  refine ⟨(show Ending.returned (.bool false) = Ending.returned (.bool R) from ?_), HB2.out⟩
  rw [HRR.out]; unfold endedOk; rw [← EM.out]; rfl
 | true =>
  have hes : endedOk x = (if x.f2 = 7 then true else if x.f2 = 6 then !someOf x [1, 2] else if x.f2 = 3 then !someOf x [2] && !(x.f5 && someOf x [1]) else false) := by unfold endedOk; rw [← EM.out]; rfl
  have HES := Aside0.mk hes
  clear hes
  have hb3 : Below w2.heap.size w2 (w2.alloc O2) := below_alloc (Below.refl _ _) _
  have hg : (w2.alloc O2).heap[w2.heap.size]? = some (.cells #[.int .i64 x.f0.f0, .int .i64 x.f0.f1, .slice A2 x.f0.f2.length c2, .string x.f1.f0, .slice A4 x.f1.f1.length c4, .int .i64 x.f2, .int .i64 x.f3, .slice A7 x.f4.length c7, .bool x.f5] 88 (0, 0)) := by rw [HO2.out]; exact blk_new w2 _
  have HHH : Aside0 (HH (w2.alloc O2) w2.heap.size x) := ⟨A2, c2, A4, c4, A7, c7, hg, Kd.C_below (Kd.C_below HR2.out HB2.out) hb3, Kd.C_below (Kd.C_below HR4.out HB2.out) hb3, Kd.C_below (Kd.C_below HR7.out HB2.out) hb3⟩
  have HB3 := Aside0.mk (below_step HB2.out hb3)
  have hf8 : (w2.alloc O2).cell? ⟨w.heap.size, 8, none⟩ = some (.bool x.f5) := pw_cell_below hb3 h8
  have hs5 : (w2.alloc O2).cell? ⟨w.heap.size, 5, none⟩ = some (.int .i64 x.f2) := pw_cell_below hb3 h5
  have hs5u := hs5
  rw [HO2.out] at hs5u
  obtain ⟨W3, hW3⟩ : ∃ W3, W3 = w2.alloc O2 := ⟨_, rfl⟩
  rw [← hW3] at HHH HB3 hf8 hs5
  have HW3 := Aside0.mk (HO2.out ▸ hW3)
  have hsz : W3.heap.size = w2.heap.size + 1 := by rw [hW3, World.size_alloc]
  obtain ⟨G, hG⟩ : ∃ G, G = w2.heap.size := ⟨_, rfl⟩
  rw [← hG] at HHH hsz
  have HSZ := Aside0.mk hsz
  clear hsz
  clear hb3 hg hW3
  have s3 : (x.f2 == 3) = false := beq_eq_false_iff_ne.mpr HST.out.1
  have s6 : (x.f2 == 6) = false := beq_eq_false_iff_ne.mpr HST.out.2.1
  have s7 : (x.f2 == 7) = false := beq_eq_false_iff_ne.mpr HST.out.2.2
  go_wp2
  go_ret
  refine ⟨(show Ending.returned (.bool false) = Ending.returned (.bool R) from ?_), HW3.out ▸ HB3.out⟩
  rw [HRR.out, HES.out, if_neg HST.out.2.2, if_neg HST.out.2.1, if_neg HST.out.1]
def saga_Ended.f (a0_0 : Int) (a0_1 : Int) (l0_2 : List (S69)) (a0_3 : ByteArray) (l0_4 : List (S60)) (a0_5 : Int) (a0_6 : Int) (l0_7 : List (S62)) (a0_8 : Bool) : Option Bool := if l0_7.length ≤ 1000 then some (endedOk ⟨⟨a0_0, a0_1, l0_2⟩, ⟨a0_3, l0_4⟩, a0_5, a0_6, l0_7, a0_8⟩) else none
theorem saga_Ended.calls (a0_0 : Int) (a0_1 : Int) (A0_2 : Option Addr) (c0_2 : Nat) (l0_2 : List (S69)) (a0_3 : ByteArray) (A0_4 : Option Addr) (c0_4 : Nat) (l0_4 : List (S60)) (a0_5 : Int) (a0_6 : Int) (A0_7 : Option Addr) (c0_7 : Nat) (l0_7 : List (S62)) (a0_8 : Bool) (r : Bool) (w : World) (hr0_2 : Kd.C k69 w A0_2 l0_2.length l0_2) (hc0_2 : l0_2.length ≤ c0_2) (hr0_4 : Kd.C k60 w A0_4 l0_4.length l0_4) (hc0_4 : l0_4.length ≤ c0_4) (hr0_7 : Kd.C k62 w A0_7 l0_7.length l0_7) (hc0_7 : l0_7.length ≤ c0_7) (h : saga_Ended.f a0_0 a0_1 l0_2 a0_3 l0_4 a0_5 a0_6 l0_7 a0_8 = some r) :
  Calls Tryd.prog 17 #[.agg #[.int .i64 a0_0, .int .i64 a0_1, .slice A0_2 l0_2.length c0_2, .string a0_3, .slice A0_4 l0_4.length c0_4, .int .i64 a0_5, .int .i64 a0_6, .slice A0_7 l0_7.length c0_7, .bool a0_8]] w fun e w' => e = .returned (.bool r) ∧ Below w.heap.size w w' := by
 unfold saga_Ended.f at h
 by_cases hl : l0_7.length ≤ 1000
 ·rw [if_pos hl] at h
  obtain rfl := Option.some.inj h
  by_cases h3 : a0_5 = 3
  ·exact saga_Ended.at3 ⟨⟨a0_0, a0_1, l0_2⟩, ⟨a0_3, l0_4⟩, a0_5, a0_6, l0_7, a0_8⟩ A0_2 c0_2 A0_4 c0_4 A0_7 c0_7 w hr0_2 hc0_2 hr0_4 hc0_4 hr0_7 hc0_7 h3 hl
  by_cases h6 : a0_5 = 6
  ·exact saga_Ended.at6 ⟨⟨a0_0, a0_1, l0_2⟩, ⟨a0_3, l0_4⟩, a0_5, a0_6, l0_7, a0_8⟩ A0_2 c0_2 A0_4 c0_4 A0_7 c0_7 w hr0_2 hc0_2 hr0_4 hc0_4 hr0_7 hc0_7 h6 hl
  by_cases h7 : a0_5 = 7
  ·exact saga_Ended.at7 ⟨⟨a0_0, a0_1, l0_2⟩, ⟨a0_3, l0_4⟩, a0_5, a0_6, l0_7, a0_8⟩ A0_2 c0_2 A0_4 c0_4 A0_7 c0_7 w hr0_2 hc0_2 hr0_4 hc0_4 hr0_7 hc0_7 h7 hl
  exact saga_Ended.at0 ⟨⟨a0_0, a0_1, l0_2⟩, ⟨a0_3, l0_4⟩, a0_5, a0_6, l0_7, a0_8⟩ A0_2 c0_2 A0_4 c0_4 A0_7 c0_7 w hr0_2 hc0_2 hr0_4 hc0_4 hr0_7 hc0_7 ⟨h3, h6, h7⟩ hl
 ·rw [if_neg hl] at h; cases h

end Go.Proofs.YtidobdhkncaljaaDoorK
