-- made by hprint.py out of the translation and the hand texts
import Derived.Test.YtidobdhkncaljaaDoorK0
import Derived.Test.YtidobdhkncaljaaDoorK3
import Derived.Test.YtidobdhkncaljaaDoorK4
import Derived.Test.YtidobdhkncaljaaDoorK9
namespace Go.Proofs.YtidobdhkncaljaaDoorK
open Go.RowKit Go.Proofs.YtidobdhkncaljaaDoorW.PrintWords Go.Proofs.YtidobdhkncaljaaDoorW.PrintLast Go.Proofs.YtidobdhkncaljaaDoorW.PrintMore
attribute [local go_sem] max2_int min2_int max_two min_two max_three min_three max_four min_four   -- for this text's walks alone
set_option linter.unusedVariables false
set_option linter.unusedSimpArgs false

/-! ### child_Tell: function 43, by hand -/
/-- What a saga tells its parent: kind, id, definition, reason; false: nothing. -/
def tellOf (x : S50) : Int × Int × Int × List S69 × ByteArray × Int × Bool :=
  if (sagaOk x && decide (0 < x.f0.f2.length)) = true then
    (if x.f2 = 2 then (5, x.f0.f0, x.f0.f1, x.f0.f2, ⟨#[]⟩, 0, true)
     else if x.f2 = 3 then (7, x.f0.f0, x.f0.f1, x.f0.f2, ⟨#[]⟩, 0, true)
     else if x.f2 = 6 ∨ x.f2 = 7 then (6, x.f0.f0, x.f0.f1, x.f0.f2, ⟨#[]⟩, if x.f3 = 0 then 6 else x.f3, true)
     else (0, 0, 0, [], ⟨#[]⟩, 0, false))
  else (0, 0, 0, [], ⟨#[]⟩, 0, false)
set_option maxHeartbeats 2000000 in
set_option maxRecDepth 100000 in
theorem child_Tell.at (x : S50) (A2 : Option Addr) (c2 : Nat) (A4 : Option Addr) (c4 : Nat) (A7 : Option Addr) (c7 : Nat) (w : World) (r2 : Kd.C k69 w A2 x.f0.f2.length x.f0.f2) (q2 : x.f0.f2.length ≤ c2) (r4 : Kd.C k60 w A4 x.f1.f1.length x.f1.f1) (q4 : x.f1.f1.length ≤ c4) (r7 : Kd.C k62 w A7 x.f4.length x.f4) (q7 : x.f4.length ≤ c7) (t1 t2 t3 : Int) (t4 : List S69) (t5 : ByteArray) (t6 : Int) (t7 : Bool) (hT : (t1, t2, t3, t4, t5, t6, t7) = tellOf x) :
    Calls Tryd.prog 43 #[.agg #[.int .i64 x.f0.f0, .int .i64 x.f0.f1, .slice A2 x.f0.f2.length c2, .string x.f1.f0, .slice A4 x.f1.f1.length c4, .int .i64 x.f2, .int .i64 x.f3, .slice A7 x.f4.length c7, .bool x.f5]] w (fun e W' => ∃ v3 : Value, e = .returned (.tuple #[.agg #[.int .i64 t1, .int .i64 t2, .int .i64 t3, v3, .string t5, .int .i64 t6], .bool t7]) ∧ Kd.R k69 69 W' w.heap.size (fun _ => True) v3 t4 ∧ Below w.heap.size w W') := by
  obtain ⟨bm, hbm⟩ : ∃ b, b = sagaOk x := ⟨_, rfl⟩
  have hmay : saga_May.f x.f0.f0 x.f0.f1 x.f0.f2 x.f1.f0 x.f1.f1 x.f2 x.f3 x.f4 x.f5 = some (if bm = true then 0 else 230) := by rw [hbm]; rfl
  have hlen : bm = true → x.f0.f2.length ≤ 4 := by
    intro h
    rw [hbm] at h
    have hid : idOk x.f0.f0 x.f0.f1 x.f0.f2 = true := by unfold sagaOk at h; simp only [Bool.and_eq_true] at h; exact h.1
    simp [idOk] at hid
    omega
  unfold tellOf at hT
  rw [← hbm] at hT
  obtain ⟨W2, hW2⟩ : ∃ W2, W2 = (w.alloc (.cells #[.int .i64 x.f0.f0, .int .i64 x.f0.f1, .slice A2 x.f0.f2.length c2, .string x.f1.f0, .slice A4 x.f1.f1.length c4, .int .i64 x.f2, .int .i64 x.f3, .slice A7 x.f4.length c7, .bool x.f5] 50)).alloc (.cells #[.int .i64 0, .int .i64 0, .int .i64 0, .slice none 0 0, .string (⟨#[]⟩ : ByteArray), .int .i64 0] 42) := ⟨_, rfl⟩
  have hb2 : Below w.heap.size w W2 := by rw [hW2]; exact below_alloc (below_alloc (Below.refl _ _) _) _
  have hbx : W2.heap[w.heap.size]? = some (.cells #[.int .i64 x.f0.f0, .int .i64 x.f0.f1, .slice A2 x.f0.f2.length c2, .string x.f1.f0, .slice A4 x.f1.f1.length c4, .int .i64 x.f2, .int .i64 x.f3, .slice A7 x.f4.length c7, .bool x.f5] 50 (0, 0)) := by rw [hW2]; exact blk_alloc (blk_new w _) _
  have hbz : W2.heap[w.heap.size + 1]? = some (.cells #[.int .i64 0, .int .i64 0, .int .i64 0, .slice none 0 0, .string (⟨#[]⟩ : ByteArray), .int .i64 0] 42 (0, 0)) := by
    rw [hW2]
    have h := blk_new (w.alloc (.cells #[.int .i64 x.f0.f0, .int .i64 x.f0.f1, .slice A2 x.f0.f2.length c2, .string x.f1.f0, .slice A4 x.f1.f1.length c4, .int .i64 x.f2, .int .i64 x.f3, .slice A7 x.f4.length c7, .bool x.f5] 50)) (.cells #[.int .i64 0, .int .i64 0, .int .i64 0, .slice none 0 0, .string (⟨#[]⟩ : ByteArray), .int .i64 0] 42)
    rw [World.size_alloc] at h
    exact h
  have HMAY := Aside0.mk hmay
  have HT := Aside0.mk hT
  have HLEN := Aside0.mk hlen
  have HR2 := Aside0.mk r2
  have HR4 := Aside0.mk r4
  have HR7 := Aside0.mk r7
  have HQ2 := Aside0.mk q2
  have HQ4 := Aside0.mk q4
  have HQ7 := Aside0.mk q7
  have HB2 := Aside0.mk hb2
  have HBX := Aside0.mk hbx
  have HBZ := Aside0.mk hbz
  have HW2 := Aside0.mk hW2
  clear r2 r4 r7 q2 q4 q7 hb2 hbx hbz hW2 hT hmay hlen hbm
  go_enter Tryd.func43, Tryd.ntmps43
  go_wp2_with (fail)
  rw [← HW2.out]
  refine (saga_May.calls x.f0.f0 x.f0.f1 A2 c2 x.f0.f2 x.f1.f0 A4 c4 x.f1.f1 x.f2 x.f3 A7 c7 x.f4 x.f5 (if bm = true then 0 else 230) _ (Kd.C_below HR2.out HB2.out) HQ2.out (Kd.C_below HR4.out HB2.out) HQ4.out (Kd.C_below HR7.out HB2.out) HQ7.out HMAY.out).mono ?_
  rintro e w5 ⟨rfl, hb5⟩
  have HB5 := Aside0.mk (below_step HB2.out hb5)
  have hbx := blk_below HBX.out hb5
  have hbz := blk_below HBZ.out hb5
  have HBX := Aside0.mk hbx
  have HBZ := Aside0.mk hbz
  have z0x : w5.cell? ⟨w.heap.size + 1, 0, none⟩ = some (.int .i64 0) := (blk_cell hbz 0).trans rfl
  have zf0x := blk_frozen hbz 0
  have z1x : w5.cell? ⟨w.heap.size + 1, 1, none⟩ = some (.int .i64 0) := (blk_cell hbz 1).trans rfl
  have zf1x := blk_frozen hbz 1
  have z2x : w5.cell? ⟨w.heap.size + 1, 2, none⟩ = some (.int .i64 0) := (blk_cell hbz 2).trans rfl
  have zf2x := blk_frozen hbz 2
  have z3x : w5.cell? ⟨w.heap.size + 1, 3, none⟩ = some (.slice none 0 0) := (blk_cell hbz 3).trans rfl
  have zf3x := blk_frozen hbz 3
  have z4x : w5.cell? ⟨w.heap.size + 1, 4, none⟩ = some (.string (⟨#[]⟩ : ByteArray)) := (blk_cell hbz 4).trans rfl
  have zf4x := blk_frozen hbz 4
  have z5x : w5.cell? ⟨w.heap.size + 1, 5, none⟩ = some (.int .i64 0) := (blk_cell hbz 5).trans rfl
  have zf5x := blk_frozen hbz 5
  have x0x : w5.cell? ⟨w.heap.size, 0, none⟩ = some (.int .i64 x.f0.f0) := (blk_cell hbx 0).trans rfl
  have x1x : w5.cell? ⟨w.heap.size, 1, none⟩ = some (.int .i64 x.f0.f1) := (blk_cell hbx 1).trans rfl
  have x2x : w5.cell? ⟨w.heap.size, 2, none⟩ = some (.slice A2 x.f0.f2.length c2) := (blk_cell hbx 2).trans rfl
  have x3x : w5.cell? ⟨w.heap.size, 3, none⟩ = some (.string x.f1.f0) := (blk_cell hbx 3).trans rfl
  have x4x : w5.cell? ⟨w.heap.size, 4, none⟩ = some (.slice A4 x.f1.f1.length c4) := (blk_cell hbx 4).trans rfl
  have x5x : w5.cell? ⟨w.heap.size, 5, none⟩ = some (.int .i64 x.f2) := (blk_cell hbx 5).trans rfl
  have x6x : w5.cell? ⟨w.heap.size, 6, none⟩ = some (.int .i64 x.f3) := (blk_cell hbx 6).trans rfl
  have x7x : w5.cell? ⟨w.heap.size, 7, none⟩ = some (.slice A7 x.f4.length c7) := (blk_cell hbx 7).trans rfl
  have x8x : w5.cell? ⟨w.heap.size, 8, none⟩ = some (.bool x.f5) := (blk_cell hbx 8).trans rfl
  clear hb5 hbx hbz
  have GE := Aside0.mk (show w.heap.size ≤ w.heap.size + 1 from Nat.le_succ _)
  cases bm with
  | false =>
    have HZ := Aside0.mk (show (if (false && decide (0 < x.f0.f2.length)) = true then (if x.f2 = 2 then (5, x.f0.f0, x.f0.f1, x.f0.f2, ⟨#[]⟩, 0, true) else if x.f2 = 3 then (7, x.f0.f0, x.f0.f1, x.f0.f2, ⟨#[]⟩, 0, true) else if x.f2 = 6 ∨ x.f2 = 7 then (6, x.f0.f0, x.f0.f1, x.f0.f2, ⟨#[]⟩, if x.f3 = 0 then 6 else x.f3, true) else (0, 0, 0, [], ⟨#[]⟩, 0, false)) else (0, 0, 0, [], ⟨#[]⟩, 0, false)) = ((0, 0, 0, [], ⟨#[]⟩, 0, false) : Int × Int × Int × List S69 × ByteArray × Int × Bool) from by simp)
    go_wp2
    refine bodyPost_ret (results_ct rfl _ _ (w.heap.size + 1) 42 #[.int .i64 0, .int .i64 0, .int .i64 0, .slice none 0 0, .string (⟨#[]⟩ : ByteArray), .int .i64 0] (0, 0) _ rfl (blk_put (blk_put (blk_put (blk_put (blk_put (blk_put HBZ.out 0 _ rfl) 1 _ rfl) 2 _ rfl) 3 _ rfl) 4 _ rfl) 5 _ rfl) Tryd.underlying42 rfl (by kernel_rfl)) rfl ?_
    have hq := HT.out
    rw [HZ.out] at hq
    obtain ⟨rfl, rfl, rfl, rfl, rfl, rfl, rfl⟩ : t1 = 0 ∧ t2 = 0 ∧ t3 = 0 ∧ t4 = [] ∧ t5 = ⟨#[]⟩ ∧ t6 = 0 ∧ t7 = false := by simpa using hq
    exact ⟨_, rfl, Kd.R_nil _ _ _ _ _, below_set (below_set (below_set (below_set (below_set (below_set HB5.out GE.out) GE.out) GE.out) GE.out) GE.out) GE.out⟩
  | true =>
    by_cases h0 : x.f0.f2.length = 0
    · have HZ := Aside0.mk (show (if (true && decide (0 < x.f0.f2.length)) = true then (if x.f2 = 2 then (5, x.f0.f0, x.f0.f1, x.f0.f2, ⟨#[]⟩, 0, true) else if x.f2 = 3 then (7, x.f0.f0, x.f0.f1, x.f0.f2, ⟨#[]⟩, 0, true) else if x.f2 = 6 ∨ x.f2 = 7 then (6, x.f0.f0, x.f0.f1, x.f0.f2, ⟨#[]⟩, if x.f3 = 0 then 6 else x.f3, true) else (0, 0, 0, [], ⟨#[]⟩, 0, false)) else (0, 0, 0, [], ⟨#[]⟩, 0, false)) = ((0, 0, 0, [], ⟨#[]⟩, 0, false) : Int × Int × Int × List S69 × ByteArray × Int × Bool) from by simp [h0])
      go_wp2
      refine bodyPost_ret (results_ct rfl _ _ (w.heap.size + 1) 42 #[.int .i64 0, .int .i64 0, .int .i64 0, .slice none 0 0, .string (⟨#[]⟩ : ByteArray), .int .i64 0] (0, 0) _ rfl (blk_put (blk_put (blk_put (blk_put (blk_put (blk_put HBZ.out 0 _ rfl) 1 _ rfl) 2 _ rfl) 3 _ rfl) 4 _ rfl) 5 _ rfl) Tryd.underlying42 rfl (by kernel_rfl)) rfl ?_
      have hq := HT.out
      rw [HZ.out] at hq
      obtain ⟨rfl, rfl, rfl, rfl, rfl, rfl, rfl⟩ : t1 = 0 ∧ t2 = 0 ∧ t3 = 0 ∧ t4 = [] ∧ t5 = ⟨#[]⟩ ∧ t6 = 0 ∧ t7 = false := by simpa using hq
      exact ⟨_, rfl, Kd.R_nil _ _ _ _ _, below_set (below_set (below_set (below_set (below_set (below_set HB5.out GE.out) GE.out) GE.out) GE.out) GE.out) GE.out⟩
    · have h0p : 0 < x.f0.f2.length := by omega
      have HL0 := Aside0.mk h0p
      have hlen := HLEN.out rfl
      have HOW := Aside0.mk (show child_owned.f x.f0.f0 x.f0.f1 x.f0.f2 = some (x.f0.f0, x.f0.f1, x.f0.f2) by
        unfold child_owned.f
        simp only [slices_Clone_api_Hop_api_Hop.f]
        rw [if_pos (by omega)]
        rfl)
      go_wp2_with (fail)
      refine (child_owned.calls x.f0.f0 x.f0.f1 A2 c2 x.f0.f2 x.f0.f0 x.f0.f1 x.f0.f2 _ (Kd.C_below HR2.out HB5.out) HQ2.out HOW.out).mono ?_
      rintro e w6 ⟨vo, rfl, hrow, hb6⟩
      obtain ⟨Ao, co, eo⟩ := Kd.R_slice hrow
      subst eo
      have hbx := blk_below HBX.out hb6
      have hbz := blk_below HBZ.out hb6
      have HB6 := Aside0.mk (below_step HB5.out hb6)
      have HROW := Aside0.mk (Kd.R_lower hrow HB5.out.size)
      have HSZ := Aside0.mk hb6.size
      have HBX := Aside0.mk hbx
      have HBZ := Aside0.mk hbz
      clear hbx hbz hb6 hrow hlen z0x zf0x z1x zf1x z2x zf2x z3x zf3x z4x zf4x z5x zf5x x0x x1x x2x x3x x4x x5x x6x x7x x8x
      go_upto_region 4 with (fail)
      have hb7 := below_alloc HB6.out (.cells #[.int .i64 0, .int .i64 x.f0.f0, .int .i64 x.f0.f1, .slice Ao x.f0.f2.length co, .string (⟨#[]⟩ : ByteArray), .int .i64 0] 42)
      have hbn := blk_new w6 (.cells #[.int .i64 0, .int .i64 x.f0.f0, .int .i64 x.f0.f1, .slice Ao x.f0.f2.length co, .string (⟨#[]⟩ : ByteArray), .int .i64 0] 42)
      have hbx := blk_alloc HBX.out (.cells #[.int .i64 0, .int .i64 x.f0.f0, .int .i64 x.f0.f1, .slice Ao x.f0.f2.length co, .string (⟨#[]⟩ : ByteArray), .int .i64 0] 42)
      have hbz := blk_alloc HBZ.out (.cells #[.int .i64 0, .int .i64 x.f0.f0, .int .i64 x.f0.f1, .slice Ao x.f0.f2.length co, .string (⟨#[]⟩ : ByteArray), .int .i64 0] 42)
      have hrow := Kd.R_alloc HROW.out (.cells #[.int .i64 0, .int .i64 x.f0.f0, .int .i64 x.f0.f1, .slice Ao x.f0.f2.length co, .string (⟨#[]⟩ : ByteArray), .int .i64 0] 42)
      generalize w6.alloc (.cells #[.int .i64 0, .int .i64 x.f0.f0, .int .i64 x.f0.f1, .slice Ao x.f0.f2.length co, .string (⟨#[]⟩ : ByteArray), .int .i64 0] 42) = V at hb7 hbn hbx hbz hrow ⊢
      have hzn : w.heap.size + 1 ≠ w6.heap.size := by have := blk_lt HBZ.out; omega
      have hxn : w.heap.size ≠ w6.heap.size := by have := blk_lt HBX.out; omega
      have hge : w.heap.size ≤ w6.heap.size := HB6.out.size
      have hrown : ∀ k, (True ∧ k < w6.heap.size) → k ≠ w6.heap.size := fun k hk => by omega
      have HRO := Aside0.mk (show Kd.R k69 69 V w.heap.size (fun k => True ∧ k ≠ w6.heap.size ∧ k ≠ w.heap.size + 1) (.slice Ao x.f0.f2.length co) x.f0.f2 from Kd.R_mono (Kd.R_types (Kd.R_types hrow hbn (by decide)) hbz (by decide)) (fun k hk => ⟨hk.1.1, hk.1.2, hk.2⟩))
      have HZN := Aside0.mk hzn
      have HXN := Aside0.mk hxn
      have HGE := Aside0.mk hge
      have HB7 := Aside0.mk hb7
      have HBN := Aside0.mk hbn
      have HBX := Aside0.mk hbx
      have HBZ := Aside0.mk hbz
      have x0x : V.cell? ⟨w.heap.size, 0, none⟩ = some (.int .i64 x.f0.f0) := (blk_cell hbx 0).trans rfl
      have x1x : V.cell? ⟨w.heap.size, 1, none⟩ = some (.int .i64 x.f0.f1) := (blk_cell hbx 1).trans rfl
      have x2x : V.cell? ⟨w.heap.size, 2, none⟩ = some (.slice A2 x.f0.f2.length c2) := (blk_cell hbx 2).trans rfl
      have x3x : V.cell? ⟨w.heap.size, 3, none⟩ = some (.string x.f1.f0) := (blk_cell hbx 3).trans rfl
      have x4x : V.cell? ⟨w.heap.size, 4, none⟩ = some (.slice A4 x.f1.f1.length c4) := (blk_cell hbx 4).trans rfl
      have x5x : V.cell? ⟨w.heap.size, 5, none⟩ = some (.int .i64 x.f2) := (blk_cell hbx 5).trans rfl
      have x6x : V.cell? ⟨w.heap.size, 6, none⟩ = some (.int .i64 x.f3) := (blk_cell hbx 6).trans rfl
      have x7x : V.cell? ⟨w.heap.size, 7, none⟩ = some (.slice A7 x.f4.length c7) := (blk_cell hbx 7).trans rfl
      have x8x : V.cell? ⟨w.heap.size, 8, none⟩ = some (.bool x.f5) := (blk_cell hbx 8).trans rfl
      have n0x : V.cell? ⟨w6.heap.size, 0, none⟩ = some (.int .i64 0) := (blk_cell hbn 0).trans rfl
      have nf0x := blk_frozen hbn 0
      have n1x : V.cell? ⟨w6.heap.size, 1, none⟩ = some (.int .i64 x.f0.f0) := (blk_cell hbn 1).trans rfl
      have nf1x := blk_frozen hbn 1
      have n2x : V.cell? ⟨w6.heap.size, 2, none⟩ = some (.int .i64 x.f0.f1) := (blk_cell hbn 2).trans rfl
      have nf2x := blk_frozen hbn 2
      have n3x : V.cell? ⟨w6.heap.size, 3, none⟩ = some (.slice Ao x.f0.f2.length co) := (blk_cell hbn 3).trans rfl
      have nf3x := blk_frozen hbn 3
      have n4x : V.cell? ⟨w6.heap.size, 4, none⟩ = some (.string (⟨#[]⟩ : ByteArray)) := (blk_cell hbn 4).trans rfl
      have nf4x := blk_frozen hbn 4
      have n5x : V.cell? ⟨w6.heap.size, 5, none⟩ = some (.int .i64 0) := (blk_cell hbn 5).trans rfl
      have nf5x := blk_frozen hbn 5
      have k6 : ∀ u, (V.setCell ⟨w6.heap.size, 0, none⟩ u).cell? ⟨w.heap.size, 6, none⟩ = some (.int .i64 x.f3) := fun u => (blk_cell (blk_far hbx (p := ⟨w6.heap.size, 0, none⟩) hxn u) 6).trans rfl
      have z0x : V.cell? ⟨w.heap.size + 1, 0, none⟩ = some (.int .i64 0) := (blk_cell hbz 0).trans rfl
      have zf0x := blk_frozen hbz 0
      have z1x : V.cell? ⟨w.heap.size + 1, 1, none⟩ = some (.int .i64 0) := (blk_cell hbz 1).trans rfl
      have zf1x := blk_frozen hbz 1
      have z2x : V.cell? ⟨w.heap.size + 1, 2, none⟩ = some (.int .i64 0) := (blk_cell hbz 2).trans rfl
      have zf2x := blk_frozen hbz 2
      have z3x : V.cell? ⟨w.heap.size + 1, 3, none⟩ = some (.slice none 0 0) := (blk_cell hbz 3).trans rfl
      have zf3x := blk_frozen hbz 3
      have z4x : V.cell? ⟨w.heap.size + 1, 4, none⟩ = some (.string (⟨#[]⟩ : ByteArray)) := (blk_cell hbz 4).trans rfl
      have zf4x := blk_frozen hbz 4
      have z5x : V.cell? ⟨w.heap.size + 1, 5, none⟩ = some (.int .i64 0) := (blk_cell hbz 5).trans rfl
      have zf5x := blk_frozen hbz 5
      clear hrown hb7 hbn hbx hbz hrow hzn hxn hge h0 h0p
      have hT := HT.out
      simp only [Bool.true_and, HL0.out, decide_true, if_true] at hT
      by_cases a2 : x.f2 = 2
      · obtain ⟨rfl, rfl, rfl, rfl, rfl, rfl, rfl⟩ : t1 = 5 ∧ t2 = x.f0.f0 ∧ t3 = x.f0.f1 ∧ t4 = x.f0.f2 ∧ t5 = ⟨#[]⟩ ∧ t6 = 0 ∧ t7 = true := by simpa [a2] using hT
        clear hT
        rw [a2] at x5x
        have A2 := Aside0.mk a2
        clear a2
        go_upto_region 15 with (fail)
        have hb8 := (below_set (j := 0) (v := .int .i64 5) HB7.out HGE.out)
        have hn8 := (blk_put HBN.out 0 (.int .i64 5) rfl)
        have hbz := (blk_far HBZ.out (p := ⟨w6.heap.size, 0, none⟩) HZN.out (.int .i64 5))
        have hr8 := (Kd.R_far (p := ⟨w6.heap.size, 0, none⟩) HRO.out (fun k hk => hk.2.1) (.int .i64 5))
        generalize (V.setCell ⟨w6.heap.size, 0, none⟩ (.int .i64 5)) = V8 at hb8 hn8 hbz hr8 ⊢
        have HB8 := Aside0.mk hb8
        have HBZ8 := Aside0.mk hbz
        have HR8 := Aside0.mk hr8
        have p0x : V8.cell? ⟨w6.heap.size, 0, none⟩ = some (.int .i64 5) := (blk_cell hn8 0).trans rfl
        have p1x : V8.cell? ⟨w6.heap.size, 1, none⟩ = some (.int .i64 x.f0.f0) := (blk_cell hn8 1).trans rfl
        have p2x : V8.cell? ⟨w6.heap.size, 2, none⟩ = some (.int .i64 x.f0.f1) := (blk_cell hn8 2).trans rfl
        have p3x : V8.cell? ⟨w6.heap.size, 3, none⟩ = some (.slice Ao x.f0.f2.length co) := (blk_cell hn8 3).trans rfl
        have p4x : V8.cell? ⟨w6.heap.size, 4, none⟩ = some (.string (⟨#[]⟩ : ByteArray)) := (blk_cell hn8 4).trans rfl
        have p5x : V8.cell? ⟨w6.heap.size, 5, none⟩ = some (.int .i64 0) := (blk_cell hn8 5).trans rfl
        have y0x : V8.cell? ⟨w.heap.size + 1, 0, none⟩ = some (.int .i64 0) := (blk_cell hbz 0).trans rfl
        have yf0x := blk_frozen hbz 0
        have y1x : V8.cell? ⟨w.heap.size + 1, 1, none⟩ = some (.int .i64 0) := (blk_cell hbz 1).trans rfl
        have yf1x := blk_frozen hbz 1
        have y2x : V8.cell? ⟨w.heap.size + 1, 2, none⟩ = some (.int .i64 0) := (blk_cell hbz 2).trans rfl
        have yf2x := blk_frozen hbz 2
        have y3x : V8.cell? ⟨w.heap.size + 1, 3, none⟩ = some (.slice none 0 0) := (blk_cell hbz 3).trans rfl
        have yf3x := blk_frozen hbz 3
        have y4x : V8.cell? ⟨w.heap.size + 1, 4, none⟩ = some (.string (⟨#[]⟩ : ByteArray)) := (blk_cell hbz 4).trans rfl
        have yf4x := blk_frozen hbz 4
        have y5x : V8.cell? ⟨w.heap.size + 1, 5, none⟩ = some (.int .i64 0) := (blk_cell hbz 5).trans rfl
        have yf5x := blk_frozen hbz 5
        clear hb8 hn8 hbz hr8 k6 n0x nf0x z0x zf0x n1x nf1x z1x zf1x n2x nf2x z2x zf2x n3x nf3x z3x zf3x n4x nf4x z4x zf4x n5x nf5x z5x zf5x x0x x1x x2x x3x x4x x5x x6x x7x x8x
        go_wp2
        refine bodyPost_ret (results_ct rfl _ _ (w.heap.size + 1) 42 #[.int .i64 5, .int .i64 x.f0.f0, .int .i64 x.f0.f1, .slice Ao x.f0.f2.length co, .string (⟨#[]⟩ : ByteArray), .int .i64 0] (0, 0) _ rfl (blk_put (blk_put (blk_put (blk_put (blk_put (blk_put HBZ8.out 0 _ rfl) 1 _ rfl) 2 _ rfl) 3 _ rfl) 4 _ rfl) 5 _ rfl) Tryd.underlying42 rfl (by kernel_rfl)) rfl ?_
        exact ⟨_, rfl, Kd.R_mono (Kd.R_far (p := ⟨w.heap.size + 1, 5, none⟩) (Kd.R_far (p := ⟨w.heap.size + 1, 4, none⟩) (Kd.R_far (p := ⟨w.heap.size + 1, 3, none⟩) (Kd.R_far (p := ⟨w.heap.size + 1, 2, none⟩) (Kd.R_far (p := ⟨w.heap.size + 1, 1, none⟩) (Kd.R_far (p := ⟨w.heap.size + 1, 0, none⟩) HR8.out (fun k hk => hk.2.2) _) (fun k hk => hk.2.2) _) (fun k hk => hk.2.2) _) (fun k hk => hk.2.2) _) (fun k hk => hk.2.2) _) (fun k hk => hk.2.2) _) (fun _ _ => trivial), below_set (below_set (below_set (below_set (below_set (below_set HB8.out GE.out) GE.out) GE.out) GE.out) GE.out) GE.out⟩
      · by_cases a3 : x.f2 = 3
        · obtain ⟨rfl, rfl, rfl, rfl, rfl, rfl, rfl⟩ : t1 = 7 ∧ t2 = x.f0.f0 ∧ t3 = x.f0.f1 ∧ t4 = x.f0.f2 ∧ t5 = ⟨#[]⟩ ∧ t6 = 0 ∧ t7 = true := by simpa [a2, a3] using hT
          clear hT
          rw [a3] at x5x
          have A3 := Aside0.mk a3
          clear a3
          go_upto_region 15 with (fail)
          have hb8 := (below_set (j := 0) (v := .int .i64 7) HB7.out HGE.out)
          have hn8 := (blk_put HBN.out 0 (.int .i64 7) rfl)
          have hbz := (blk_far HBZ.out (p := ⟨w6.heap.size, 0, none⟩) HZN.out (.int .i64 7))
          have hr8 := (Kd.R_far (p := ⟨w6.heap.size, 0, none⟩) HRO.out (fun k hk => hk.2.1) (.int .i64 7))
          generalize (V.setCell ⟨w6.heap.size, 0, none⟩ (.int .i64 7)) = V8 at hb8 hn8 hbz hr8 ⊢
          have HB8 := Aside0.mk hb8
          have HBZ8 := Aside0.mk hbz
          have HR8 := Aside0.mk hr8
          have p0x : V8.cell? ⟨w6.heap.size, 0, none⟩ = some (.int .i64 7) := (blk_cell hn8 0).trans rfl
          have p1x : V8.cell? ⟨w6.heap.size, 1, none⟩ = some (.int .i64 x.f0.f0) := (blk_cell hn8 1).trans rfl
          have p2x : V8.cell? ⟨w6.heap.size, 2, none⟩ = some (.int .i64 x.f0.f1) := (blk_cell hn8 2).trans rfl
          have p3x : V8.cell? ⟨w6.heap.size, 3, none⟩ = some (.slice Ao x.f0.f2.length co) := (blk_cell hn8 3).trans rfl
          have p4x : V8.cell? ⟨w6.heap.size, 4, none⟩ = some (.string (⟨#[]⟩ : ByteArray)) := (blk_cell hn8 4).trans rfl
          have p5x : V8.cell? ⟨w6.heap.size, 5, none⟩ = some (.int .i64 0) := (blk_cell hn8 5).trans rfl
          have y0x : V8.cell? ⟨w.heap.size + 1, 0, none⟩ = some (.int .i64 0) := (blk_cell hbz 0).trans rfl
          have yf0x := blk_frozen hbz 0
          have y1x : V8.cell? ⟨w.heap.size + 1, 1, none⟩ = some (.int .i64 0) := (blk_cell hbz 1).trans rfl
          have yf1x := blk_frozen hbz 1
          have y2x : V8.cell? ⟨w.heap.size + 1, 2, none⟩ = some (.int .i64 0) := (blk_cell hbz 2).trans rfl
          have yf2x := blk_frozen hbz 2
          have y3x : V8.cell? ⟨w.heap.size + 1, 3, none⟩ = some (.slice none 0 0) := (blk_cell hbz 3).trans rfl
          have yf3x := blk_frozen hbz 3
          have y4x : V8.cell? ⟨w.heap.size + 1, 4, none⟩ = some (.string (⟨#[]⟩ : ByteArray)) := (blk_cell hbz 4).trans rfl
          have yf4x := blk_frozen hbz 4
          have y5x : V8.cell? ⟨w.heap.size + 1, 5, none⟩ = some (.int .i64 0) := (blk_cell hbz 5).trans rfl
          have yf5x := blk_frozen hbz 5
          clear hb8 hn8 hbz hr8 k6 n0x nf0x z0x zf0x n1x nf1x z1x zf1x n2x nf2x z2x zf2x n3x nf3x z3x zf3x n4x nf4x z4x zf4x n5x nf5x z5x zf5x x0x x1x x2x x3x x4x x5x x6x x7x x8x
          go_wp2
          refine bodyPost_ret (results_ct rfl _ _ (w.heap.size + 1) 42 #[.int .i64 7, .int .i64 x.f0.f0, .int .i64 x.f0.f1, .slice Ao x.f0.f2.length co, .string (⟨#[]⟩ : ByteArray), .int .i64 0] (0, 0) _ rfl (blk_put (blk_put (blk_put (blk_put (blk_put (blk_put HBZ8.out 0 _ rfl) 1 _ rfl) 2 _ rfl) 3 _ rfl) 4 _ rfl) 5 _ rfl) Tryd.underlying42 rfl (by kernel_rfl)) rfl ?_
          exact ⟨_, rfl, Kd.R_mono (Kd.R_far (p := ⟨w.heap.size + 1, 5, none⟩) (Kd.R_far (p := ⟨w.heap.size + 1, 4, none⟩) (Kd.R_far (p := ⟨w.heap.size + 1, 3, none⟩) (Kd.R_far (p := ⟨w.heap.size + 1, 2, none⟩) (Kd.R_far (p := ⟨w.heap.size + 1, 1, none⟩) (Kd.R_far (p := ⟨w.heap.size + 1, 0, none⟩) HR8.out (fun k hk => hk.2.2) _) (fun k hk => hk.2.2) _) (fun k hk => hk.2.2) _) (fun k hk => hk.2.2) _) (fun k hk => hk.2.2) _) (fun k hk => hk.2.2) _) (fun _ _ => trivial), below_set (below_set (below_set (below_set (below_set (below_set HB8.out GE.out) GE.out) GE.out) GE.out) GE.out) GE.out⟩
        · by_cases a67 : x.f2 = 6 ∨ x.f2 = 7
          · rcases a67 with a6 | a7
            · obtain ⟨rfl, rfl, rfl, rfl, rfl, hw6, rfl⟩ : t1 = 6 ∧ t2 = x.f0.f0 ∧ t3 = x.f0.f1 ∧ t4 = x.f0.f2 ∧ t5 = ⟨#[]⟩ ∧ t6 = (if x.f3 = 0 then 6 else x.f3) ∧ t7 = true := by simpa [a6] using hT
              clear hT a2 a3
              rw [a6] at x5x
              have A6 := Aside0.mk a6
              clear a6
              by_cases d : x.f3 = 0
              · rw [if_pos d] at hw6
                subst hw6
                rw [d] at x6x k6
                have D := Aside0.mk d
                clear d
                go_upto_region 12 with (fail)
                go_region
                have hb8 := below_drew (below_set (j := 5) (v := .int .i64 0) (below_set (j := 0) (v := .int .i64 6) HB7.out HGE.out) HGE.out)
                have hn8 := blk_drew (blk_put (blk_put HBN.out 0 (.int .i64 6) rfl) 5 (.int .i64 0) rfl)
                have hbz := blk_drew (blk_far (blk_far HBZ.out (p := ⟨w6.heap.size, 0, none⟩) HZN.out (.int .i64 6)) (p := ⟨w6.heap.size, 5, none⟩) HZN.out (.int .i64 0))
                have hr8 := Kd.R_drew (Kd.R_far (p := ⟨w6.heap.size, 5, none⟩) (Kd.R_far (p := ⟨w6.heap.size, 0, none⟩) HRO.out (fun k hk => hk.2.1) (.int .i64 6)) (fun k hk => hk.2.1) (.int .i64 0))
                generalize World.drew ((V.setCell ⟨w6.heap.size, 0, none⟩ (.int .i64 6)).setCell ⟨w6.heap.size, 5, none⟩ (.int .i64 0)) = V8 at hb8 hn8 hbz hr8 ⊢
                have HB8 := Aside0.mk hb8
                have HN8 := Aside0.mk hn8
                have HBZ8 := Aside0.mk hbz
                have HR8 := Aside0.mk hr8
                have p0x : V8.cell? ⟨w6.heap.size, 0, none⟩ = some (.int .i64 6) := (blk_cell hn8 0).trans rfl
                have pf0x := blk_frozen hn8 0
                have p1x : V8.cell? ⟨w6.heap.size, 1, none⟩ = some (.int .i64 x.f0.f0) := (blk_cell hn8 1).trans rfl
                have pf1x := blk_frozen hn8 1
                have p2x : V8.cell? ⟨w6.heap.size, 2, none⟩ = some (.int .i64 x.f0.f1) := (blk_cell hn8 2).trans rfl
                have pf2x := blk_frozen hn8 2
                have p3x : V8.cell? ⟨w6.heap.size, 3, none⟩ = some (.slice Ao x.f0.f2.length co) := (blk_cell hn8 3).trans rfl
                have pf3x := blk_frozen hn8 3
                have p4x : V8.cell? ⟨w6.heap.size, 4, none⟩ = some (.string (⟨#[]⟩ : ByteArray)) := (blk_cell hn8 4).trans rfl
                have pf4x := blk_frozen hn8 4
                have p5x : V8.cell? ⟨w6.heap.size, 5, none⟩ = some (.int .i64 0) := (blk_cell hn8 5).trans rfl
                have pf5x := blk_frozen hn8 5
                clear hb8 hn8 hbz hr8 k6 n0x nf0x z0x zf0x n1x nf1x z1x zf1x n2x nf2x z2x zf2x n3x nf3x z3x zf3x n4x nf4x z4x zf4x n5x nf5x z5x zf5x x0x x1x x2x x3x x4x x5x x6x x7x x8x
                go_upto_region 15 with (fail)
                have hb8 := (below_set (j := 5) (v := .int .i64 6) HB8.out HGE.out)
                have hn8 := (blk_put HN8.out 5 (.int .i64 6) rfl)
                have hbz := (blk_far HBZ8.out (p := ⟨w6.heap.size, 5, none⟩) HZN.out (.int .i64 6))
                have hr8 := (Kd.R_far (p := ⟨w6.heap.size, 5, none⟩) HR8.out (fun k hk => hk.2.1) (.int .i64 6))
                generalize (V8.setCell ⟨w6.heap.size, 5, none⟩ (.int .i64 6)) = V9 at hb8 hn8 hbz hr8 ⊢
                have HB9 := Aside0.mk hb8
                have HN9 := Aside0.mk hn8
                have HBZ9 := Aside0.mk hbz
                have HR9 := Aside0.mk hr8
                have q0x : V9.cell? ⟨w6.heap.size, 0, none⟩ = some (.int .i64 6) := (blk_cell hn8 0).trans rfl
                have qf0x := blk_frozen hn8 0
                have q1x : V9.cell? ⟨w6.heap.size, 1, none⟩ = some (.int .i64 x.f0.f0) := (blk_cell hn8 1).trans rfl
                have qf1x := blk_frozen hn8 1
                have q2x : V9.cell? ⟨w6.heap.size, 2, none⟩ = some (.int .i64 x.f0.f1) := (blk_cell hn8 2).trans rfl
                have qf2x := blk_frozen hn8 2
                have q3x : V9.cell? ⟨w6.heap.size, 3, none⟩ = some (.slice Ao x.f0.f2.length co) := (blk_cell hn8 3).trans rfl
                have qf3x := blk_frozen hn8 3
                have q4x : V9.cell? ⟨w6.heap.size, 4, none⟩ = some (.string (⟨#[]⟩ : ByteArray)) := (blk_cell hn8 4).trans rfl
                have qf4x := blk_frozen hn8 4
                have q5x : V9.cell? ⟨w6.heap.size, 5, none⟩ = some (.int .i64 6) := (blk_cell hn8 5).trans rfl
                have qf5x := blk_frozen hn8 5
                have y0x : V9.cell? ⟨w.heap.size + 1, 0, none⟩ = some (.int .i64 0) := (blk_cell hbz 0).trans rfl
                have yf0x := blk_frozen hbz 0
                have y1x : V9.cell? ⟨w.heap.size + 1, 1, none⟩ = some (.int .i64 0) := (blk_cell hbz 1).trans rfl
                have yf1x := blk_frozen hbz 1
                have y2x : V9.cell? ⟨w.heap.size + 1, 2, none⟩ = some (.int .i64 0) := (blk_cell hbz 2).trans rfl
                have yf2x := blk_frozen hbz 2
                have y3x : V9.cell? ⟨w.heap.size + 1, 3, none⟩ = some (.slice none 0 0) := (blk_cell hbz 3).trans rfl
                have yf3x := blk_frozen hbz 3
                have y4x : V9.cell? ⟨w.heap.size + 1, 4, none⟩ = some (.string (⟨#[]⟩ : ByteArray)) := (blk_cell hbz 4).trans rfl
                have yf4x := blk_frozen hbz 4
                have y5x : V9.cell? ⟨w.heap.size + 1, 5, none⟩ = some (.int .i64 0) := (blk_cell hbz 5).trans rfl
                have yf5x := blk_frozen hbz 5
                clear hb8 hn8 hbz hr8 p0x pf0x p1x pf1x p2x pf2x p3x pf3x p4x pf4x p5x pf5x
                go_wp2
                refine bodyPost_ret (results_ct rfl _ _ (w.heap.size + 1) 42 #[.int .i64 6, .int .i64 x.f0.f0, .int .i64 x.f0.f1, .slice Ao x.f0.f2.length co, .string (⟨#[]⟩ : ByteArray), .int .i64 6] (0, 0) _ rfl (blk_put (blk_put (blk_put (blk_put (blk_put (blk_put HBZ9.out 0 _ rfl) 1 _ rfl) 2 _ rfl) 3 _ rfl) 4 _ rfl) 5 _ rfl) Tryd.underlying42 rfl (by kernel_rfl)) rfl ?_
                exact ⟨_, rfl, Kd.R_mono (Kd.R_far (p := ⟨w.heap.size + 1, 5, none⟩) (Kd.R_far (p := ⟨w.heap.size + 1, 4, none⟩) (Kd.R_far (p := ⟨w.heap.size + 1, 3, none⟩) (Kd.R_far (p := ⟨w.heap.size + 1, 2, none⟩) (Kd.R_far (p := ⟨w.heap.size + 1, 1, none⟩) (Kd.R_far (p := ⟨w.heap.size + 1, 0, none⟩) HR9.out (fun k hk => hk.2.2) _) (fun k hk => hk.2.2) _) (fun k hk => hk.2.2) _) (fun k hk => hk.2.2) _) (fun k hk => hk.2.2) _) (fun k hk => hk.2.2) _) (fun _ _ => trivial), below_set (below_set (below_set (below_set (below_set (below_set HB9.out GE.out) GE.out) GE.out) GE.out) GE.out) GE.out⟩
              · rw [if_neg d] at hw6
                subst hw6
                go_upto_region 12 with (fail)
                go_region
                have hb8 := below_drew (below_set (j := 5) (v := .int .i64 x.f3) (below_set (j := 0) (v := .int .i64 6) HB7.out HGE.out) HGE.out)
                have hn8 := blk_drew (blk_put (blk_put HBN.out 0 (.int .i64 6) rfl) 5 (.int .i64 x.f3) rfl)
                have hbz := blk_drew (blk_far (blk_far HBZ.out (p := ⟨w6.heap.size, 0, none⟩) HZN.out (.int .i64 6)) (p := ⟨w6.heap.size, 5, none⟩) HZN.out (.int .i64 x.f3))
                have hr8 := Kd.R_drew (Kd.R_far (p := ⟨w6.heap.size, 5, none⟩) (Kd.R_far (p := ⟨w6.heap.size, 0, none⟩) HRO.out (fun k hk => hk.2.1) (.int .i64 6)) (fun k hk => hk.2.1) (.int .i64 x.f3))
                generalize World.drew ((V.setCell ⟨w6.heap.size, 0, none⟩ (.int .i64 6)).setCell ⟨w6.heap.size, 5, none⟩ (.int .i64 x.f3)) = V8 at hb8 hn8 hbz hr8 ⊢
                have HB8 := Aside0.mk hb8
                have HN8 := Aside0.mk hn8
                have HBZ8 := Aside0.mk hbz
                have HR8 := Aside0.mk hr8
                have p0x : V8.cell? ⟨w6.heap.size, 0, none⟩ = some (.int .i64 6) := (blk_cell hn8 0).trans rfl
                have pf0x := blk_frozen hn8 0
                have p1x : V8.cell? ⟨w6.heap.size, 1, none⟩ = some (.int .i64 x.f0.f0) := (blk_cell hn8 1).trans rfl
                have pf1x := blk_frozen hn8 1
                have p2x : V8.cell? ⟨w6.heap.size, 2, none⟩ = some (.int .i64 x.f0.f1) := (blk_cell hn8 2).trans rfl
                have pf2x := blk_frozen hn8 2
                have p3x : V8.cell? ⟨w6.heap.size, 3, none⟩ = some (.slice Ao x.f0.f2.length co) := (blk_cell hn8 3).trans rfl
                have pf3x := blk_frozen hn8 3
                have p4x : V8.cell? ⟨w6.heap.size, 4, none⟩ = some (.string (⟨#[]⟩ : ByteArray)) := (blk_cell hn8 4).trans rfl
                have pf4x := blk_frozen hn8 4
                have p5x : V8.cell? ⟨w6.heap.size, 5, none⟩ = some (.int .i64 x.f3) := (blk_cell hn8 5).trans rfl
                have pf5x := blk_frozen hn8 5
                have y0x : V8.cell? ⟨w.heap.size + 1, 0, none⟩ = some (.int .i64 0) := (blk_cell hbz 0).trans rfl
                have yf0x := blk_frozen hbz 0
                have y1x : V8.cell? ⟨w.heap.size + 1, 1, none⟩ = some (.int .i64 0) := (blk_cell hbz 1).trans rfl
                have yf1x := blk_frozen hbz 1
                have y2x : V8.cell? ⟨w.heap.size + 1, 2, none⟩ = some (.int .i64 0) := (blk_cell hbz 2).trans rfl
                have yf2x := blk_frozen hbz 2
                have y3x : V8.cell? ⟨w.heap.size + 1, 3, none⟩ = some (.slice none 0 0) := (blk_cell hbz 3).trans rfl
                have yf3x := blk_frozen hbz 3
                have y4x : V8.cell? ⟨w.heap.size + 1, 4, none⟩ = some (.string (⟨#[]⟩ : ByteArray)) := (blk_cell hbz 4).trans rfl
                have yf4x := blk_frozen hbz 4
                have y5x : V8.cell? ⟨w.heap.size + 1, 5, none⟩ = some (.int .i64 0) := (blk_cell hbz 5).trans rfl
                have yf5x := blk_frozen hbz 5
                clear hb8 hn8 hbz hr8 k6 n0x nf0x z0x zf0x n1x nf1x z1x zf1x n2x nf2x z2x zf2x n3x nf3x z3x zf3x n4x nf4x z4x zf4x n5x nf5x z5x zf5x x0x x1x x2x x3x x4x x5x x6x x7x x8x
                go_wp2
                refine bodyPost_ret (results_ct rfl _ _ (w.heap.size + 1) 42 #[.int .i64 6, .int .i64 x.f0.f0, .int .i64 x.f0.f1, .slice Ao x.f0.f2.length co, .string (⟨#[]⟩ : ByteArray), .int .i64 x.f3] (0, 0) _ rfl (blk_put (blk_put (blk_put (blk_put (blk_put (blk_put HBZ8.out 0 _ rfl) 1 _ rfl) 2 _ rfl) 3 _ rfl) 4 _ rfl) 5 _ rfl) Tryd.underlying42 rfl (by kernel_rfl)) rfl ?_
                exact ⟨_, rfl, Kd.R_mono (Kd.R_far (p := ⟨w.heap.size + 1, 5, none⟩) (Kd.R_far (p := ⟨w.heap.size + 1, 4, none⟩) (Kd.R_far (p := ⟨w.heap.size + 1, 3, none⟩) (Kd.R_far (p := ⟨w.heap.size + 1, 2, none⟩) (Kd.R_far (p := ⟨w.heap.size + 1, 1, none⟩) (Kd.R_far (p := ⟨w.heap.size + 1, 0, none⟩) HR8.out (fun k hk => hk.2.2) _) (fun k hk => hk.2.2) _) (fun k hk => hk.2.2) _) (fun k hk => hk.2.2) _) (fun k hk => hk.2.2) _) (fun k hk => hk.2.2) _) (fun _ _ => trivial), below_set (below_set (below_set (below_set (below_set (below_set HB8.out GE.out) GE.out) GE.out) GE.out) GE.out) GE.out⟩
            · obtain ⟨rfl, rfl, rfl, rfl, rfl, hw6, rfl⟩ : t1 = 6 ∧ t2 = x.f0.f0 ∧ t3 = x.f0.f1 ∧ t4 = x.f0.f2 ∧ t5 = ⟨#[]⟩ ∧ t6 = (if x.f3 = 0 then 6 else x.f3) ∧ t7 = true := by simpa [a7] using hT
              clear hT a2 a3
              rw [a7] at x5x
              have A7 := Aside0.mk a7
              clear a7
              by_cases d : x.f3 = 0
              · rw [if_pos d] at hw6
                subst hw6
                rw [d] at x6x k6
                have D := Aside0.mk d
                clear d
                go_upto_region 12 with (fail)
                go_region
                have hb8 := below_drew (below_set (j := 5) (v := .int .i64 0) (below_set (j := 0) (v := .int .i64 6) HB7.out HGE.out) HGE.out)
                have hn8 := blk_drew (blk_put (blk_put HBN.out 0 (.int .i64 6) rfl) 5 (.int .i64 0) rfl)
                have hbz := blk_drew (blk_far (blk_far HBZ.out (p := ⟨w6.heap.size, 0, none⟩) HZN.out (.int .i64 6)) (p := ⟨w6.heap.size, 5, none⟩) HZN.out (.int .i64 0))
                have hr8 := Kd.R_drew (Kd.R_far (p := ⟨w6.heap.size, 5, none⟩) (Kd.R_far (p := ⟨w6.heap.size, 0, none⟩) HRO.out (fun k hk => hk.2.1) (.int .i64 6)) (fun k hk => hk.2.1) (.int .i64 0))
                generalize World.drew ((V.setCell ⟨w6.heap.size, 0, none⟩ (.int .i64 6)).setCell ⟨w6.heap.size, 5, none⟩ (.int .i64 0)) = V8 at hb8 hn8 hbz hr8 ⊢
                have HB8 := Aside0.mk hb8
                have HN8 := Aside0.mk hn8
                have HBZ8 := Aside0.mk hbz
                have HR8 := Aside0.mk hr8
                have p0x : V8.cell? ⟨w6.heap.size, 0, none⟩ = some (.int .i64 6) := (blk_cell hn8 0).trans rfl
                have pf0x := blk_frozen hn8 0
                have p1x : V8.cell? ⟨w6.heap.size, 1, none⟩ = some (.int .i64 x.f0.f0) := (blk_cell hn8 1).trans rfl
                have pf1x := blk_frozen hn8 1
                have p2x : V8.cell? ⟨w6.heap.size, 2, none⟩ = some (.int .i64 x.f0.f1) := (blk_cell hn8 2).trans rfl
                have pf2x := blk_frozen hn8 2
                have p3x : V8.cell? ⟨w6.heap.size, 3, none⟩ = some (.slice Ao x.f0.f2.length co) := (blk_cell hn8 3).trans rfl
                have pf3x := blk_frozen hn8 3
                have p4x : V8.cell? ⟨w6.heap.size, 4, none⟩ = some (.string (⟨#[]⟩ : ByteArray)) := (blk_cell hn8 4).trans rfl
                have pf4x := blk_frozen hn8 4
                have p5x : V8.cell? ⟨w6.heap.size, 5, none⟩ = some (.int .i64 0) := (blk_cell hn8 5).trans rfl
                have pf5x := blk_frozen hn8 5
                clear hb8 hn8 hbz hr8 k6 n0x nf0x z0x zf0x n1x nf1x z1x zf1x n2x nf2x z2x zf2x n3x nf3x z3x zf3x n4x nf4x z4x zf4x n5x nf5x z5x zf5x x0x x1x x2x x3x x4x x5x x6x x7x x8x
                go_upto_region 15 with (fail)
                have hb8 := (below_set (j := 5) (v := .int .i64 6) HB8.out HGE.out)
                have hn8 := (blk_put HN8.out 5 (.int .i64 6) rfl)
                have hbz := (blk_far HBZ8.out (p := ⟨w6.heap.size, 5, none⟩) HZN.out (.int .i64 6))
                have hr8 := (Kd.R_far (p := ⟨w6.heap.size, 5, none⟩) HR8.out (fun k hk => hk.2.1) (.int .i64 6))
                generalize (V8.setCell ⟨w6.heap.size, 5, none⟩ (.int .i64 6)) = V9 at hb8 hn8 hbz hr8 ⊢
                have HB9 := Aside0.mk hb8
                have HN9 := Aside0.mk hn8
                have HBZ9 := Aside0.mk hbz
                have HR9 := Aside0.mk hr8
                have q0x : V9.cell? ⟨w6.heap.size, 0, none⟩ = some (.int .i64 6) := (blk_cell hn8 0).trans rfl
                have qf0x := blk_frozen hn8 0
                have q1x : V9.cell? ⟨w6.heap.size, 1, none⟩ = some (.int .i64 x.f0.f0) := (blk_cell hn8 1).trans rfl
                have qf1x := blk_frozen hn8 1
                have q2x : V9.cell? ⟨w6.heap.size, 2, none⟩ = some (.int .i64 x.f0.f1) := (blk_cell hn8 2).trans rfl
                have qf2x := blk_frozen hn8 2
                have q3x : V9.cell? ⟨w6.heap.size, 3, none⟩ = some (.slice Ao x.f0.f2.length co) := (blk_cell hn8 3).trans rfl
                have qf3x := blk_frozen hn8 3
                have q4x : V9.cell? ⟨w6.heap.size, 4, none⟩ = some (.string (⟨#[]⟩ : ByteArray)) := (blk_cell hn8 4).trans rfl
                have qf4x := blk_frozen hn8 4
                have q5x : V9.cell? ⟨w6.heap.size, 5, none⟩ = some (.int .i64 6) := (blk_cell hn8 5).trans rfl
                have qf5x := blk_frozen hn8 5
                have y0x : V9.cell? ⟨w.heap.size + 1, 0, none⟩ = some (.int .i64 0) := (blk_cell hbz 0).trans rfl
                have yf0x := blk_frozen hbz 0
                have y1x : V9.cell? ⟨w.heap.size + 1, 1, none⟩ = some (.int .i64 0) := (blk_cell hbz 1).trans rfl
                have yf1x := blk_frozen hbz 1
                have y2x : V9.cell? ⟨w.heap.size + 1, 2, none⟩ = some (.int .i64 0) := (blk_cell hbz 2).trans rfl
                have yf2x := blk_frozen hbz 2
                have y3x : V9.cell? ⟨w.heap.size + 1, 3, none⟩ = some (.slice none 0 0) := (blk_cell hbz 3).trans rfl
                have yf3x := blk_frozen hbz 3
                have y4x : V9.cell? ⟨w.heap.size + 1, 4, none⟩ = some (.string (⟨#[]⟩ : ByteArray)) := (blk_cell hbz 4).trans rfl
                have yf4x := blk_frozen hbz 4
                have y5x : V9.cell? ⟨w.heap.size + 1, 5, none⟩ = some (.int .i64 0) := (blk_cell hbz 5).trans rfl
                have yf5x := blk_frozen hbz 5
                clear hb8 hn8 hbz hr8 p0x pf0x p1x pf1x p2x pf2x p3x pf3x p4x pf4x p5x pf5x
                go_wp2
                refine bodyPost_ret (results_ct rfl _ _ (w.heap.size + 1) 42 #[.int .i64 6, .int .i64 x.f0.f0, .int .i64 x.f0.f1, .slice Ao x.f0.f2.length co, .string (⟨#[]⟩ : ByteArray), .int .i64 6] (0, 0) _ rfl (blk_put (blk_put (blk_put (blk_put (blk_put (blk_put HBZ9.out 0 _ rfl) 1 _ rfl) 2 _ rfl) 3 _ rfl) 4 _ rfl) 5 _ rfl) Tryd.underlying42 rfl (by kernel_rfl)) rfl ?_
                exact ⟨_, rfl, Kd.R_mono (Kd.R_far (p := ⟨w.heap.size + 1, 5, none⟩) (Kd.R_far (p := ⟨w.heap.size + 1, 4, none⟩) (Kd.R_far (p := ⟨w.heap.size + 1, 3, none⟩) (Kd.R_far (p := ⟨w.heap.size + 1, 2, none⟩) (Kd.R_far (p := ⟨w.heap.size + 1, 1, none⟩) (Kd.R_far (p := ⟨w.heap.size + 1, 0, none⟩) HR9.out (fun k hk => hk.2.2) _) (fun k hk => hk.2.2) _) (fun k hk => hk.2.2) _) (fun k hk => hk.2.2) _) (fun k hk => hk.2.2) _) (fun k hk => hk.2.2) _) (fun _ _ => trivial), below_set (below_set (below_set (below_set (below_set (below_set HB9.out GE.out) GE.out) GE.out) GE.out) GE.out) GE.out⟩
              · rw [if_neg d] at hw6
                subst hw6
                go_upto_region 12 with (fail)
                go_region
                have hb8 := below_drew (below_set (j := 5) (v := .int .i64 x.f3) (below_set (j := 0) (v := .int .i64 6) HB7.out HGE.out) HGE.out)
                have hn8 := blk_drew (blk_put (blk_put HBN.out 0 (.int .i64 6) rfl) 5 (.int .i64 x.f3) rfl)
                have hbz := blk_drew (blk_far (blk_far HBZ.out (p := ⟨w6.heap.size, 0, none⟩) HZN.out (.int .i64 6)) (p := ⟨w6.heap.size, 5, none⟩) HZN.out (.int .i64 x.f3))
                have hr8 := Kd.R_drew (Kd.R_far (p := ⟨w6.heap.size, 5, none⟩) (Kd.R_far (p := ⟨w6.heap.size, 0, none⟩) HRO.out (fun k hk => hk.2.1) (.int .i64 6)) (fun k hk => hk.2.1) (.int .i64 x.f3))
                generalize World.drew ((V.setCell ⟨w6.heap.size, 0, none⟩ (.int .i64 6)).setCell ⟨w6.heap.size, 5, none⟩ (.int .i64 x.f3)) = V8 at hb8 hn8 hbz hr8 ⊢
                have HB8 := Aside0.mk hb8
                have HN8 := Aside0.mk hn8
                have HBZ8 := Aside0.mk hbz
                have HR8 := Aside0.mk hr8
                have p0x : V8.cell? ⟨w6.heap.size, 0, none⟩ = some (.int .i64 6) := (blk_cell hn8 0).trans rfl
                have pf0x := blk_frozen hn8 0
                have p1x : V8.cell? ⟨w6.heap.size, 1, none⟩ = some (.int .i64 x.f0.f0) := (blk_cell hn8 1).trans rfl
                have pf1x := blk_frozen hn8 1
                have p2x : V8.cell? ⟨w6.heap.size, 2, none⟩ = some (.int .i64 x.f0.f1) := (blk_cell hn8 2).trans rfl
                have pf2x := blk_frozen hn8 2
                have p3x : V8.cell? ⟨w6.heap.size, 3, none⟩ = some (.slice Ao x.f0.f2.length co) := (blk_cell hn8 3).trans rfl
                have pf3x := blk_frozen hn8 3
                have p4x : V8.cell? ⟨w6.heap.size, 4, none⟩ = some (.string (⟨#[]⟩ : ByteArray)) := (blk_cell hn8 4).trans rfl
                have pf4x := blk_frozen hn8 4
                have p5x : V8.cell? ⟨w6.heap.size, 5, none⟩ = some (.int .i64 x.f3) := (blk_cell hn8 5).trans rfl
                have pf5x := blk_frozen hn8 5
                have y0x : V8.cell? ⟨w.heap.size + 1, 0, none⟩ = some (.int .i64 0) := (blk_cell hbz 0).trans rfl
                have yf0x := blk_frozen hbz 0
                have y1x : V8.cell? ⟨w.heap.size + 1, 1, none⟩ = some (.int .i64 0) := (blk_cell hbz 1).trans rfl
                have yf1x := blk_frozen hbz 1
                have y2x : V8.cell? ⟨w.heap.size + 1, 2, none⟩ = some (.int .i64 0) := (blk_cell hbz 2).trans rfl
                have yf2x := blk_frozen hbz 2
                have y3x : V8.cell? ⟨w.heap.size + 1, 3, none⟩ = some (.slice none 0 0) := (blk_cell hbz 3).trans rfl
                have yf3x := blk_frozen hbz 3
                have y4x : V8.cell? ⟨w.heap.size + 1, 4, none⟩ = some (.string (⟨#[]⟩ : ByteArray)) := (blk_cell hbz 4).trans rfl
                have yf4x := blk_frozen hbz 4
                have y5x : V8.cell? ⟨w.heap.size + 1, 5, none⟩ = some (.int .i64 0) := (blk_cell hbz 5).trans rfl
                have yf5x := blk_frozen hbz 5
                clear hb8 hn8 hbz hr8 k6 n0x nf0x z0x zf0x n1x nf1x z1x zf1x n2x nf2x z2x zf2x n3x nf3x z3x zf3x n4x nf4x z4x zf4x n5x nf5x z5x zf5x x0x x1x x2x x3x x4x x5x x6x x7x x8x
                go_wp2
                refine bodyPost_ret (results_ct rfl _ _ (w.heap.size + 1) 42 #[.int .i64 6, .int .i64 x.f0.f0, .int .i64 x.f0.f1, .slice Ao x.f0.f2.length co, .string (⟨#[]⟩ : ByteArray), .int .i64 x.f3] (0, 0) _ rfl (blk_put (blk_put (blk_put (blk_put (blk_put (blk_put HBZ8.out 0 _ rfl) 1 _ rfl) 2 _ rfl) 3 _ rfl) 4 _ rfl) 5 _ rfl) Tryd.underlying42 rfl (by kernel_rfl)) rfl ?_
                exact ⟨_, rfl, Kd.R_mono (Kd.R_far (p := ⟨w.heap.size + 1, 5, none⟩) (Kd.R_far (p := ⟨w.heap.size + 1, 4, none⟩) (Kd.R_far (p := ⟨w.heap.size + 1, 3, none⟩) (Kd.R_far (p := ⟨w.heap.size + 1, 2, none⟩) (Kd.R_far (p := ⟨w.heap.size + 1, 1, none⟩) (Kd.R_far (p := ⟨w.heap.size + 1, 0, none⟩) HR8.out (fun k hk => hk.2.2) _) (fun k hk => hk.2.2) _) (fun k hk => hk.2.2) _) (fun k hk => hk.2.2) _) (fun k hk => hk.2.2) _) (fun k hk => hk.2.2) _) (fun _ _ => trivial), below_set (below_set (below_set (below_set (below_set (below_set HB8.out GE.out) GE.out) GE.out) GE.out) GE.out) GE.out⟩
          · have n6 : ¬ x.f2 = 6 := fun h => a67 (.inl h)
            have n7 : ¬ x.f2 = 7 := fun h => a67 (.inr h)
            obtain ⟨rfl, rfl, rfl, rfl, rfl, rfl, rfl⟩ : t1 = 0 ∧ t2 = 0 ∧ t3 = 0 ∧ t4 = [] ∧ t5 = ⟨#[]⟩ ∧ t6 = 0 ∧ t7 = false := by simpa [a2, a3, a67] using hT
            clear hT
            go_wp2
            refine bodyPost_ret (results_ct rfl _ _ (w.heap.size + 1) 42 #[.int .i64 0, .int .i64 0, .int .i64 0, .slice none 0 0, .string (⟨#[]⟩ : ByteArray), .int .i64 0] (0, 0) _ rfl (blk_put (blk_put (blk_put (blk_put (blk_put (blk_put HBZ.out 0 _ rfl) 1 _ rfl) 2 _ rfl) 3 _ rfl) 4 _ rfl) 5 _ rfl) Tryd.underlying42 rfl (by kernel_rfl)) rfl ?_
            exact ⟨_, rfl, Kd.R_nil _ _ _ _ _, below_set (below_set (below_set (below_set (below_set (below_set HB7.out GE.out) GE.out) GE.out) GE.out) GE.out) GE.out⟩
def child_Tell.f (a0_0 : Int) (a0_1 : Int) (l0_2 : List (S69)) (a0_3 : ByteArray) (l0_4 : List (S60)) (a0_5 : Int) (a0_6 : Int) (l0_7 : List (S62)) (a0_8 : Bool) : Option (Int × Int × Int × List S69 × ByteArray × Int × Bool) := some (tellOf ⟨⟨a0_0, a0_1, l0_2⟩, ⟨a0_3, l0_4⟩, a0_5, a0_6, l0_7, a0_8⟩)
theorem child_Tell.calls (a0_0 : Int) (a0_1 : Int) (A0_2 : Option Addr) (c0_2 : Nat) (l0_2 : List (S69)) (a0_3 : ByteArray) (A0_4 : Option Addr) (c0_4 : Nat) (l0_4 : List (S60)) (a0_5 : Int) (a0_6 : Int) (A0_7 : Option Addr) (c0_7 : Nat) (l0_7 : List (S62)) (a0_8 : Bool) (r1 : Int) (r2 : Int) (r3 : Int) (r4 : List (S69)) (r5 : ByteArray) (r6 : Int) (r7 : Bool) (w : World) (hr0_2 : Kd.C k69 w A0_2 l0_2.length l0_2) (hc0_2 : l0_2.length ≤ c0_2) (hr0_4 : Kd.C k60 w A0_4 l0_4.length l0_4) (hc0_4 : l0_4.length ≤ c0_4) (hr0_7 : Kd.C k62 w A0_7 l0_7.length l0_7) (hc0_7 : l0_7.length ≤ c0_7) (h : child_Tell.f a0_0 a0_1 l0_2 a0_3 l0_4 a0_5 a0_6 l0_7 a0_8 = some (r1, r2, r3, r4, r5, r6, r7)) :
    Calls Tryd.prog 43 #[.agg #[.int .i64 a0_0, .int .i64 a0_1, .slice A0_2 l0_2.length c0_2, .string a0_3, .slice A0_4 l0_4.length c0_4, .int .i64 a0_5, .int .i64 a0_6, .slice A0_7 l0_7.length c0_7, .bool a0_8]] w fun e w' => ∃ v3_ : Value, e = .returned (.tuple #[.agg #[.int .i64 r1, .int .i64 r2, .int .i64 r3, v3_, .string r5, .int .i64 r6], .bool r7]) ∧ Kd.R k69 69 w' w.heap.size (fun _ => True) v3_ r4 ∧ Below w.heap.size w w' := by
  unfold child_Tell.f at h
  exact child_Tell.at ⟨⟨a0_0, a0_1, l0_2⟩, ⟨a0_3, l0_4⟩, a0_5, a0_6, l0_7, a0_8⟩ A0_2 c0_2 A0_4 c0_4 A0_7 c0_7 w hr0_2 hc0_2 hr0_4 hc0_4 hr0_7 hc0_7 r1 r2 r3 r4 r5 r6 r7 (Option.some.inj h).symm

end Go.Proofs.YtidobdhkncaljaaDoorK
