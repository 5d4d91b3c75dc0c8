-- made by hprint.py out of the translation and the hand texts
import Derived.Test.YtidobdhkncaljaaDoorKMv
import Derived.Test.YtidobdhkncaljaaDoorK0
import Derived.Test.YtidobdhkncaljaaDoorK2
import Derived.Test.YtidobdhkncaljaaDoorK4
import Derived.Test.YtidobdhkncaljaaDoorK6
import Derived.Test.YtidobdhkncaljaaDoorK9
import Derived.Test.YtidobdhkncaljaaDoorK12
import Derived.Test.YtidobdhkncaljaaDoorK13
import Derived.Test.YtidobdhkncaljaaDoorK14
namespace Go.Proofs.YtidobdhkncaljaaDoorK
open Go.RowKit Go.Proofs.YtidobdhkncaljaaDoorW.PrintWords Go.Proofs.YtidobdhkncaljaaDoorW.PrintLast Go.Proofs.YtidobdhkncaljaaDoorW.PrintMore
attribute [local go_sem] max2_int min2_int max_two min_two max_three min_three max_four min_four   -- for this text's walks alone
set_option linter.unusedVariables false
set_option linter.unusedSimpArgs false

/-! ### ententelaw27_DuesNeeded: function 4 -/
mutual
def ententelaw27_DuesNeeded.j0 : Nat → List (S42) → Bool → Int → Int → List (S69) → ByteArray → List (S60) → Int → Int → List (S62) → Bool → Option (Bool)
 | 0, _, _, _, _, _, _, _, _, _, _, _ => none
 | k + 1, x3, x4, x196000, x196001, x196002, x196003, x196004, x196005, x196006, x196007, x196008 => if x4 = true then (ententelaw27_DuesNeeded.j1 k x3 0 (decide ((x196002.length : Int) > 0)) x196000 x196001 x196002 x196003 x196004 x196005 x196006 x196007 x196008) else (ententelaw27_DuesNeeded.j1 k x3 0 false x196000 x196001 x196002 x196003 x196004 x196005 x196006 x196007 x196008)
def ententelaw27_DuesNeeded.j1 : Nat → List (S42) → Int → Bool → Int → Int → List (S69) → ByteArray → List (S60) → Int → Int → List (S62) → Bool → Option (Bool)
 | 0, _, _, _, _, _, _, _, _, _, _, _, _ => none
 | k + 1, x3, x5, x49, x196000, x196001, x196002, x196003, x196004, x196005, x196006, x196007, x196008 => if x49 = true then (ententelaw27_DuesNeeded.j2 k x3 1 x196000 x196001 x196002 x196003 x196004 x196005 x196006 x196007 x196008) else (ententelaw27_DuesNeeded.j2 k x3 x5 x196000 x196001 x196002 x196003 x196004 x196005 x196006 x196007 x196008)
def ententelaw27_DuesNeeded.j2 : Nat → List (S42) → Int → Int → Int → List (S69) → ByteArray → List (S60) → Int → Int → List (S62) → Bool → Option (Bool)
 | 0, _, _, _, _, _, _, _, _, _, _, _ => none
 | k + 1, x3, x5, x196000, x196001, x196002, x196003, x196004, x196005, x196006, x196007, x196008 => (ententelaw27_count.f k x3 true).bind fun t204 => (if t204 = x5 then ((saga_Ended.f x196000 x196001 x196002 x196003 x196004 x196005 x196006 x196007 x196008).bind fun t205 => (if t205 = true then ((ententelaw27_count.f k x3 false).bind fun t206 => (ententelaw27_DuesNeeded.j3 k x3 (t206 != 0) x196000 x196001 x196002 x196003 x196004 x196005 x196006 x196007 x196008)) else (ententelaw27_DuesNeeded.j3 k x3 false x196000 x196001 x196002 x196003 x196004 x196005 x196006 x196007 x196008))) else (ententelaw27_DuesNeeded.j3 k x3 true x196000 x196001 x196002 x196003 x196004 x196005 x196006 x196007 x196008))
def ententelaw27_DuesNeeded.j3 : Nat → List (S42) → Bool → Int → Int → List (S69) → ByteArray → List (S60) → Int → Int → List (S62) → Bool → Option (Bool)
 | 0, _, _, _, _, _, _, _, _, _, _, _ => none
 | k + 1, x3, x62, x196000, x196001, x196002, x196003, x196004, x196005, x196006, x196007, x196008 => if x62 = true then (some false) else ((saga_Current.f x196000 x196001 x196002 x196003 x196004 x196005 x196006 x196007 x196008).bind fun t207 => (if t207 ≥ 0 then (if 0 ≤ t207 then (if t207 < (x196004.length : Int) then (if ((rd_T60 x196004 t207).f2).toList = ([] : List UInt8) then (ententelaw27_DuesNeeded.j4 k x3 t207 false x196000 x196001 x196002 x196003 x196004 x196005 x196006 x196007 x196008) else (if t207 < (x196007.length : Int) then (if ((rd_T62 x196007 t207).f0) = 1 then (ententelaw27_DuesNeeded.j4 k x3 t207 true x196000 x196001 x196002 x196003 x196004 x196005 x196006 x196007 x196008) else (if x196005 = 4 then (ententelaw27_DuesNeeded.j4 k x3 t207 (((rd_T62 x196007 t207).f0) == 2) x196000 x196001 x196002 x196003 x196004 x196005 x196006 x196007 x196008) else (ententelaw27_DuesNeeded.j4 k x3 t207 false x196000 x196001 x196002 x196003 x196004 x196005 x196006 x196007 x196008))) else (none))) else (none)) else (none)) else (ententelaw27_DuesNeeded.j4 k x3 t207 false x196000 x196001 x196002 x196003 x196004 x196005 x196006 x196007 x196008)))
def ententelaw27_DuesNeeded.j4 : Nat → List (S42) → Int → Bool → Int → Int → List (S69) → ByteArray → List (S60) → Int → Int → List (S62) → Bool → Option (Bool)
 | 0, _, _, _, _, _, _, _, _, _, _, _, _ => none
 | k + 1, x3, x6, x7, x196000, x196001, x196002, x196003, x196004, x196005, x196006, x196007, x196008 => if x7 = true then (if 0 ≤ x6 then (if x6 < (x196004.length : Int) then ((ident_Child.f x196000 x196001 x196002 x6 ((rd_T60 x196004 x6).f1)).bind fun bt212 => (if bt212.2.2.2 = 0 then ((ententelaw27_count.f k x3 false).bind fun t219 => (if t219 > 0 then ((ententelaw27_awake.f).bind fun t220 => (some t220)) else (some false))) else ((ententelaw27_awake.f).bind fun t221 => (some t221)))) else (none)) else (none)) else ((ententelaw27_awake.f).bind fun t222 => (some t222))
end
def ententelaw27_DuesNeeded.f (k : Nat) (a0_0 : Int) (a0_1 : Int) (l0_2 : List (S69)) (a0_3 : ByteArray) (l0_4 : List (S60)) (a0_5 : Int) (a0_6 : Int) (l0_7 : List (S62)) (a0_8 : Bool) : Option (Bool) := (ententelaw21_Few.f a0_0 a0_1 l0_2 a0_3 l0_4 a0_5 a0_6 l0_7 a0_8).bind fun t196 => (if t196 = true then ((ident_Org.f k a0_0 a0_1 l0_2).bind fun t198 => ((dues_Of.f k t198 0 0 ([] : List (S104)) ([] : List (S67)) ([] : List (S47)) ([] : List (S50)) a0_0 a0_1 l0_2 a0_3 l0_4 a0_5 a0_6 l0_7 a0_8).bind fun t199 => ((saga_May.f a0_0 a0_1 l0_2 a0_3 l0_4 a0_5 a0_6 l0_7 a0_8).bind fun t202 => (if t202 = 0 then (if a0_5 = 1 then (ententelaw27_DuesNeeded.j0 k t199 false a0_0 a0_1 l0_2 a0_3 l0_4 a0_5 a0_6 l0_7 a0_8) else (if a0_5 = 4 then (ententelaw27_DuesNeeded.j0 k t199 false a0_0 a0_1 l0_2 a0_3 l0_4 a0_5 a0_6 l0_7 a0_8) else (ententelaw27_DuesNeeded.j0 k t199 (a0_5 != 5) a0_0 a0_1 l0_2 a0_3 l0_4 a0_5 a0_6 l0_7 a0_8))) else (if (t199.length : Int) = 0 then ((ententelaw27_awake.f).bind fun t203 => (some t203)) else (some false)))))) else ((ententelaw27_awake.f).bind fun t197 => (some t197)))
theorem ententelaw27_DuesNeeded.mono_l : ∀ k, (∀ y0 y1 y2 y3 y4 y5 y6 y7 y8 y9 y10, LeO (ententelaw27_DuesNeeded.j0 k y0 y1 y2 y3 y4 y5 y6 y7 y8 y9 y10) (ententelaw27_DuesNeeded.j0 (k + 1) y0 y1 y2 y3 y4 y5 y6 y7 y8 y9 y10)) ∧ (∀ y0 y1 y2 y3 y4 y5 y6 y7 y8 y9 y10 y11, LeO (ententelaw27_DuesNeeded.j1 k y0 y1 y2 y3 y4 y5 y6 y7 y8 y9 y10 y11) (ententelaw27_DuesNeeded.j1 (k + 1) y0 y1 y2 y3 y4 y5 y6 y7 y8 y9 y10 y11)) ∧ (∀ y0 y1 y2 y3 y4 y5 y6 y7 y8 y9 y10, LeO (ententelaw27_DuesNeeded.j2 k y0 y1 y2 y3 y4 y5 y6 y7 y8 y9 y10) (ententelaw27_DuesNeeded.j2 (k + 1) y0 y1 y2 y3 y4 y5 y6 y7 y8 y9 y10)) ∧ (∀ y0 y1 y2 y3 y4 y5 y6 y7 y8 y9 y10, LeO (ententelaw27_DuesNeeded.j3 k y0 y1 y2 y3 y4 y5 y6 y7 y8 y9 y10) (ententelaw27_DuesNeeded.j3 (k + 1) y0 y1 y2 y3 y4 y5 y6 y7 y8 y9 y10)) ∧ (∀ y0 y1 y2 y3 y4 y5 y6 y7 y8 y9 y10 y11, LeO (ententelaw27_DuesNeeded.j4 k y0 y1 y2 y3 y4 y5 y6 y7 y8 y9 y10 y11) (ententelaw27_DuesNeeded.j4 (k + 1) y0 y1 y2 y3 y4 y5 y6 y7 y8 y9 y10 y11))
 | 0 => ⟨fun _ _ _ _ _ _ _ _ _ _ _ r h => by simp [ententelaw27_DuesNeeded.j0] at h, fun _ _ _ _ _ _ _ _ _ _ _ _ r h => by simp [ententelaw27_DuesNeeded.j1] at h, fun _ _ _ _ _ _ _ _ _ _ _ r h => by simp [ententelaw27_DuesNeeded.j2] at h, fun _ _ _ _ _ _ _ _ _ _ _ r h => by simp [ententelaw27_DuesNeeded.j3] at h, fun _ _ _ _ _ _ _ _ _ _ _ _ r h => by simp [ententelaw27_DuesNeeded.j4] at h⟩
 | k + 1 => by
  obtain ⟨ih0, ih1, ih2, ih3, ih4⟩ := ententelaw27_DuesNeeded.mono_l k
  refine ⟨?_, ?_, ?_, ?_, ?_⟩
  ·intro y0 y1 y2 y3 y4 y5 y6 y7 y8 y9 y10
   unfold ententelaw27_DuesNeeded.j0
   repeat' first
   | (with_reducible exact ih0 _ _ _ _ _ _ _ _ _ _ _)
   | (with_reducible exact ih1 _ _ _ _ _ _ _ _ _ _ _ _)
   | (with_reducible exact ih2 _ _ _ _ _ _ _ _ _ _ _)
   | (with_reducible exact ih3 _ _ _ _ _ _ _ _ _ _ _)
   | (with_reducible exact ih4 _ _ _ _ _ _ _ _ _ _ _ _)
   | (with_reducible exact dues_Of.mono _ _ _ _ _ _ _ _ _ _ _ _ _ _ _ _ _)
   | (with_reducible exact ententelaw27_count.mono _ _ _)
   | (with_reducible exact ident_Org.mono _ _ _ _)
   | (with_reducible exact LeO.refl _)
   | (with_reducible exact LeO.none _)
   | (with_reducible refine LeO.ite ?_ ?_)
   | (with_reducible refine LeO.bind ?_ (fun _ => ?_))
   | exact ih0 _ _ _ _ _ _ _ _ _ _ _
   | exact ih1 _ _ _ _ _ _ _ _ _ _ _ _
   | exact ih2 _ _ _ _ _ _ _ _ _ _ _
   | exact ih3 _ _ _ _ _ _ _ _ _ _ _
   | exact ih4 _ _ _ _ _ _ _ _ _ _ _ _
   | exact dues_Of.mono _ _ _ _ _ _ _ _ _ _ _ _ _ _ _ _ _
   | exact ententelaw27_count.mono _ _ _
   | exact ident_Org.mono _ _ _ _
   | exact LeO.none _
   | refine LeO.ite ?_ ?_
   | refine LeO.bind ?_ (fun _ => ?_)
  ·intro y0 y1 y2 y3 y4 y5 y6 y7 y8 y9 y10 y11
   unfold ententelaw27_DuesNeeded.j1
   repeat' first
   | (with_reducible exact ih0 _ _ _ _ _ _ _ _ _ _ _)
   | (with_reducible exact ih1 _ _ _ _ _ _ _ _ _ _ _ _)
   | (with_reducible exact ih2 _ _ _ _ _ _ _ _ _ _ _)
   | (with_reducible exact ih3 _ _ _ _ _ _ _ _ _ _ _)
   | (with_reducible exact ih4 _ _ _ _ _ _ _ _ _ _ _ _)
   | (with_reducible exact dues_Of.mono _ _ _ _ _ _ _ _ _ _ _ _ _ _ _ _ _)
   | (with_reducible exact ententelaw27_count.mono _ _ _)
   | (with_reducible exact ident_Org.mono _ _ _ _)
   | (with_reducible exact LeO.refl _)
   | (with_reducible exact LeO.none _)
   | (with_reducible refine LeO.ite ?_ ?_)
   | (with_reducible refine LeO.bind ?_ (fun _ => ?_))
   | exact ih0 _ _ _ _ _ _ _ _ _ _ _
   | exact ih1 _ _ _ _ _ _ _ _ _ _ _ _
   | exact ih2 _ _ _ _ _ _ _ _ _ _ _
   | exact ih3 _ _ _ _ _ _ _ _ _ _ _
   | exact ih4 _ _ _ _ _ _ _ _ _ _ _ _
   | exact dues_Of.mono _ _ _ _ _ _ _ _ _ _ _ _ _ _ _ _ _
   | exact ententelaw27_count.mono _ _ _
   | exact ident_Org.mono _ _ _ _
   | exact LeO.none _
   | refine LeO.ite ?_ ?_
   | refine LeO.bind ?_ (fun _ => ?_)
  ·intro y0 y1 y2 y3 y4 y5 y6 y7 y8 y9 y10
   unfold ententelaw27_DuesNeeded.j2
   repeat' first
   | (with_reducible exact ih0 _ _ _ _ _ _ _ _ _ _ _)
   | (with_reducible exact ih1 _ _ _ _ _ _ _ _ _ _ _ _)
   | (with_reducible exact ih2 _ _ _ _ _ _ _ _ _ _ _)
   | (with_reducible exact ih3 _ _ _ _ _ _ _ _ _ _ _)
   | (with_reducible exact ih4 _ _ _ _ _ _ _ _ _ _ _ _)
   | (with_reducible exact dues_Of.mono _ _ _ _ _ _ _ _ _ _ _ _ _ _ _ _ _)
   | (with_reducible exact ententelaw27_count.mono _ _ _)
   | (with_reducible exact ident_Org.mono _ _ _ _)
   | (with_reducible exact LeO.refl _)
   | (with_reducible exact LeO.none _)
   | (with_reducible refine LeO.ite ?_ ?_)
   | (with_reducible refine LeO.bind ?_ (fun _ => ?_))
   | exact ih0 _ _ _ _ _ _ _ _ _ _ _
   | exact ih1 _ _ _ _ _ _ _ _ _ _ _ _
   | exact ih2 _ _ _ _ _ _ _ _ _ _ _
   | exact ih3 _ _ _ _ _ _ _ _ _ _ _
   | exact ih4 _ _ _ _ _ _ _ _ _ _ _ _
   | exact dues_Of.mono _ _ _ _ _ _ _ _ _ _ _ _ _ _ _ _ _
   | exact ententelaw27_count.mono _ _ _
   | exact ident_Org.mono _ _ _ _
   | exact LeO.none _
   | refine LeO.ite ?_ ?_
   | refine LeO.bind ?_ (fun _ => ?_)
  ·intro y0 y1 y2 y3 y4 y5 y6 y7 y8 y9 y10
   unfold ententelaw27_DuesNeeded.j3
   repeat' first
   | (with_reducible exact ih0 _ _ _ _ _ _ _ _ _ _ _)
   | (with_reducible exact ih1 _ _ _ _ _ _ _ _ _ _ _ _)
   | (with_reducible exact ih2 _ _ _ _ _ _ _ _ _ _ _)
   | (with_reducible exact ih3 _ _ _ _ _ _ _ _ _ _ _)
   | (with_reducible exact ih4 _ _ _ _ _ _ _ _ _ _ _ _)
   | (with_reducible exact dues_Of.mono _ _ _ _ _ _ _ _ _ _ _ _ _ _ _ _ _)
   | (with_reducible exact ententelaw27_count.mono _ _ _)
   | (with_reducible exact ident_Org.mono _ _ _ _)
   | (with_reducible exact LeO.refl _)
   | (with_reducible exact LeO.none _)
   | (with_reducible refine LeO.ite ?_ ?_)
   | (with_reducible refine LeO.bind ?_ (fun _ => ?_))
   | exact ih0 _ _ _ _ _ _ _ _ _ _ _
   | exact ih1 _ _ _ _ _ _ _ _ _ _ _ _
   | exact ih2 _ _ _ _ _ _ _ _ _ _ _
   | exact ih3 _ _ _ _ _ _ _ _ _ _ _
   | exact ih4 _ _ _ _ _ _ _ _ _ _ _ _
   | exact dues_Of.mono _ _ _ _ _ _ _ _ _ _ _ _ _ _ _ _ _
   | exact ententelaw27_count.mono _ _ _
   | exact ident_Org.mono _ _ _ _
   | exact LeO.none _
   | refine LeO.ite ?_ ?_
   | refine LeO.bind ?_ (fun _ => ?_)
  ·intro y0 y1 y2 y3 y4 y5 y6 y7 y8 y9 y10 y11
   unfold ententelaw27_DuesNeeded.j4
   repeat' first
   | (with_reducible exact ih0 _ _ _ _ _ _ _ _ _ _ _)
   | (with_reducible exact ih1 _ _ _ _ _ _ _ _ _ _ _ _)
   | (with_reducible exact ih2 _ _ _ _ _ _ _ _ _ _ _)
   | (with_reducible exact ih3 _ _ _ _ _ _ _ _ _ _ _)
   | (with_reducible exact ih4 _ _ _ _ _ _ _ _ _ _ _ _)
   | (with_reducible exact dues_Of.mono _ _ _ _ _ _ _ _ _ _ _ _ _ _ _ _ _)
   | (with_reducible exact ententelaw27_count.mono _ _ _)
   | (with_reducible exact ident_Org.mono _ _ _ _)
   | (with_reducible exact LeO.refl _)
   | (with_reducible exact LeO.none _)
   | (with_reducible refine LeO.ite ?_ ?_)
   | (with_reducible refine LeO.bind ?_ (fun _ => ?_))
   | exact ih0 _ _ _ _ _ _ _ _ _ _ _
   | exact ih1 _ _ _ _ _ _ _ _ _ _ _ _
   | exact ih2 _ _ _ _ _ _ _ _ _ _ _
   | exact ih3 _ _ _ _ _ _ _ _ _ _ _
   | exact ih4 _ _ _ _ _ _ _ _ _ _ _ _
   | exact dues_Of.mono _ _ _ _ _ _ _ _ _ _ _ _ _ _ _ _ _
   | exact ententelaw27_count.mono _ _ _
   | exact ident_Org.mono _ _ _ _
   | exact LeO.none _
   | refine LeO.ite ?_ ?_
   | refine LeO.bind ?_ (fun _ => ?_)
theorem ententelaw27_DuesNeeded.mono : ∀ a0 a1 a2 a3 a4 a5 a6 a7 a8 k, LeO (ententelaw27_DuesNeeded.f k a0 a1 a2 a3 a4 a5 a6 a7 a8) (ententelaw27_DuesNeeded.f (k + 1) a0 a1 a2 a3 a4 a5 a6 a7 a8) := by
 intro a0 a1 a2 a3 a4 a5 a6 a7 a8 k
 obtain ⟨ih0, ih1, ih2, ih3, ih4⟩ := ententelaw27_DuesNeeded.mono_l k
 unfold ententelaw27_DuesNeeded.f
 repeat' first
   | (with_reducible exact ih0 _ _ _ _ _ _ _ _ _ _ _)
   | (with_reducible exact ih1 _ _ _ _ _ _ _ _ _ _ _ _)
   | (with_reducible exact ih2 _ _ _ _ _ _ _ _ _ _ _)
   | (with_reducible exact ih3 _ _ _ _ _ _ _ _ _ _ _)
   | (with_reducible exact ih4 _ _ _ _ _ _ _ _ _ _ _ _)
   | (with_reducible exact dues_Of.mono _ _ _ _ _ _ _ _ _ _ _ _ _ _ _ _ _)
   | (with_reducible exact ententelaw27_count.mono _ _ _)
   | (with_reducible exact ident_Org.mono _ _ _ _)
   | (with_reducible exact LeO.refl _)
   | (with_reducible exact LeO.none _)
   | (with_reducible refine LeO.ite ?_ ?_)
   | (with_reducible refine LeO.bind ?_ (fun _ => ?_))
   | exact ih0 _ _ _ _ _ _ _ _ _ _ _
   | exact ih1 _ _ _ _ _ _ _ _ _ _ _ _
   | exact ih2 _ _ _ _ _ _ _ _ _ _ _
   | exact ih3 _ _ _ _ _ _ _ _ _ _ _
   | exact ih4 _ _ _ _ _ _ _ _ _ _ _ _
   | exact dues_Of.mono _ _ _ _ _ _ _ _ _ _ _ _ _ _ _ _ _
   | exact ententelaw27_count.mono _ _ _
   | exact ident_Org.mono _ _ _ _
   | exact LeO.none _
   | refine LeO.ite ?_ ?_
   | refine LeO.bind ?_ (fun _ => ?_)
def ententelaw27_DuesNeeded.T16 : Bool × List (List Nat × List Nat) := (true, [([], []), ([0], [0]), ([], []), ([], []), ([3], [3]), ([4], [4]), ([], []), ([5, 6], [5, 6]), ([7], [7]), ([8], [8]), ([1, 2, 9], [1, 2, 9]), ([10], [10]), ([11], [11]), ([11], [11]), ([], []), ([14, 12, 10, 0, 1, 2, 3, 4, 5, 6, 7, 8, 9, 10, 11, 12, 14], [12, 14]), ([13, 15, 0, 1, 2, 3, 4, 5, 6, 7, 8, 9, 10, 11, 12, 13, 14, 15], [13])])
def ententelaw27_DuesNeeded.B16 : List Nat := [0, 1, 0, 0, 8, 24, 0, 120, 248, 504, 1023, 2047, 4095, 4095, 0, 24575, 65535]
theorem ententelaw27_DuesNeeded.tab16 : rtab .any (opsOf Tryd.f4 16) = ententelaw27_DuesNeeded.T16 := by kernel_rfl
theorem ententelaw27_DuesNeeded.bits16 : waitsOk ententelaw27_DuesNeeded.T16.2 ententelaw27_DuesNeeded.B16 = true := by kernel_rfl
set_option maxHeartbeats 8000000 in
set_option maxRecDepth 100000 in
theorem ententelaw27_DuesNeeded.calls (k : Nat) (a0_0 : Int) (a0_1 : Int) (A0_2 : Option Addr) (c0_2 : Nat) (l0_2 : List (S69)) (a0_3 : ByteArray) (A0_4 : Option Addr) (c0_4 : Nat) (l0_4 : List (S60)) (a0_5 : Int) (a0_6 : Int) (A0_7 : Option Addr) (c0_7 : Nat) (l0_7 : List (S62)) (a0_8 : Bool) (r : Bool) (w : World) (hr0_2 : Kd.C k69 w A0_2 l0_2.length l0_2) (hc0_2 : l0_2.length ≤ c0_2) (hr0_4 : Kd.C k60 w A0_4 l0_4.length l0_4) (hc0_4 : l0_4.length ≤ c0_4) (hr0_7 : Kd.C k62 w A0_7 l0_7.length l0_7) (hc0_7 : l0_7.length ≤ c0_7) (h : ententelaw27_DuesNeeded.f k a0_0 a0_1 l0_2 a0_3 l0_4 a0_5 a0_6 l0_7 a0_8 = some r) :
  Calls Tryd.prog 4 #[.agg #[.int .i64 a0_0, .int .i64 a0_1, .slice A0_2 l0_2.length c0_2, .string a0_3, .slice A0_4 l0_4.length c0_4, .int .i64 a0_5, .int .i64 a0_6, .slice A0_7 l0_7.length c0_7, .bool a0_8]] w fun e w' => e = .returned (.bool r) ∧ Below w.heap.size w w' := by
 have hu50 := Tryd.underlying50
 have hu40 := Tryd.underlying40
 have hu29 := Tryd.underlying29
 have HR0_2 := Aside0.mk hr0_2
 have HC0_2 := Aside0.mk hc0_2
 clear hr0_2 hc0_2
 have HR0_4 := Aside0.mk hr0_4
 have HC0_4 := Aside0.mk hc0_4
 clear hr0_4 hc0_4
 have HR0_7 := Aside0.mk hr0_7
 have HC0_7 := Aside0.mk hc0_7
 clear hr0_7 hc0_7
 have HB := Aside0.mk (Below.refl w.heap.size w)
 have H : ((ententelaw21_Few.f a0_0 a0_1 l0_2 a0_3 l0_4 a0_5 a0_6 l0_7 a0_8).bind fun t196 => (if t196 = true then ((ident_Org.f k a0_0 a0_1 l0_2).bind fun t198 => ((dues_Of.f k t198 0 0 ([] : List (S104)) ([] : List (S67)) ([] : List (S47)) ([] : List (S50)) a0_0 a0_1 l0_2 a0_3 l0_4 a0_5 a0_6 l0_7 a0_8).bind fun t199 => ((saga_May.f a0_0 a0_1 l0_2 a0_3 l0_4 a0_5 a0_6 l0_7 a0_8).bind fun t202 => (if t202 = 0 then (if a0_5 = 1 then (ententelaw27_DuesNeeded.j0 k t199 false a0_0 a0_1 l0_2 a0_3 l0_4 a0_5 a0_6 l0_7 a0_8) else (if a0_5 = 4 then (ententelaw27_DuesNeeded.j0 k t199 false a0_0 a0_1 l0_2 a0_3 l0_4 a0_5 a0_6 l0_7 a0_8) else (ententelaw27_DuesNeeded.j0 k t199 (a0_5 != 5) a0_0 a0_1 l0_2 a0_3 l0_4 a0_5 a0_6 l0_7 a0_8))) else (if (t199.length : Int) = 0 then ((ententelaw27_awake.f).bind fun t203 => (some t203)) else (some false)))))) else ((ententelaw27_awake.f).bind fun t197 => (some t197)))) = some r := h
 clear h
 replace H := Option.bind_eq_some_iff.mp H
 obtain ⟨t196, A20, H⟩ := H
 replace H : (if t196 = true then ((ident_Org.f k a0_0 a0_1 l0_2).bind fun t198 => ((dues_Of.f k t198 0 0 ([] : List (S104)) ([] : List (S67)) ([] : List (S47)) ([] : List (S50)) a0_0 a0_1 l0_2 a0_3 l0_4 a0_5 a0_6 l0_7 a0_8).bind fun t199 => ((saga_May.f a0_0 a0_1 l0_2 a0_3 l0_4 a0_5 a0_6 l0_7 a0_8).bind fun t202 => (if t202 = 0 then (if a0_5 = 1 then (ententelaw27_DuesNeeded.j0 k t199 false a0_0 a0_1 l0_2 a0_3 l0_4 a0_5 a0_6 l0_7 a0_8) else (if a0_5 = 4 then (ententelaw27_DuesNeeded.j0 k t199 false a0_0 a0_1 l0_2 a0_3 l0_4 a0_5 a0_6 l0_7 a0_8) else (ententelaw27_DuesNeeded.j0 k t199 (a0_5 != 5) a0_0 a0_1 l0_2 a0_3 l0_4 a0_5 a0_6 l0_7 a0_8))) else (if (t199.length : Int) = 0 then ((ententelaw27_awake.f).bind fun t203 => (some t203)) else (some false)))))) else ((ententelaw27_awake.f).bind fun t197 => (some t197))) = some r := H
 have A2 := Aside0.mk A20
 clear A20
 by_cases c3 : t196 = true
 ·subst c3
  have H1 : ((ident_Org.f k a0_0 a0_1 l0_2).bind fun t198 => ((dues_Of.f k t198 0 0 ([] : List (S104)) ([] : List (S67)) ([] : List (S47)) ([] : List (S50)) a0_0 a0_1 l0_2 a0_3 l0_4 a0_5 a0_6 l0_7 a0_8).bind fun t199 => ((saga_May.f a0_0 a0_1 l0_2 a0_3 l0_4 a0_5 a0_6 l0_7 a0_8).bind fun t202 => (if t202 = 0 then (if a0_5 = 1 then (ententelaw27_DuesNeeded.j0 k t199 false a0_0 a0_1 l0_2 a0_3 l0_4 a0_5 a0_6 l0_7 a0_8) else (if a0_5 = 4 then (ententelaw27_DuesNeeded.j0 k t199 false a0_0 a0_1 l0_2 a0_3 l0_4 a0_5 a0_6 l0_7 a0_8) else (ententelaw27_DuesNeeded.j0 k t199 (a0_5 != 5) a0_0 a0_1 l0_2 a0_3 l0_4 a0_5 a0_6 l0_7 a0_8))) else (if (t199.length : Int) = 0 then ((ententelaw27_awake.f).bind fun t203 => (some t203)) else (some false)))))) = some r := by rw [if_pos rfl] at H; exact H
  clear H
  have H := H1
  clear H1
  replace H := Option.bind_eq_some_iff.mp H
  obtain ⟨t198, A40, H⟩ := H
  replace H : ((dues_Of.f k t198 0 0 ([] : List (S104)) ([] : List (S67)) ([] : List (S47)) ([] : List (S50)) a0_0 a0_1 l0_2 a0_3 l0_4 a0_5 a0_6 l0_7 a0_8).bind fun t199 => ((saga_May.f a0_0 a0_1 l0_2 a0_3 l0_4 a0_5 a0_6 l0_7 a0_8).bind fun t202 => (if t202 = 0 then (if a0_5 = 1 then (ententelaw27_DuesNeeded.j0 k t199 false a0_0 a0_1 l0_2 a0_3 l0_4 a0_5 a0_6 l0_7 a0_8) else (if a0_5 = 4 then (ententelaw27_DuesNeeded.j0 k t199 false a0_0 a0_1 l0_2 a0_3 l0_4 a0_5 a0_6 l0_7 a0_8) else (ententelaw27_DuesNeeded.j0 k t199 (a0_5 != 5) a0_0 a0_1 l0_2 a0_3 l0_4 a0_5 a0_6 l0_7 a0_8))) else (if (t199.length : Int) = 0 then ((ententelaw27_awake.f).bind fun t203 => (some t203)) else (some false))))) = some r := H
  have A4 := Aside0.mk A40
  clear A40
  replace H := Option.bind_eq_some_iff.mp H
  obtain ⟨t199, A50, H⟩ := H
  replace H : ((saga_May.f a0_0 a0_1 l0_2 a0_3 l0_4 a0_5 a0_6 l0_7 a0_8).bind fun t202 => (if t202 = 0 then (if a0_5 = 1 then (ententelaw27_DuesNeeded.j0 k t199 false a0_0 a0_1 l0_2 a0_3 l0_4 a0_5 a0_6 l0_7 a0_8) else (if a0_5 = 4 then (ententelaw27_DuesNeeded.j0 k t199 false a0_0 a0_1 l0_2 a0_3 l0_4 a0_5 a0_6 l0_7 a0_8) else (ententelaw27_DuesNeeded.j0 k t199 (a0_5 != 5) a0_0 a0_1 l0_2 a0_3 l0_4 a0_5 a0_6 l0_7 a0_8))) else (if (t199.length : Int) = 0 then ((ententelaw27_awake.f).bind fun t203 => (some t203)) else (some false)))) = some r := H
  have A5 := Aside0.mk A50
  clear A50
  replace H := Option.bind_eq_some_iff.mp H
  obtain ⟨t202, A60, H⟩ := H
  replace H : (if t202 = 0 then (if a0_5 = 1 then (ententelaw27_DuesNeeded.j0 k t199 false a0_0 a0_1 l0_2 a0_3 l0_4 a0_5 a0_6 l0_7 a0_8) else (if a0_5 = 4 then (ententelaw27_DuesNeeded.j0 k t199 false a0_0 a0_1 l0_2 a0_3 l0_4 a0_5 a0_6 l0_7 a0_8) else (ententelaw27_DuesNeeded.j0 k t199 (a0_5 != 5) a0_0 a0_1 l0_2 a0_3 l0_4 a0_5 a0_6 l0_7 a0_8))) else (if (t199.length : Int) = 0 then ((ententelaw27_awake.f).bind fun t203 => (some t203)) else (some false))) = some r := H
  have A6 := Aside0.mk A60
  clear A60
  by_cases c7 : t202 = 0
  ·rw [if_pos c7] at H
   have c7b0 : (t202 == 0) = true := beq_iff_eq.mpr c7
   have c7b1 : (t202 != 0) = false := bne_eq_false_iff_eq.mpr c7
   clear c7
   have HC8 := Aside0.mk H
   clear H
   go_enter Tryd.func4, Tryd.ntmps4
   try go_wp2_with (first | ((with_reducible refine gate_dst (N := 1) rfl ?_); (try (refine gate_guard (by rfl) ?_; dsimp only)); refine box_event ?hg (N := 1) ?hd (cs := #[.int .i64 a0_0, .int .i64 a0_1, .slice A0_2 l0_2.length c0_2, .string a0_3, .slice A0_4 l0_4.length c0_4, .int .i64 a0_5, .int .i64 a0_6, .slice A0_7 l0_7.length c0_7, .bool a0_8]) (t := 50) ?hr ?_; (case hd => rfl); (case hg => rfl); (case hr => first | (go_simp; done) | (go_simp; rfl)); intro gb195 hg w9 hbox hb; have n0_ := Aside0.mk (below_step (mvL0 HB.out) hb); have n1_ := Aside0.mk (hbox); have n2_ := Aside0.mk ((by rw [hg]; exact (below_size (mvL0 HB.out)) : w.heap.size ≤ gb195)); have n3_ := Aside0.mk ((by rw [hg]; exact (below_size (mvL0 HB.out)) : w.heap.size ≤ gb195)); clear HB; have HB := n0_; have BK195 := n1_; have GW195 := n2_; have GE195 := n3_; clear n0_ n1_ n2_ n3_; clear hb hbox hg; have hcz10_0 : w9.cell? ⟨gb195, 0, none⟩ = some (.int .i64 a0_0) := (blk_cell BK195.out 0).trans rfl; have hcz10_1 : w9.cell? ⟨gb195, 1, none⟩ = some (.int .i64 a0_1) := (blk_cell BK195.out 1).trans rfl; have hcz10_2 : w9.cell? ⟨gb195, 2, none⟩ = some (.slice A0_2 l0_2.length c0_2) := (blk_cell BK195.out 2).trans rfl; have hcz10_3 : w9.cell? ⟨gb195, 3, none⟩ = some (.string a0_3) := (blk_cell BK195.out 3).trans rfl; have hcz10_4 : w9.cell? ⟨gb195, 4, none⟩ = some (.slice A0_4 l0_4.length c0_4) := (blk_cell BK195.out 4).trans rfl; have hcz10_5 : w9.cell? ⟨gb195, 5, none⟩ = some (.int .i64 a0_5) := (blk_cell BK195.out 5).trans rfl; have hcz10_6 : w9.cell? ⟨gb195, 6, none⟩ = some (.int .i64 a0_6) := (blk_cell BK195.out 6).trans rfl; have hcz10_7 : w9.cell? ⟨gb195, 7, none⟩ = some (.slice A0_7 l0_7.length c0_7) := (blk_cell BK195.out 7).trans rfl; have hcz10_8 : w9.cell? ⟨gb195, 8, none⟩ = some (.bool a0_8) := (blk_cell BK195.out 8).trans rfl; have hfz10_0 := blk_frozen BK195.out 0; have hfz10_1 := blk_frozen BK195.out 1; have hfz10_2 := blk_frozen BK195.out 2; have hfz10_3 := blk_frozen BK195.out 3; have hfz10_4 := blk_frozen BK195.out 4; have hfz10_5 := blk_frozen BK195.out 5; have hfz10_6 := blk_frozen BK195.out 6; have hfz10_7 := blk_frozen BK195.out 7; have hfz10_8 := blk_frozen BK195.out 8) | ((with_reducible refine gate_callee (f := 12) rfl ?_); refine goesL_ (some 11) rfl rfl Tryd.func12 (by kernel_rfl) rfl #[.agg #[.int .i64 a0_0, .int .i64 a0_1, .slice A0_2 l0_2.length c0_2, .string a0_3, .slice A0_4 l0_4.length c0_4, .int .i64 a0_5, .int .i64 a0_6, .slice A0_7 l0_7.length c0_7, .bool a0_8]] rfl (by (try simp only [List.map_toArray, List.map_cons, List.map_nil]); first | done | rfl | (simp only [List.length_drop, List.length_take]; rfl)) ?_; (with_reducible refine (ententelaw21_Few.calls a0_0 a0_1 _ _ l0_2 a0_3 _ _ l0_4 a0_5 a0_6 _ _ l0_7 a0_8 true _ ?side1 ?side2 ?side3 ?side4 ?side5 ?side6 A2.out).mono ?_); (case side1 => repeat (first | exact (Kd.C_below HR0_2.out HB.out) | (with_reducible refine Kd.C_alloc ?_ _) | (with_reducible refine Kd.C_drewN ?_ _) | (with_reducible refine Kd.C_drew ?_))); (case side2 => exact HC0_2.out); (case side3 => repeat (first | exact (Kd.C_below HR0_4.out HB.out) | (with_reducible refine Kd.C_alloc ?_ _) | (with_reducible refine Kd.C_drewN ?_ _) | (with_reducible refine Kd.C_drew ?_))); (case side4 => exact HC0_4.out); (case side5 => repeat (first | exact (Kd.C_below HR0_7.out HB.out) | (with_reducible refine Kd.C_alloc ?_ _) | (with_reducible refine Kd.C_drewN ?_ _) | (with_reducible refine Kd.C_drew ?_))); (case side6 => exact HC0_7.out); rintro e w11 ⟨rfl, hb⟩; refine ⟨_, rfl, ?_⟩; have n0_ := Aside0.mk (blk_below (g := gb195) (o := .cells #[.int .i64 a0_0, .int .i64 a0_1, .slice A0_2 l0_2.length c0_2, .string a0_3, .slice A0_4 l0_4.length c0_4, .int .i64 a0_5, .int .i64 a0_6, .slice A0_7 l0_7.length c0_7, .bool a0_8] 50 (0, 0)) (mvB BK195.out) hb); have n1_ := Aside0.mk (below_step (mvL1 HB.out GE195.out) hb); clear BK195; clear HB; have BK195 := n0_; have HB := n1_; clear n0_ n1_; (try clear hb); (try clear hb2); (try clear hk); (try clear hi)))
   have n0_ := Aside0.mk (blk_drew BK195.out)
   have n1_ := Aside0.mk (below_drew1 HB.out)
   clear BK195
   clear HB
   have BK195 := n0_
   have HB := n1_
   clear n0_ n1_
   refine start_ (n := 7) (S := fun w' => w'.cell? ⟨gb195, 0, none⟩ = some (.int .i64 a0_0) ∧ w'.cell? ⟨gb195, 1, none⟩ = some (.int .i64 a0_1) ∧ w'.cell? ⟨gb195, 2, none⟩ = some (.slice A0_2 l0_2.length c0_2) ∧ w'.cell? ⟨gb195, 3, none⟩ = some (.string a0_3) ∧ w'.cell? ⟨gb195, 4, none⟩ = some (.slice A0_4 l0_4.length c0_4) ∧ w'.cell? ⟨gb195, 5, none⟩ = some (.int .i64 a0_5) ∧ w'.cell? ⟨gb195, 6, none⟩ = some (.int .i64 a0_6) ∧ w'.cell? ⟨gb195, 7, none⟩ = some (.slice A0_7 l0_7.length c0_7) ∧ w'.cell? ⟨gb195, 8, none⟩ = some (.bool a0_8)) (ds := []) #[false, false, false, false, false, false, false] (by kernel_rfl) rfl rfl ⟨(blk_cell BK195.out 0).trans rfl, (blk_cell BK195.out 1).trans rfl, (blk_cell BK195.out 2).trans rfl, (blk_cell BK195.out 3).trans rfl, (blk_cell BK195.out 4).trans rfl, (blk_cell BK195.out 5).trans rfl, (blk_cell BK195.out 6).trans rfl, (blk_cell BK195.out 7).trans rfl, (blk_cell BK195.out 8).trans rfl⟩ (fun hHeld => ?_)
   generalize w11.drew = w12 at BK195 HB hHeld ⊢
   refine pure_ (i := 0) (N := some 14) (v := ?_) (a' := ?_) #[true, false, false, false, false, false, false] rfl rfl (by kernel_rfl) (fun _ _ _ h => h) (Or.inl ⟨by rfl, ?_⟩) ?_ ?_
   rotate_left
   ·intro w'
    go_simp
    with_reducible rfl
   rotate_left
   ·simp only [Act.put, List.setIfInBounds_toArray, List.set_cons_zero, List.set_cons_succ, i64_w, i32_w]
    rfl
   refine take_ (i := 1) (N := some 15) (v := ?_) (a' := ?_) #[true, true, false, false, false, false, false] rfl rfl (by kernel_rfl) (fun _ _ _ h => h) (Or.inl ⟨by rfl, ?_⟩) hHeld ?_ ?_
   rotate_left
   ·rintro w' ⟨s0, s1, s2, s3, s4, s5, s6, s7, s8⟩
    go_simp
    with_reducible rfl
   rotate_left
   ·simp only [Act.put, List.setIfInBounds_toArray, List.set_cons_zero, List.set_cons_succ, i64_w, i32_w]
    rfl
   refine take_ (i := 4) (N := some 18) (v := ?_) (a' := ?_) #[true, true, false, false, true, false, false] rfl rfl (by kernel_rfl) (fun _ _ _ h => h) (Or.inl ⟨by rfl, ?_⟩) hHeld ?_ ?_
   rotate_left
   ·rintro w' ⟨s0, s1, s2, s3, s4, s5, s6, s7, s8⟩
    go_simp
    with_reducible rfl
   rotate_left
   ·simp only [Act.put, List.setIfInBounds_toArray, List.set_cons_zero, List.set_cons_succ, i64_w, i32_w]
    rfl
   refine one_ (i := 2) (N := some 16) #[true, true, true, false, true, false, false] rfl rfl (by kernel_rfl) (by decide) (fun K hK => ?_)
   refine goes_ Tryd.func14 (by kernel_rfl) rfl #[.agg #[.int .i64 a0_0, .int .i64 a0_1, .slice A0_2 l0_2.length c0_2]] (by rfl) rfl rfl (by (try simp only [List.map_toArray, List.map_cons, List.map_nil]); first | done | rfl | (simp only [List.length_drop, List.length_take]; rfl)) ?_
   with_reducible refine (ident_Org.calls k a0_0 a0_1 _ _ l0_2 t198 _ ?side1 ?side2 A4.out).mono ?_
   (case side1 => repeat (first | exact (Kd.C_below HR0_2.out HB.out) | (with_reducible refine Kd.C_alloc ?_ _) | (with_reducible refine Kd.C_drewN ?_ _) | (with_reducible refine Kd.C_drew ?_)))
   (case side2 => exact HC0_2.out)
   rintro e w13 ⟨rfl, hb⟩
   refine ⟨_, rfl, ?_⟩
   have n0_ := Aside0.mk (blk_below (g := gb195) (o := .cells #[.int .i64 a0_0, .int .i64 a0_1, .slice A0_2 l0_2.length c0_2, .string a0_3, .slice A0_4 l0_4.length c0_4, .int .i64 a0_5, .int .i64 a0_6, .slice A0_7 l0_7.length c0_7, .bool a0_8] 50 (0, 0)) (mvB BK195.out) hb)
   have n1_ := Aside0.mk (below_step (mvL1 HB.out GE195.out) hb)
   clear BK195
   clear HB
   have BK195 := n0_
   have HB := n1_
   clear n0_ n1_
   (try clear hb)
   (try clear hb2)
   (try clear hk)
   (try clear hi)
   refine hK.out _ _ ⟨(blk_cell BK195.out 0).trans rfl, (blk_cell BK195.out 1).trans rfl, (blk_cell BK195.out 2).trans rfl, (blk_cell BK195.out 3).trans rfl, (blk_cell BK195.out 4).trans rfl, (blk_cell BK195.out 5).trans rfl, (blk_cell BK195.out 6).trans rfl, (blk_cell BK195.out 7).trans rfl, (blk_cell BK195.out 8).trans rfl⟩ (fun hHeld => ?_)
   clear hK K
   refine norm_ (a' := ?_) ?_ ?_
   rotate_left
   ·show Act.put _ (some 16) _ = _
    simp only [Act.put, List.setIfInBounds_toArray, List.set_cons_zero, List.set_cons_succ, i64_w, i32_w]
    rfl
   refine pure_ (i := 3) (N := some 17) (v := ?_) (a' := ?_) #[true, true, true, true, true, false, false] rfl rfl (by kernel_rfl) (fun _ _ _ h => h) (Or.inl ⟨by rfl, ?_⟩) ?_ ?_
   rotate_left
   ·intro w'
    go_simp
    with_reducible rfl
   rotate_left
   ·simp only [Act.put, List.setIfInBounds_toArray, List.set_cons_zero, List.set_cons_succ, i64_w, i32_w]
    rfl
   refine one_ (i := 5) (N := some 19) #[true, true, true, true, true, true, false] rfl rfl (by kernel_rfl) (by decide) (fun K hK => ?_)
   refine goes_ Tryd.func13 (by kernel_rfl) rfl #[.agg #[.int .i64 t198, .int .i64 0, .int .i64 0, .slice none 0 0, .slice none 0 0, .slice none 0 0, .slice none 0 0], .agg #[.int .i64 a0_0, .int .i64 a0_1, .slice A0_2 l0_2.length c0_2, .string a0_3, .slice A0_4 l0_4.length c0_4, .int .i64 a0_5, .int .i64 a0_6, .slice A0_7 l0_7.length c0_7, .bool a0_8]] (by rfl) rfl rfl (by (try simp only [List.map_toArray, List.map_cons, List.map_nil]); first | done | rfl | (simp only [List.length_drop, List.length_take]; rfl)) ?_
   refine (dues_Of.calls k t198 0 0 _ _ ([] : List (S104)) _ _ ([] : List (S67)) _ _ ([] : List (S47)) _ _ ([] : List (S50)) a0_0 a0_1 _ _ l0_2 a0_3 _ _ l0_4 a0_5 a0_6 _ _ l0_7 a0_8 t199 _ ?side1 ?side2 ?side3 ?side4 ?side5 ?side6 ?side7 ?side8 ?side9 ?side10 ?side11 ?side12 ?side13 ?side14 A5.out).mono ?_
   (case side1 => exact Kd.C_nil _ _)
   (case side2 => exact Nat.le_refl _)
   (case side3 => exact Kd.C_nil _ _)
   (case side4 => exact Nat.le_refl _)
   (case side5 => exact Kd.C_nil _ _)
   (case side6 => exact Nat.le_refl _)
   (case side7 => exact Kd.C_nil _ _)
   (case side8 => exact Nat.le_refl _)
   (case side9 => repeat (first | exact (Kd.C_below HR0_2.out HB.out) | (with_reducible refine Kd.C_alloc ?_ _) | (with_reducible refine Kd.C_drewN ?_ _) | (with_reducible refine Kd.C_drew ?_)))
   (case side10 => exact HC0_2.out)
   (case side11 => repeat (first | exact (Kd.C_below HR0_4.out HB.out) | (with_reducible refine Kd.C_alloc ?_ _) | (with_reducible refine Kd.C_drewN ?_ _) | (with_reducible refine Kd.C_drew ?_)))
   (case side12 => exact HC0_4.out)
   (case side13 => repeat (first | exact (Kd.C_below HR0_7.out HB.out) | (with_reducible refine Kd.C_alloc ?_ _) | (with_reducible refine Kd.C_drewN ?_ _) | (with_reducible refine Kd.C_drew ?_)))
   (case side14 => exact HC0_7.out)
   rintro e w14 ⟨v200, rfl, ho0, hb⟩
   refine ⟨_, rfl, ?_⟩
   have n0_ := Aside0.mk (Kd.S_lower ho0 (below_size (mvL1 HB.out GE195.out)))
   have n1_ := Aside0.mk (blk_below (g := gb195) (o := .cells #[.int .i64 a0_0, .int .i64 a0_1, .slice A0_2 l0_2.length c0_2, .string a0_3, .slice A0_4 l0_4.length c0_4, .int .i64 a0_5, .int .i64 a0_6, .slice A0_7 l0_7.length c0_7, .bool a0_8] 50 (0, 0)) (mvB BK195.out) hb)
   have n2_ := Aside0.mk (below_step (mvL1 HB.out GE195.out) hb)
   clear BK195
   clear HB
   have HO201 := n0_
   have BK195 := n1_
   have HB := n2_
   clear n0_ n1_ n2_
   (try clear hb)
   (try clear hb2)
   (try clear hk)
   (try clear hi)
   (try clear ho0)
   refine hK.out _ _ ⟨(blk_cell BK195.out 0).trans rfl, (blk_cell BK195.out 1).trans rfl, (blk_cell BK195.out 2).trans rfl, (blk_cell BK195.out 3).trans rfl, (blk_cell BK195.out 4).trans rfl, (blk_cell BK195.out 5).trans rfl, (blk_cell BK195.out 6).trans rfl, (blk_cell BK195.out 7).trans rfl, (blk_cell BK195.out 8).trans rfl⟩ (fun hHeld => ?_)
   clear hK K
   refine norm_ (a' := ?_) ?_ ?_
   rotate_left
   ·show Act.put _ (some 19) _ = _
    simp only [Act.put, List.setIfInBounds_toArray, List.set_cons_zero, List.set_cons_succ, i64_w, i32_w]
    rfl
   refine pure_ (i := 6) (N := some 3) (v := ?_) (a' := ?_) #[true, true, true, true, true, true, true] rfl rfl (by kernel_rfl) (fun _ _ _ h => h) (Or.inl ⟨by rfl, ?_⟩) ?_ ?_
   rotate_left
   ·intro w'
    go_simp
    with_reducible rfl
   rotate_left
   ·simp only [Act.put, List.setIfInBounds_toArray, List.set_cons_zero, List.set_cons_succ, i64_w, i32_w]
    rfl
   refine done_ (by kernel_rfl) ?_
   have hcz15_0 : w14.cell? ⟨gb195, 0, none⟩ = some (.int .i64 a0_0) := (blk_cell BK195.out 0).trans rfl
   have hcz15_1 : w14.cell? ⟨gb195, 1, none⟩ = some (.int .i64 a0_1) := (blk_cell BK195.out 1).trans rfl
   have hcz15_2 : w14.cell? ⟨gb195, 2, none⟩ = some (.slice A0_2 l0_2.length c0_2) := (blk_cell BK195.out 2).trans rfl
   have hcz15_3 : w14.cell? ⟨gb195, 3, none⟩ = some (.string a0_3) := (blk_cell BK195.out 3).trans rfl
   have hcz15_4 : w14.cell? ⟨gb195, 4, none⟩ = some (.slice A0_4 l0_4.length c0_4) := (blk_cell BK195.out 4).trans rfl
   have hcz15_5 : w14.cell? ⟨gb195, 5, none⟩ = some (.int .i64 a0_5) := (blk_cell BK195.out 5).trans rfl
   have hcz15_6 : w14.cell? ⟨gb195, 6, none⟩ = some (.int .i64 a0_6) := (blk_cell BK195.out 6).trans rfl
   have hcz15_7 : w14.cell? ⟨gb195, 7, none⟩ = some (.slice A0_7 l0_7.length c0_7) := (blk_cell BK195.out 7).trans rfl
   have hcz15_8 : w14.cell? ⟨gb195, 8, none⟩ = some (.bool a0_8) := (blk_cell BK195.out 8).trans rfl
   have hfz15_0 := blk_frozen BK195.out 0
   have hfz15_1 := blk_frozen BK195.out 1
   have hfz15_2 := blk_frozen BK195.out 2
   have hfz15_3 := blk_frozen BK195.out 3
   have hfz15_4 := blk_frozen BK195.out 4
   have hfz15_5 := blk_frozen BK195.out 5
   have hfz15_6 := blk_frozen BK195.out 6
   have hfz15_7 := blk_frozen BK195.out 7
   have hfz15_8 := blk_frozen BK195.out 8
   go_upto_region 6 with (first | ((with_reducible refine gate_callee (f := 15) rfl ?_); refine goesL_ (some 21) rfl rfl Tryd.func15 (by kernel_rfl) rfl #[.agg #[.int .i64 a0_0, .int .i64 a0_1, .slice A0_2 l0_2.length c0_2, .string a0_3, .slice A0_4 l0_4.length c0_4, .int .i64 a0_5, .int .i64 a0_6, .slice A0_7 l0_7.length c0_7, .bool a0_8]] rfl (by (try simp only [List.map_toArray, List.map_cons, List.map_nil]); first | done | rfl | (simp only [List.length_drop, List.length_take]; rfl)) ?_; (with_reducible refine (saga_May.calls a0_0 a0_1 _ _ l0_2 a0_3 _ _ l0_4 a0_5 a0_6 _ _ l0_7 a0_8 t202 _ ?side1 ?side2 ?side3 ?side4 ?side5 ?side6 A6.out).mono ?_); (case side1 => repeat (first | exact (Kd.C_below HR0_2.out HB.out) | (with_reducible refine Kd.C_alloc ?_ _) | (with_reducible refine Kd.C_drewN ?_ _) | (with_reducible refine Kd.C_drew ?_))); (case side2 => exact HC0_2.out); (case side3 => repeat (first | exact (Kd.C_below HR0_4.out HB.out) | (with_reducible refine Kd.C_alloc ?_ _) | (with_reducible refine Kd.C_drewN ?_ _) | (with_reducible refine Kd.C_drew ?_))); (case side4 => exact HC0_4.out); (case side5 => repeat (first | exact (Kd.C_below HR0_7.out HB.out) | (with_reducible refine Kd.C_alloc ?_ _) | (with_reducible refine Kd.C_drewN ?_ _) | (with_reducible refine Kd.C_drew ?_))); (case side6 => exact HC0_7.out); rintro e w16 ⟨rfl, hb⟩; refine ⟨_, rfl, ?_⟩; have n0_ := Aside0.mk (Kd.S_below (mvS HO201.out) hb); have n1_ := Aside0.mk (blk_below (g := gb195) (o := .cells #[.int .i64 a0_0, .int .i64 a0_1, .slice A0_2 l0_2.length c0_2, .string a0_3, .slice A0_4 l0_4.length c0_4, .int .i64 a0_5, .int .i64 a0_6, .slice A0_7 l0_7.length c0_7, .bool a0_8] 50 (0, 0)) (mvB BK195.out) hb); have n2_ := Aside0.mk (below_step (mvL1 HB.out GE195.out) hb); clear HO201; clear BK195; clear HB; have HO201 := n0_; have BK195 := n1_; have HB := n2_; clear n0_ n1_ n2_; (try clear hb); (try clear hb2); (try clear hk); (try clear hi)))
   (try simp only [Act.put, List.setIfInBounds_toArray, List.set_cons_zero, List.set_cons_succ])
   go_cut [4] (fun v4 wc => ∃ (kq : Nat) (x4_7 : Bool), v4 = .bool x4_7 ∧ Aside0 (ententelaw27_DuesNeeded.j0 kq t199 x4_7 a0_0 a0_1 l0_2 a0_3 l0_4 a0_5 a0_6 l0_7 a0_8 = some r) ∧ Aside0 (kq ≤ k) ∧ Aside0 (Kd.S k42 42 wc w.heap.size (fun _ => True) v200 t199) ∧ Aside0 (wc.heap[gb195]? = some (.cells #[.int .i64 a0_0, .int .i64 a0_1, (.slice A0_2 l0_2.length c0_2), .string a0_3, (.slice A0_4 l0_4.length c0_4), .int .i64 a0_5, .int .i64 a0_6, (.slice A0_7 l0_7.length c0_7), .bool a0_8] 50 (0, 0))) ∧ Aside0 (Below w.heap.size w wc))
   case first =>
    have H := HC8.out
    clear HC8
    by_cases c17 : a0_5 = 1
    ·rw [if_pos c17] at H
     have c17b0 : (a0_5 == 1) = true := beq_iff_eq.mpr c17
     have c17b1 : (a0_5 != 1) = false := bne_eq_false_iff_eq.mpr c17
     clear c17
     (first | rw [c17b0] | (simp only [i64_w, i32_w]; rw [c17b0]) | skip)
     have H' := Aside0.mk H
     clear H
     have hcz18_0 : w16.cell? ⟨gb195, 0, none⟩ = some (.int .i64 a0_0) := (blk_cell BK195.out 0).trans rfl
     have hcz18_1 : w16.cell? ⟨gb195, 1, none⟩ = some (.int .i64 a0_1) := (blk_cell BK195.out 1).trans rfl
     have hcz18_2 : w16.cell? ⟨gb195, 2, none⟩ = some (.slice A0_2 l0_2.length c0_2) := (blk_cell BK195.out 2).trans rfl
     have hcz18_3 : w16.cell? ⟨gb195, 3, none⟩ = some (.string a0_3) := (blk_cell BK195.out 3).trans rfl
     have hcz18_4 : w16.cell? ⟨gb195, 4, none⟩ = some (.slice A0_4 l0_4.length c0_4) := (blk_cell BK195.out 4).trans rfl
     have hcz18_5 : w16.cell? ⟨gb195, 5, none⟩ = some (.int .i64 a0_5) := (blk_cell BK195.out 5).trans rfl
     have hcz18_6 : w16.cell? ⟨gb195, 6, none⟩ = some (.int .i64 a0_6) := (blk_cell BK195.out 6).trans rfl
     have hcz18_7 : w16.cell? ⟨gb195, 7, none⟩ = some (.slice A0_7 l0_7.length c0_7) := (blk_cell BK195.out 7).trans rfl
     have hcz18_8 : w16.cell? ⟨gb195, 8, none⟩ = some (.bool a0_8) := (blk_cell BK195.out 8).trans rfl
     have hfz18_0 := blk_frozen BK195.out 0
     have hfz18_1 := blk_frozen BK195.out 1
     have hfz18_2 := blk_frozen BK195.out 2
     have hfz18_3 := blk_frozen BK195.out 3
     have hfz18_4 := blk_frozen BK195.out 4
     have hfz18_5 := blk_frozen BK195.out 5
     have hfz18_6 := blk_frozen BK195.out 6
     have hfz18_7 := blk_frozen BK195.out 7
     have hfz18_8 := blk_frozen BK195.out 8
     go_wp2
     go_meet
     case rel => exact ⟨_, (false), (by first | rfl | (simp; done) | (simp [*]; done)), H', ⟨by first | omega | exact Nat.le_refl _⟩, ⟨by (with_reducible repeat (first | apply Kd.S_alloc | apply Kd.S_drewN | apply Kd.S_drew)); exact HO201.out⟩, ⟨by (with_reducible repeat (first | refine blk_drewN ?_ _ | refine blk_drew ?_ | refine blk_alloc ?_ _)); exact BK195.out⟩, ⟨by repeat (first | (with_reducible first | exact HB.out | apply below_alloc | apply pw_below_drewN | apply below_drew1 | refine below_set ?_ GE195.out) | exact HB.out)⟩⟩
    ·rw [if_neg c17] at H
     have c17b0 : (a0_5 == 1) = false := beq_eq_false_iff_ne.mpr c17
     have c17b1 : (a0_5 != 1) = true := bne_iff_ne.mpr c17
     (first | rw [c17b0] | (simp only [i64_w, i32_w]; rw [c17b0]) | skip)
     by_cases c19 : a0_5 = 4
     ·rw [if_pos c19] at H
      have c19b0 : (a0_5 == 4) = true := beq_iff_eq.mpr c19
      have c19b1 : (a0_5 != 4) = false := bne_eq_false_iff_eq.mpr c19
      clear c19
      have H' := Aside0.mk H
      clear H
      have hcz20_0 : w16.cell? ⟨gb195, 0, none⟩ = some (.int .i64 a0_0) := (blk_cell BK195.out 0).trans rfl
      have hcz20_1 : w16.cell? ⟨gb195, 1, none⟩ = some (.int .i64 a0_1) := (blk_cell BK195.out 1).trans rfl
      have hcz20_2 : w16.cell? ⟨gb195, 2, none⟩ = some (.slice A0_2 l0_2.length c0_2) := (blk_cell BK195.out 2).trans rfl
      have hcz20_3 : w16.cell? ⟨gb195, 3, none⟩ = some (.string a0_3) := (blk_cell BK195.out 3).trans rfl
      have hcz20_4 : w16.cell? ⟨gb195, 4, none⟩ = some (.slice A0_4 l0_4.length c0_4) := (blk_cell BK195.out 4).trans rfl
      have hcz20_5 : w16.cell? ⟨gb195, 5, none⟩ = some (.int .i64 a0_5) := (blk_cell BK195.out 5).trans rfl
      have hcz20_6 : w16.cell? ⟨gb195, 6, none⟩ = some (.int .i64 a0_6) := (blk_cell BK195.out 6).trans rfl
      have hcz20_7 : w16.cell? ⟨gb195, 7, none⟩ = some (.slice A0_7 l0_7.length c0_7) := (blk_cell BK195.out 7).trans rfl
      have hcz20_8 : w16.cell? ⟨gb195, 8, none⟩ = some (.bool a0_8) := (blk_cell BK195.out 8).trans rfl
      have hfz20_0 := blk_frozen BK195.out 0
      have hfz20_1 := blk_frozen BK195.out 1
      have hfz20_2 := blk_frozen BK195.out 2
      have hfz20_3 := blk_frozen BK195.out 3
      have hfz20_4 := blk_frozen BK195.out 4
      have hfz20_5 := blk_frozen BK195.out 5
      have hfz20_6 := blk_frozen BK195.out 6
      have hfz20_7 := blk_frozen BK195.out 7
      have hfz20_8 := blk_frozen BK195.out 8
      go_wp2
      go_meet
      case rel => exact ⟨_, (false), (by first | rfl | (simp; done) | (simp [*]; done)), H', ⟨by first | omega | exact Nat.le_refl _⟩, ⟨by (with_reducible repeat (first | apply Kd.S_alloc | apply Kd.S_drewN | apply Kd.S_drew)); exact HO201.out⟩, ⟨by (with_reducible repeat (first | refine blk_drewN ?_ _ | refine blk_drew ?_ | refine blk_alloc ?_ _)); exact BK195.out⟩, ⟨by repeat (first | (with_reducible first | exact HB.out | apply below_alloc | apply pw_below_drewN | apply below_drew1 | refine below_set ?_ GE195.out) | exact HB.out)⟩⟩
     ·rw [if_neg c19] at H
      have c19b0 : (a0_5 == 4) = false := beq_eq_false_iff_ne.mpr c19
      have c19b1 : (a0_5 != 4) = true := bne_iff_ne.mpr c19
      have H' := Aside0.mk H
      clear H
      have hcz21_0 : w16.cell? ⟨gb195, 0, none⟩ = some (.int .i64 a0_0) := (blk_cell BK195.out 0).trans rfl
      have hcz21_1 : w16.cell? ⟨gb195, 1, none⟩ = some (.int .i64 a0_1) := (blk_cell BK195.out 1).trans rfl
      have hcz21_2 : w16.cell? ⟨gb195, 2, none⟩ = some (.slice A0_2 l0_2.length c0_2) := (blk_cell BK195.out 2).trans rfl
      have hcz21_3 : w16.cell? ⟨gb195, 3, none⟩ = some (.string a0_3) := (blk_cell BK195.out 3).trans rfl
      have hcz21_4 : w16.cell? ⟨gb195, 4, none⟩ = some (.slice A0_4 l0_4.length c0_4) := (blk_cell BK195.out 4).trans rfl
      have hcz21_5 : w16.cell? ⟨gb195, 5, none⟩ = some (.int .i64 a0_5) := (blk_cell BK195.out 5).trans rfl
      have hcz21_6 : w16.cell? ⟨gb195, 6, none⟩ = some (.int .i64 a0_6) := (blk_cell BK195.out 6).trans rfl
      have hcz21_7 : w16.cell? ⟨gb195, 7, none⟩ = some (.slice A0_7 l0_7.length c0_7) := (blk_cell BK195.out 7).trans rfl
      have hcz21_8 : w16.cell? ⟨gb195, 8, none⟩ = some (.bool a0_8) := (blk_cell BK195.out 8).trans rfl
      have hfz21_0 := blk_frozen BK195.out 0
      have hfz21_1 := blk_frozen BK195.out 1
      have hfz21_2 := blk_frozen BK195.out 2
      have hfz21_3 := blk_frozen BK195.out 3
      have hfz21_4 := blk_frozen BK195.out 4
      have hfz21_5 := blk_frozen BK195.out 5
      have hfz21_6 := blk_frozen BK195.out 6
      have hfz21_7 := blk_frozen BK195.out 7
      have hfz21_8 := blk_frozen BK195.out 8
      go_wp2
      go_meet
      case rel => exact ⟨_, ((a0_5 != 5)), (by first | rfl | (simp; done) | (simp [*]; done)), H', ⟨by first | omega | exact Nat.le_refl _⟩, ⟨by (with_reducible repeat (first | apply Kd.S_alloc | apply Kd.S_drewN | apply Kd.S_drew)); exact HO201.out⟩, ⟨by (with_reducible repeat (first | refine blk_drewN ?_ _ | refine blk_drew ?_ | refine blk_alloc ?_ _)); exact BK195.out⟩, ⟨by repeat (first | (with_reducible first | exact HB.out | apply below_alloc | apply pw_below_drewN | apply below_drew1 | refine below_set ?_ GE195.out) | exact HB.out)⟩⟩
   case rest =>
    clear HC8
    try clear c1
    try clear p2
    try clear c3
    try clear c4
    try clear c7
    try clear c7b0
    try clear c7b1
    try clear c12
    try clear c13
    try clear c14
    try clear c15
    try clear c17
    try clear c17b0
    try clear c17b1
    try clear c19
    try clear c19b0
    try clear c19b1
    try clear hcz10_0
    try clear hcz10_1
    try clear hcz10_2
    try clear hcz10_3
    try clear hcz10_4
    try clear hcz10_5
    try clear hcz10_6
    try clear hcz10_7
    try clear hcz10_8
    try clear hcz15_0
    try clear hcz15_1
    try clear hcz15_2
    try clear hcz15_3
    try clear hcz15_4
    try clear hcz15_5
    try clear hcz15_6
    try clear hcz15_7
    try clear hcz15_8
    try clear hcz18_0
    try clear hcz18_1
    try clear hcz18_2
    try clear hcz18_3
    try clear hcz18_4
    try clear hcz18_5
    try clear hcz18_6
    try clear hcz18_7
    try clear hcz18_8
    try clear hcz20_0
    try clear hcz20_1
    try clear hcz20_2
    try clear hcz20_3
    try clear hcz20_4
    try clear hcz20_5
    try clear hcz20_6
    try clear hcz20_7
    try clear hcz20_8
    try clear hcz21_0
    try clear hcz21_1
    try clear hcz21_2
    try clear hcz21_3
    try clear hcz21_4
    try clear hcz21_5
    try clear hcz21_6
    try clear hcz21_7
    try clear hcz21_8
    try clear hfz10_0
    try clear hfz10_1
    try clear hfz10_2
    try clear hfz10_3
    try clear hfz10_4
    try clear hfz10_5
    try clear hfz10_6
    try clear hfz10_7
    try clear hfz10_8
    try clear hfz15_0
    try clear hfz15_1
    try clear hfz15_2
    try clear hfz15_3
    try clear hfz15_4
    try clear hfz15_5
    try clear hfz15_6
    try clear hfz15_7
    try clear hfz15_8
    try clear hfz18_0
    try clear hfz18_1
    try clear hfz18_2
    try clear hfz18_3
    try clear hfz18_4
    try clear hfz18_5
    try clear hfz18_6
    try clear hfz18_7
    try clear hfz18_8
    try clear hfz20_0
    try clear hfz20_1
    try clear hfz20_2
    try clear hfz20_3
    try clear hfz20_4
    try clear hfz20_5
    try clear hfz20_6
    try clear hfz20_7
    try clear hfz20_8
    try clear hfz21_0
    try clear hfz21_1
    try clear hfz21_2
    try clear hfz21_3
    try clear hfz21_4
    try clear hfz21_5
    try clear hfz21_6
    try clear hfz21_7
    try clear hfz21_8
    obtain ⟨kq, x4_7, rfl, HA, HJ7, HO_3, BK195, HB⟩ := hcut
    cases kq with
    | zero => exact absurd HA.out (by simp [ententelaw27_DuesNeeded.j0])
    | succ kj7 =>
     have H := HA.out
     clear HA
     simp only [ententelaw27_DuesNeeded.j0] at H
     have HC22 := Aside0.mk H
     clear H
     go_upto_region 8 with (fail)
     go_cut [49] (fun v49 wc => ∃ (kq : Nat) (x49_21 : Bool), v49 = .bool x49_21 ∧ Aside0 (ententelaw27_DuesNeeded.j1 kq t199 0 x49_21 a0_0 a0_1 l0_2 a0_3 l0_4 a0_5 a0_6 l0_7 a0_8 = some r) ∧ Aside0 (kq ≤ kj7) ∧ Aside0 (Kd.S k42 42 wc w.heap.size (fun _ => True) v200 t199) ∧ Aside0 (wc.heap[gb195]? = some (.cells #[.int .i64 a0_0, .int .i64 a0_1, (.slice A0_2 l0_2.length c0_2), .string a0_3, (.slice A0_4 l0_4.length c0_4), .int .i64 a0_5, .int .i64 a0_6, (.slice A0_7 l0_7.length c0_7), .bool a0_8] 50 (0, 0))) ∧ Aside0 (Below w.heap.size w wc))
     case first =>
      have H := HC22.out
      clear HC22
      by_cases c23 : x4_7 = true
      ·subst c23
       have H1 : (ententelaw27_DuesNeeded.j1 kj7 t199 0 (decide ((l0_2.length : Int) > 0)) a0_0 a0_1 l0_2 a0_3 l0_4 a0_5 a0_6 l0_7 a0_8) = some r := by rw [if_pos rfl] at H; exact H
       clear H
       have H := H1
       clear H1
       have H' := Aside0.mk H
       clear H
       have hcz24_0 : wc.cell? ⟨gb195, 0, none⟩ = some (.int .i64 a0_0) := (blk_cell BK195.out 0).trans rfl
       have hcz24_1 : wc.cell? ⟨gb195, 1, none⟩ = some (.int .i64 a0_1) := (blk_cell BK195.out 1).trans rfl
       have hcz24_2 : wc.cell? ⟨gb195, 2, none⟩ = some (.slice A0_2 l0_2.length c0_2) := (blk_cell BK195.out 2).trans rfl
       have hcz24_3 : wc.cell? ⟨gb195, 3, none⟩ = some (.string a0_3) := (blk_cell BK195.out 3).trans rfl
       have hcz24_4 : wc.cell? ⟨gb195, 4, none⟩ = some (.slice A0_4 l0_4.length c0_4) := (blk_cell BK195.out 4).trans rfl
       have hcz24_5 : wc.cell? ⟨gb195, 5, none⟩ = some (.int .i64 a0_5) := (blk_cell BK195.out 5).trans rfl
       have hcz24_6 : wc.cell? ⟨gb195, 6, none⟩ = some (.int .i64 a0_6) := (blk_cell BK195.out 6).trans rfl
       have hcz24_7 : wc.cell? ⟨gb195, 7, none⟩ = some (.slice A0_7 l0_7.length c0_7) := (blk_cell BK195.out 7).trans rfl
       have hcz24_8 : wc.cell? ⟨gb195, 8, none⟩ = some (.bool a0_8) := (blk_cell BK195.out 8).trans rfl
       have hfz24_0 := blk_frozen BK195.out 0
       have hfz24_1 := blk_frozen BK195.out 1
       have hfz24_2 := blk_frozen BK195.out 2
       have hfz24_3 := blk_frozen BK195.out 3
       have hfz24_4 := blk_frozen BK195.out 4
       have hfz24_5 := blk_frozen BK195.out 5
       have hfz24_6 := blk_frozen BK195.out 6
       have hfz24_7 := blk_frozen BK195.out 7
       have hfz24_8 := blk_frozen BK195.out 8
       go_wp2
       go_meet
       case rel => exact ⟨_, (decide ((l0_2.length : Int) > 0)), (by first | rfl | (simp; done) | (simp [*]; done)), H', ⟨by have := HJ7.out; first | omega | exact Nat.le_refl _⟩, ⟨by (with_reducible repeat (first | apply Kd.S_alloc | apply Kd.S_drewN | apply Kd.S_drew)); exact HO_3.out⟩, ⟨by (with_reducible repeat (first | refine blk_drewN ?_ _ | refine blk_drew ?_ | refine blk_alloc ?_ _)); exact BK195.out⟩, ⟨by repeat (first | (with_reducible first | exact HB.out | apply below_alloc | apply pw_below_drewN | apply below_drew1 | refine below_set ?_ GE195.out) | exact HB.out)⟩⟩
      ·replace c23 := Bool.eq_false_iff.mpr c23
       subst c23
       have H1 : (ententelaw27_DuesNeeded.j1 kj7 t199 0 false a0_0 a0_1 l0_2 a0_3 l0_4 a0_5 a0_6 l0_7 a0_8) = some r := by rw [if_neg (show ¬ (false = true) by decide)] at H; exact H
       clear H
       have H := H1
       clear H1
       have H' := Aside0.mk H
       clear H
       go_wp2
       go_meet
       case rel => exact ⟨_, (false), (by first | rfl | (simp; done) | (simp [*]; done)), H', ⟨by have := HJ7.out; first | omega | exact Nat.le_refl _⟩, ⟨by (with_reducible repeat (first | apply Kd.S_alloc | apply Kd.S_drewN | apply Kd.S_drew)); exact HO_3.out⟩, ⟨by (with_reducible repeat (first | refine blk_drewN ?_ _ | refine blk_drew ?_ | refine blk_alloc ?_ _)); exact BK195.out⟩, ⟨by repeat (first | (with_reducible first | exact HB.out | apply below_alloc | apply pw_below_drewN | apply below_drew1 | refine below_set ?_ GE195.out) | exact HB.out)⟩⟩
     case rest =>
      clear HC22
      try clear c1
      try clear c2
      try clear p2
      try clear c3
      try clear c4
      try clear c7
      try clear c7b0
      try clear c7b1
      try clear c12
      try clear c13
      try clear c14
      try clear c15
      try clear c17
      try clear c17b0
      try clear c17b1
      try clear c19
      try clear c19b0
      try clear c19b1
      try clear c23
      try clear hcz10_0
      try clear hcz10_1
      try clear hcz10_2
      try clear hcz10_3
      try clear hcz10_4
      try clear hcz10_5
      try clear hcz10_6
      try clear hcz10_7
      try clear hcz10_8
      try clear hcz15_0
      try clear hcz15_1
      try clear hcz15_2
      try clear hcz15_3
      try clear hcz15_4
      try clear hcz15_5
      try clear hcz15_6
      try clear hcz15_7
      try clear hcz15_8
      try clear hcz18_0
      try clear hcz18_1
      try clear hcz18_2
      try clear hcz18_3
      try clear hcz18_4
      try clear hcz18_5
      try clear hcz18_6
      try clear hcz18_7
      try clear hcz18_8
      try clear hcz20_0
      try clear hcz20_1
      try clear hcz20_2
      try clear hcz20_3
      try clear hcz20_4
      try clear hcz20_5
      try clear hcz20_6
      try clear hcz20_7
      try clear hcz20_8
      try clear hcz21_0
      try clear hcz21_1
      try clear hcz21_2
      try clear hcz21_3
      try clear hcz21_4
      try clear hcz21_5
      try clear hcz21_6
      try clear hcz21_7
      try clear hcz21_8
      try clear hcz24_0
      try clear hcz24_1
      try clear hcz24_2
      try clear hcz24_3
      try clear hcz24_4
      try clear hcz24_5
      try clear hcz24_6
      try clear hcz24_7
      try clear hcz24_8
      try clear hfz10_0
      try clear hfz10_1
      try clear hfz10_2
      try clear hfz10_3
      try clear hfz10_4
      try clear hfz10_5
      try clear hfz10_6
      try clear hfz10_7
      try clear hfz10_8
      try clear hfz15_0
      try clear hfz15_1
      try clear hfz15_2
      try clear hfz15_3
      try clear hfz15_4
      try clear hfz15_5
      try clear hfz15_6
      try clear hfz15_7
      try clear hfz15_8
      try clear hfz18_0
      try clear hfz18_1
      try clear hfz18_2
      try clear hfz18_3
      try clear hfz18_4
      try clear hfz18_5
      try clear hfz18_6
      try clear hfz18_7
      try clear hfz18_8
      try clear hfz20_0
      try clear hfz20_1
      try clear hfz20_2
      try clear hfz20_3
      try clear hfz20_4
      try clear hfz20_5
      try clear hfz20_6
      try clear hfz20_7
      try clear hfz20_8
      try clear hfz21_0
      try clear hfz21_1
      try clear hfz21_2
      try clear hfz21_3
      try clear hfz21_4
      try clear hfz21_5
      try clear hfz21_6
      try clear hfz21_7
      try clear hfz21_8
      try clear hfz24_0
      try clear hfz24_1
      try clear hfz24_2
      try clear hfz24_3
      try clear hfz24_4
      try clear hfz24_5
      try clear hfz24_6
      try clear hfz24_7
      try clear hfz24_8
      try clear p2
      obtain ⟨kq, x49_21, rfl, HA, HJ21, HO_3, BK195, HB⟩ := hcut
      cases kq with
      | zero => exact absurd HA.out (by simp [ententelaw27_DuesNeeded.j1])
      | succ kj21 =>
       have H := HA.out
       clear HA
       simp only [ententelaw27_DuesNeeded.j1] at H
       have HC25 := Aside0.mk H
       clear H
       go_upto_if 49 with (fail)
       go_cut [5] (fun v5 wc => ∃ (kq : Nat) (x5_24 : Int), v5 = .int .i64 x5_24 ∧ Aside0 (ententelaw27_DuesNeeded.j2 kq t199 x5_24 a0_0 a0_1 l0_2 a0_3 l0_4 a0_5 a0_6 l0_7 a0_8 = some r) ∧ Aside0 (kq ≤ kj21) ∧ Aside0 (Kd.S k42 42 wc w.heap.size (fun _ => True) v200 t199) ∧ Aside0 (wc.heap[gb195]? = some (.cells #[.int .i64 a0_0, .int .i64 a0_1, (.slice A0_2 l0_2.length c0_2), .string a0_3, (.slice A0_4 l0_4.length c0_4), .int .i64 a0_5, .int .i64 a0_6, (.slice A0_7 l0_7.length c0_7), .bool a0_8] 50 (0, 0))) ∧ Aside0 (Below w.heap.size w wc))
       case first =>
        have H := HC25.out
        clear HC25
        by_cases c26 : x49_21 = true
        ·subst c26
         have H1 : (ententelaw27_DuesNeeded.j2 kj21 t199 1 a0_0 a0_1 l0_2 a0_3 l0_4 a0_5 a0_6 l0_7 a0_8) = some r := by rw [if_pos rfl] at H; exact H
         clear H
         have H := H1
         clear H1
         have H' := Aside0.mk H
         clear H
         go_wp2
         go_meet
         case rel => exact ⟨_, (1), (by first | rfl | (simp; done) | (simp [*]; done)), H', ⟨by have := HJ7.out; have := HJ21.out; first | omega | exact Nat.le_refl _⟩, ⟨by (with_reducible repeat (first | apply Kd.S_alloc | apply Kd.S_drewN | apply Kd.S_drew)); exact HO_3.out⟩, ⟨by (with_reducible repeat (first | refine blk_drewN ?_ _ | refine blk_drew ?_ | refine blk_alloc ?_ _)); exact BK195.out⟩, ⟨by repeat (first | (with_reducible first | exact HB.out | apply below_alloc | apply pw_below_drewN | apply below_drew1 | refine below_set ?_ GE195.out) | exact HB.out)⟩⟩
        ·replace c26 := Bool.eq_false_iff.mpr c26
         subst c26
         have H1 : (ententelaw27_DuesNeeded.j2 kj21 t199 0 a0_0 a0_1 l0_2 a0_3 l0_4 a0_5 a0_6 l0_7 a0_8) = some r := by rw [if_neg (show ¬ (false = true) by decide)] at H; exact H
         clear H
         have H := H1
         clear H1
         have H' := Aside0.mk H
         clear H
         go_wp2
         go_meet
         case rel => exact ⟨_, (0), (by first | rfl | (simp; done) | (simp [*]; done)), H', ⟨by have := HJ7.out; have := HJ21.out; first | omega | exact Nat.le_refl _⟩, ⟨by (with_reducible repeat (first | apply Kd.S_alloc | apply Kd.S_drewN | apply Kd.S_drew)); exact HO_3.out⟩, ⟨by (with_reducible repeat (first | refine blk_drewN ?_ _ | refine blk_drew ?_ | refine blk_alloc ?_ _)); exact BK195.out⟩, ⟨by repeat (first | (with_reducible first | exact HB.out | apply below_alloc | apply pw_below_drewN | apply below_drew1 | refine below_set ?_ GE195.out) | exact HB.out)⟩⟩
       case rest =>
        clear HC25
        try clear c1
        try clear c2
        try clear p2
        try clear c3
        try clear c4
        try clear c7
        try clear c7b0
        try clear c7b1
        try clear c12
        try clear c13
        try clear c14
        try clear c15
        try clear c17
        try clear c17b0
        try clear c17b1
        try clear c19
        try clear c19b0
        try clear c19b1
        try clear c23
        try clear c26
        try clear hcz10_0
        try clear hcz10_1
        try clear hcz10_2
        try clear hcz10_3
        try clear hcz10_4
        try clear hcz10_5
        try clear hcz10_6
        try clear hcz10_7
        try clear hcz10_8
        try clear hcz15_0
        try clear hcz15_1
        try clear hcz15_2
        try clear hcz15_3
        try clear hcz15_4
        try clear hcz15_5
        try clear hcz15_6
        try clear hcz15_7
        try clear hcz15_8
        try clear hcz18_0
        try clear hcz18_1
        try clear hcz18_2
        try clear hcz18_3
        try clear hcz18_4
        try clear hcz18_5
        try clear hcz18_6
        try clear hcz18_7
        try clear hcz18_8
        try clear hcz20_0
        try clear hcz20_1
        try clear hcz20_2
        try clear hcz20_3
        try clear hcz20_4
        try clear hcz20_5
        try clear hcz20_6
        try clear hcz20_7
        try clear hcz20_8
        try clear hcz21_0
        try clear hcz21_1
        try clear hcz21_2
        try clear hcz21_3
        try clear hcz21_4
        try clear hcz21_5
        try clear hcz21_6
        try clear hcz21_7
        try clear hcz21_8
        try clear hcz24_0
        try clear hcz24_1
        try clear hcz24_2
        try clear hcz24_3
        try clear hcz24_4
        try clear hcz24_5
        try clear hcz24_6
        try clear hcz24_7
        try clear hcz24_8
        try clear hfz10_0
        try clear hfz10_1
        try clear hfz10_2
        try clear hfz10_3
        try clear hfz10_4
        try clear hfz10_5
        try clear hfz10_6
        try clear hfz10_7
        try clear hfz10_8
        try clear hfz15_0
        try clear hfz15_1
        try clear hfz15_2
        try clear hfz15_3
        try clear hfz15_4
        try clear hfz15_5
        try clear hfz15_6
        try clear hfz15_7
        try clear hfz15_8
        try clear hfz18_0
        try clear hfz18_1
        try clear hfz18_2
        try clear hfz18_3
        try clear hfz18_4
        try clear hfz18_5
        try clear hfz18_6
        try clear hfz18_7
        try clear hfz18_8
        try clear hfz20_0
        try clear hfz20_1
        try clear hfz20_2
        try clear hfz20_3
        try clear hfz20_4
        try clear hfz20_5
        try clear hfz20_6
        try clear hfz20_7
        try clear hfz20_8
        try clear hfz21_0
        try clear hfz21_1
        try clear hfz21_2
        try clear hfz21_3
        try clear hfz21_4
        try clear hfz21_5
        try clear hfz21_6
        try clear hfz21_7
        try clear hfz21_8
        try clear hfz24_0
        try clear hfz24_1
        try clear hfz24_2
        try clear hfz24_3
        try clear hfz24_4
        try clear hfz24_5
        try clear hfz24_6
        try clear hfz24_7
        try clear hfz24_8
        try clear p2
        obtain ⟨kq, x5_24, rfl, HA, HJ24, HO_3, BK195, HB⟩ := hcut
        cases kq with
        | zero => exact absurd HA.out (by simp [ententelaw27_DuesNeeded.j2])
        | succ kj24 =>
         have H := HA.out
         clear HA
         simp only [ententelaw27_DuesNeeded.j2] at H
         have HC27 := Aside0.mk H
         clear H
         go_upto_region 10 with (fail)
         go_cut [62] (fun v62 wc => ∃ (kq : Nat) (x62_26 : Bool), v62 = .bool x62_26 ∧ Aside0 (ententelaw27_DuesNeeded.j3 kq t199 x62_26 a0_0 a0_1 l0_2 a0_3 l0_4 a0_5 a0_6 l0_7 a0_8 = some r) ∧ Aside0 (kq ≤ kj24) ∧ Aside0 (Kd.S k42 42 wc w.heap.size (fun _ => True) v200 t199) ∧ Aside0 (wc.heap[gb195]? = some (.cells #[.int .i64 a0_0, .int .i64 a0_1, (.slice A0_2 l0_2.length c0_2), .string a0_3, (.slice A0_4 l0_4.length c0_4), .int .i64 a0_5, .int .i64 a0_6, (.slice A0_7 l0_7.length c0_7), .bool a0_8] 50 (0, 0))) ∧ Aside0 (Below w.heap.size w wc))
         case first =>
          have H := HC27.out
          clear HC27
          replace H := Option.bind_eq_some_iff.mp H
          obtain ⟨t204, A280, H⟩ := H
          replace H : (if t204 = x5_24 then ((saga_Ended.f a0_0 a0_1 l0_2 a0_3 l0_4 a0_5 a0_6 l0_7 a0_8).bind fun t205 => (if t205 = true then ((ententelaw27_count.f kj24 t199 false).bind fun t206 => (ententelaw27_DuesNeeded.j3 kj24 t199 (t206 != 0) a0_0 a0_1 l0_2 a0_3 l0_4 a0_5 a0_6 l0_7 a0_8)) else (ententelaw27_DuesNeeded.j3 kj24 t199 false a0_0 a0_1 l0_2 a0_3 l0_4 a0_5 a0_6 l0_7 a0_8))) else (ententelaw27_DuesNeeded.j3 kj24 t199 true a0_0 a0_1 l0_2 a0_3 l0_4 a0_5 a0_6 l0_7 a0_8)) = some r := H
          have A28 := Aside0.mk A280
          clear A280
          by_cases c29 : t204 = x5_24
          ·rw [if_pos c29] at H
           have c29b0 : (t204 == x5_24) = true := beq_iff_eq.mpr c29
           have c29b1 : (t204 != x5_24) = false := bne_eq_false_iff_eq.mpr c29
           clear c29
           (first | rw [c29b0] | (simp only [i64_w, i32_w]; rw [c29b0]) | skip)
           replace H := Option.bind_eq_some_iff.mp H
           obtain ⟨t205, A300, H⟩ := H
           replace H : (if t205 = true then ((ententelaw27_count.f kj24 t199 false).bind fun t206 => (ententelaw27_DuesNeeded.j3 kj24 t199 (t206 != 0) a0_0 a0_1 l0_2 a0_3 l0_4 a0_5 a0_6 l0_7 a0_8)) else (ententelaw27_DuesNeeded.j3 kj24 t199 false a0_0 a0_1 l0_2 a0_3 l0_4 a0_5 a0_6 l0_7 a0_8)) = some r := H
           have A30 := Aside0.mk A300
           clear A300
           by_cases c31 : t205 = true
           ·subst c31
            have H1 : ((ententelaw27_count.f kj24 t199 false).bind fun t206 => (ententelaw27_DuesNeeded.j3 kj24 t199 (t206 != 0) a0_0 a0_1 l0_2 a0_3 l0_4 a0_5 a0_6 l0_7 a0_8)) = some r := by rw [if_pos rfl] at H; exact H
            clear H
            have H := H1
            clear H1
            replace H := Option.bind_eq_some_iff.mp H
            obtain ⟨t206, A320, H⟩ := H
            replace H : (ententelaw27_DuesNeeded.j3 kj24 t199 (t206 != 0) a0_0 a0_1 l0_2 a0_3 l0_4 a0_5 a0_6 l0_7 a0_8) = some r := H
            have A32 := Aside0.mk A320
            clear A320
            have H' := Aside0.mk H
            clear H
            obtain ⟨Ao33, co33, eo33⟩ := Kd.S_slice HO_3.out
            subst eo33
            go_wp2_with (first | ((with_reducible refine gate_callee (f := 16) rfl ?_); refine goesL_ (some 51) rfl rfl Tryd.func16 (by kernel_rfl) rfl #[.slice Ao33 t199.length co33, .bool true] rfl (by (try simp only [List.map_toArray, List.map_cons, List.map_nil]); first | done | rfl | (simp only [List.length_drop, List.length_take]; rfl)) ?_; (with_reducible refine (ententelaw27_count.calls kj24 _ _ t199 true t204 _ ?side1 ?side2 A28.out).mono ?_); (case side1 => repeat (first | exact (Kd.S_reads' HO_3.out).2.2 | (with_reducible refine Kd.C_alloc ?_ _) | (with_reducible refine Kd.C_drewN ?_ _) | (with_reducible refine Kd.C_drew ?_))); (case side2 => exact (Kd.S_reads' HO_3.out).2.1); rintro e w' ⟨rfl, ⟨nd, rfl⟩⟩; refine ⟨_, rfl, ?_⟩; have hcz34_0 : wc.cell? ⟨gb195, 0, none⟩ = some (.int .i64 a0_0) := (blk_cell BK195.out 0).trans rfl; have hcz34_1 : wc.cell? ⟨gb195, 1, none⟩ = some (.int .i64 a0_1) := (blk_cell BK195.out 1).trans rfl; have hcz34_2 : wc.cell? ⟨gb195, 2, none⟩ = some (.slice A0_2 l0_2.length c0_2) := (blk_cell BK195.out 2).trans rfl; have hcz34_3 : wc.cell? ⟨gb195, 3, none⟩ = some (.string a0_3) := (blk_cell BK195.out 3).trans rfl; have hcz34_4 : wc.cell? ⟨gb195, 4, none⟩ = some (.slice A0_4 l0_4.length c0_4) := (blk_cell BK195.out 4).trans rfl; have hcz34_5 : wc.cell? ⟨gb195, 5, none⟩ = some (.int .i64 a0_5) := (blk_cell BK195.out 5).trans rfl; have hcz34_6 : wc.cell? ⟨gb195, 6, none⟩ = some (.int .i64 a0_6) := (blk_cell BK195.out 6).trans rfl; have hcz34_7 : wc.cell? ⟨gb195, 7, none⟩ = some (.slice A0_7 l0_7.length c0_7) := (blk_cell BK195.out 7).trans rfl; have hcz34_8 : wc.cell? ⟨gb195, 8, none⟩ = some (.bool a0_8) := (blk_cell BK195.out 8).trans rfl; have hfz34_0 := blk_frozen BK195.out 0; have hfz34_1 := blk_frozen BK195.out 1; have hfz34_2 := blk_frozen BK195.out 2; have hfz34_3 := blk_frozen BK195.out 3; have hfz34_4 := blk_frozen BK195.out 4; have hfz34_5 := blk_frozen BK195.out 5; have hfz34_6 := blk_frozen BK195.out 6; have hfz34_7 := blk_frozen BK195.out 7; have hfz34_8 := blk_frozen BK195.out 8) | (go_at_call 17; (with_reducible refine (saga_Ended.calls a0_0 a0_1 _ _ l0_2 a0_3 _ _ l0_4 a0_5 a0_6 _ _ l0_7 a0_8 true _ ?side1 ?side2 ?side3 ?side4 ?side5 ?side6 A30.out).mono ?_); (case side1 => repeat (first | exact (Kd.C_below HR0_2.out (mvL1 HB.out GE195.out)) | (with_reducible refine Kd.C_alloc ?_ _) | (with_reducible refine Kd.C_drewN ?_ _) | (with_reducible refine Kd.C_drew ?_))); (case side2 => exact HC0_2.out); (case side3 => repeat (first | exact (Kd.C_below HR0_4.out (mvL1 HB.out GE195.out)) | (with_reducible refine Kd.C_alloc ?_ _) | (with_reducible refine Kd.C_drewN ?_ _) | (with_reducible refine Kd.C_drew ?_))); (case side4 => exact HC0_4.out); (case side5 => repeat (first | exact (Kd.C_below HR0_7.out (mvL1 HB.out GE195.out)) | (with_reducible refine Kd.C_alloc ?_ _) | (with_reducible refine Kd.C_drewN ?_ _) | (with_reducible refine Kd.C_drew ?_))); (case side6 => exact HC0_7.out); rintro e w35 ⟨rfl, hb⟩; have n0_ := Aside0.mk (Kd.S_below (mvS HO_3.out) hb); have n1_ := Aside0.mk (blk_below (g := gb195) (o := .cells #[.int .i64 a0_0, .int .i64 a0_1, .slice A0_2 l0_2.length c0_2, .string a0_3, .slice A0_4 l0_4.length c0_4, .int .i64 a0_5, .int .i64 a0_6, .slice A0_7 l0_7.length c0_7, .bool a0_8] 50 (0, 0)) (mvB BK195.out) hb); have n2_ := Aside0.mk (below_step (mvL1 HB.out GE195.out) hb); clear HO_3; clear BK195; clear HB; have HO_3 := n0_; have BK195 := n1_; have HB := n2_; clear n0_ n1_ n2_; (try clear hb); (try clear hb2); (try clear hk); (try clear hi)) | (go_at_call 16; (with_reducible refine (ententelaw27_count.calls kj24 _ _ t199 false t206 _ ?side1 ?side2 A32.out).mono ?_); (case side1 => repeat (first | exact (Kd.S_reads' HO_3.out).2.2 | (with_reducible refine Kd.C_alloc ?_ _) | (with_reducible refine Kd.C_drewN ?_ _) | (with_reducible refine Kd.C_drew ?_))); (case side2 => exact (Kd.S_reads' HO_3.out).2.1); rintro e w' ⟨rfl, ⟨nd, rfl⟩⟩))
            go_meet
            case rel => exact ⟨_, ((t206 != 0)), (by first | rfl | (simp; done) | (simp [*]; done)), H', ⟨by have := HJ7.out; have := HJ21.out; have := HJ24.out; first | omega | exact Nat.le_refl _⟩, ⟨by (with_reducible repeat (first | apply Kd.S_alloc | apply Kd.S_drewN | apply Kd.S_drew)); exact HO_3.out⟩, ⟨by (with_reducible repeat (first | refine blk_drewN ?_ _ | refine blk_drew ?_ | refine blk_alloc ?_ _)); exact BK195.out⟩, ⟨by repeat (first | (with_reducible first | exact HB.out | apply below_alloc | apply pw_below_drewN | apply below_drew1 | refine below_set ?_ GE195.out) | exact HB.out)⟩⟩
           ·replace c31 := Bool.eq_false_iff.mpr c31
            subst c31
            have H1 : (ententelaw27_DuesNeeded.j3 kj24 t199 false a0_0 a0_1 l0_2 a0_3 l0_4 a0_5 a0_6 l0_7 a0_8) = some r := by rw [if_neg (show ¬ (false = true) by decide)] at H; exact H
            clear H
            have H := H1
            clear H1
            have H' := Aside0.mk H
            clear H
            obtain ⟨Ao36, co36, eo36⟩ := Kd.S_slice HO_3.out
            subst eo36
            go_wp2_with (first | ((with_reducible refine gate_callee (f := 16) rfl ?_); refine goesL_ (some 51) rfl rfl Tryd.func16 (by kernel_rfl) rfl #[.slice Ao36 t199.length co36, .bool true] rfl (by (try simp only [List.map_toArray, List.map_cons, List.map_nil]); first | done | rfl | (simp only [List.length_drop, List.length_take]; rfl)) ?_; (with_reducible refine (ententelaw27_count.calls kj24 _ _ t199 true t204 _ ?side1 ?side2 A28.out).mono ?_); (case side1 => repeat (first | exact (Kd.S_reads' HO_3.out).2.2 | (with_reducible refine Kd.C_alloc ?_ _) | (with_reducible refine Kd.C_drewN ?_ _) | (with_reducible refine Kd.C_drew ?_))); (case side2 => exact (Kd.S_reads' HO_3.out).2.1); rintro e w' ⟨rfl, ⟨nd, rfl⟩⟩; refine ⟨_, rfl, ?_⟩; have hcz37_0 : wc.cell? ⟨gb195, 0, none⟩ = some (.int .i64 a0_0) := (blk_cell BK195.out 0).trans rfl; have hcz37_1 : wc.cell? ⟨gb195, 1, none⟩ = some (.int .i64 a0_1) := (blk_cell BK195.out 1).trans rfl; have hcz37_2 : wc.cell? ⟨gb195, 2, none⟩ = some (.slice A0_2 l0_2.length c0_2) := (blk_cell BK195.out 2).trans rfl; have hcz37_3 : wc.cell? ⟨gb195, 3, none⟩ = some (.string a0_3) := (blk_cell BK195.out 3).trans rfl; have hcz37_4 : wc.cell? ⟨gb195, 4, none⟩ = some (.slice A0_4 l0_4.length c0_4) := (blk_cell BK195.out 4).trans rfl; have hcz37_5 : wc.cell? ⟨gb195, 5, none⟩ = some (.int .i64 a0_5) := (blk_cell BK195.out 5).trans rfl; have hcz37_6 : wc.cell? ⟨gb195, 6, none⟩ = some (.int .i64 a0_6) := (blk_cell BK195.out 6).trans rfl; have hcz37_7 : wc.cell? ⟨gb195, 7, none⟩ = some (.slice A0_7 l0_7.length c0_7) := (blk_cell BK195.out 7).trans rfl; have hcz37_8 : wc.cell? ⟨gb195, 8, none⟩ = some (.bool a0_8) := (blk_cell BK195.out 8).trans rfl; have hfz37_0 := blk_frozen BK195.out 0; have hfz37_1 := blk_frozen BK195.out 1; have hfz37_2 := blk_frozen BK195.out 2; have hfz37_3 := blk_frozen BK195.out 3; have hfz37_4 := blk_frozen BK195.out 4; have hfz37_5 := blk_frozen BK195.out 5; have hfz37_6 := blk_frozen BK195.out 6; have hfz37_7 := blk_frozen BK195.out 7; have hfz37_8 := blk_frozen BK195.out 8) | (go_at_call 17; (with_reducible refine (saga_Ended.calls a0_0 a0_1 _ _ l0_2 a0_3 _ _ l0_4 a0_5 a0_6 _ _ l0_7 a0_8 false _ ?side1 ?side2 ?side3 ?side4 ?side5 ?side6 A30.out).mono ?_); (case side1 => repeat (first | exact (Kd.C_below HR0_2.out (mvL1 HB.out GE195.out)) | (with_reducible refine Kd.C_alloc ?_ _) | (with_reducible refine Kd.C_drewN ?_ _) | (with_reducible refine Kd.C_drew ?_))); (case side2 => exact HC0_2.out); (case side3 => repeat (first | exact (Kd.C_below HR0_4.out (mvL1 HB.out GE195.out)) | (with_reducible refine Kd.C_alloc ?_ _) | (with_reducible refine Kd.C_drewN ?_ _) | (with_reducible refine Kd.C_drew ?_))); (case side4 => exact HC0_4.out); (case side5 => repeat (first | exact (Kd.C_below HR0_7.out (mvL1 HB.out GE195.out)) | (with_reducible refine Kd.C_alloc ?_ _) | (with_reducible refine Kd.C_drewN ?_ _) | (with_reducible refine Kd.C_drew ?_))); (case side6 => exact HC0_7.out); rintro e w38 ⟨rfl, hb⟩; have n0_ := Aside0.mk (Kd.S_below (mvS HO_3.out) hb); have n1_ := Aside0.mk (blk_below (g := gb195) (o := .cells #[.int .i64 a0_0, .int .i64 a0_1, .slice A0_2 l0_2.length c0_2, .string a0_3, .slice A0_4 l0_4.length c0_4, .int .i64 a0_5, .int .i64 a0_6, .slice A0_7 l0_7.length c0_7, .bool a0_8] 50 (0, 0)) (mvB BK195.out) hb); have n2_ := Aside0.mk (below_step (mvL1 HB.out GE195.out) hb); clear HO_3; clear BK195; clear HB; have HO_3 := n0_; have BK195 := n1_; have HB := n2_; clear n0_ n1_ n2_; (try clear hb); (try clear hb2); (try clear hk); (try clear hi)))
            go_meet
            case rel => exact ⟨_, (false), (by first | rfl | (simp; done) | (simp [*]; done)), H', ⟨by have := HJ7.out; have := HJ21.out; have := HJ24.out; first | omega | exact Nat.le_refl _⟩, ⟨by (with_reducible repeat (first | apply Kd.S_alloc | apply Kd.S_drewN | apply Kd.S_drew)); exact HO_3.out⟩, ⟨by (with_reducible repeat (first | refine blk_drewN ?_ _ | refine blk_drew ?_ | refine blk_alloc ?_ _)); exact BK195.out⟩, ⟨by repeat (first | (with_reducible first | exact HB.out | apply below_alloc | apply pw_below_drewN | apply below_drew1 | refine below_set ?_ GE195.out) | exact HB.out)⟩⟩
          ·rw [if_neg c29] at H
           have c29b0 : (t204 == x5_24) = false := beq_eq_false_iff_ne.mpr c29
           have c29b1 : (t204 != x5_24) = true := bne_iff_ne.mpr c29
           (first | rw [c29b0] | (simp only [i64_w, i32_w]; rw [c29b0]) | skip)
           have H' := Aside0.mk H
           clear H
           obtain ⟨Ao39, co39, eo39⟩ := Kd.S_slice HO_3.out
           subst eo39
           go_wp2_with (first | ((with_reducible refine gate_callee (f := 16) rfl ?_); refine goesL_ (some 51) rfl rfl Tryd.func16 (by kernel_rfl) rfl #[.slice Ao39 t199.length co39, .bool true] rfl (by (try simp only [List.map_toArray, List.map_cons, List.map_nil]); first | done | rfl | (simp only [List.length_drop, List.length_take]; rfl)) ?_; (with_reducible refine (ententelaw27_count.calls kj24 _ _ t199 true t204 _ ?side1 ?side2 A28.out).mono ?_); (case side1 => repeat (first | exact (Kd.S_reads' HO_3.out).2.2 | (with_reducible refine Kd.C_alloc ?_ _) | (with_reducible refine Kd.C_drewN ?_ _) | (with_reducible refine Kd.C_drew ?_))); (case side2 => exact (Kd.S_reads' HO_3.out).2.1); rintro e w' ⟨rfl, ⟨nd, rfl⟩⟩; refine ⟨_, rfl, ?_⟩))
           go_meet
           case rel => exact ⟨_, (true), (by first | rfl | (simp; done) | (simp [*]; done)), H', ⟨by have := HJ7.out; have := HJ21.out; have := HJ24.out; first | omega | exact Nat.le_refl _⟩, ⟨by (with_reducible repeat (first | apply Kd.S_alloc | apply Kd.S_drewN | apply Kd.S_drew)); exact HO_3.out⟩, ⟨by (with_reducible repeat (first | refine blk_drewN ?_ _ | refine blk_drew ?_ | refine blk_alloc ?_ _)); exact BK195.out⟩, ⟨by repeat (first | (with_reducible first | exact HB.out | apply below_alloc | apply pw_below_drewN | apply below_drew1 | refine below_set ?_ GE195.out) | exact HB.out)⟩⟩
         case rest =>
          clear HC27
          try clear c1
          try clear c2
          try clear p2
          try clear c3
          try clear c4
          try clear c7
          try clear c7b0
          try clear c7b1
          try clear c12
          try clear c13
          try clear c14
          try clear c15
          try clear c16
          try clear c17
          try clear c17b0
          try clear c17b1
          try clear c19
          try clear c19b0
          try clear c19b1
          try clear c23
          try clear c26
          try clear c29
          try clear c29b0
          try clear c29b1
          try clear c31
          try clear hcz10_0
          try clear hcz10_1
          try clear hcz10_2
          try clear hcz10_3
          try clear hcz10_4
          try clear hcz10_5
          try clear hcz10_6
          try clear hcz10_7
          try clear hcz10_8
          try clear hcz15_0
          try clear hcz15_1
          try clear hcz15_2
          try clear hcz15_3
          try clear hcz15_4
          try clear hcz15_5
          try clear hcz15_6
          try clear hcz15_7
          try clear hcz15_8
          try clear hcz18_0
          try clear hcz18_1
          try clear hcz18_2
          try clear hcz18_3
          try clear hcz18_4
          try clear hcz18_5
          try clear hcz18_6
          try clear hcz18_7
          try clear hcz18_8
          try clear hcz20_0
          try clear hcz20_1
          try clear hcz20_2
          try clear hcz20_3
          try clear hcz20_4
          try clear hcz20_5
          try clear hcz20_6
          try clear hcz20_7
          try clear hcz20_8
          try clear hcz21_0
          try clear hcz21_1
          try clear hcz21_2
          try clear hcz21_3
          try clear hcz21_4
          try clear hcz21_5
          try clear hcz21_6
          try clear hcz21_7
          try clear hcz21_8
          try clear hcz24_0
          try clear hcz24_1
          try clear hcz24_2
          try clear hcz24_3
          try clear hcz24_4
          try clear hcz24_5
          try clear hcz24_6
          try clear hcz24_7
          try clear hcz24_8
          try clear hcz34_0
          try clear hcz34_1
          try clear hcz34_2
          try clear hcz34_3
          try clear hcz34_4
          try clear hcz34_5
          try clear hcz34_6
          try clear hcz34_7
          try clear hcz34_8
          try clear hcz37_0
          try clear hcz37_1
          try clear hcz37_2
          try clear hcz37_3
          try clear hcz37_4
          try clear hcz37_5
          try clear hcz37_6
          try clear hcz37_7
          try clear hcz37_8
          try clear hfz10_0
          try clear hfz10_1
          try clear hfz10_2
          try clear hfz10_3
          try clear hfz10_4
          try clear hfz10_5
          try clear hfz10_6
          try clear hfz10_7
          try clear hfz10_8
          try clear hfz15_0
          try clear hfz15_1
          try clear hfz15_2
          try clear hfz15_3
          try clear hfz15_4
          try clear hfz15_5
          try clear hfz15_6
          try clear hfz15_7
          try clear hfz15_8
          try clear hfz18_0
          try clear hfz18_1
          try clear hfz18_2
          try clear hfz18_3
          try clear hfz18_4
          try clear hfz18_5
          try clear hfz18_6
          try clear hfz18_7
          try clear hfz18_8
          try clear hfz20_0
          try clear hfz20_1
          try clear hfz20_2
          try clear hfz20_3
          try clear hfz20_4
          try clear hfz20_5
          try clear hfz20_6
          try clear hfz20_7
          try clear hfz20_8
          try clear hfz21_0
          try clear hfz21_1
          try clear hfz21_2
          try clear hfz21_3
          try clear hfz21_4
          try clear hfz21_5
          try clear hfz21_6
          try clear hfz21_7
          try clear hfz21_8
          try clear hfz24_0
          try clear hfz24_1
          try clear hfz24_2
          try clear hfz24_3
          try clear hfz24_4
          try clear hfz24_5
          try clear hfz24_6
          try clear hfz24_7
          try clear hfz24_8
          try clear hfz34_0
          try clear hfz34_1
          try clear hfz34_2
          try clear hfz34_3
          try clear hfz34_4
          try clear hfz34_5
          try clear hfz34_6
          try clear hfz34_7
          try clear hfz34_8
          try clear hfz37_0
          try clear hfz37_1
          try clear hfz37_2
          try clear hfz37_3
          try clear hfz37_4
          try clear hfz37_5
          try clear hfz37_6
          try clear hfz37_7
          try clear hfz37_8
          try clear p2
          obtain ⟨kq, x62_26, rfl, HA, HJ26, HO_3, BK195, HB⟩ := hcut
          cases kq with
          | zero => exact absurd HA.out (by simp [ententelaw27_DuesNeeded.j3])
          | succ kj26 =>
           have H := HA.out
           clear HA
           simp only [ententelaw27_DuesNeeded.j3] at H
           by_cases c40 : x62_26 = true
           ·subst c40
            have H1 : (some false) = some r := by rw [if_pos rfl] at H; exact H
            clear H
            have H := H1
            clear H1
            obtain rfl := Option.some.inj H
            go_wp2
            go_ret
            exact ⟨by first | rfl | (simp [errW_none, errW_some] <;> rfl) | (simp [*, errW_none, errW_some] <;> rfl) | (simp only [h_bne_nil, h_beq_nil] <;> rfl), by repeat (first | (with_reducible first | exact HB.out | apply below_alloc | apply pw_below_drewN | apply below_drew1 | refine below_set ?_ GE195.out) | exact HB.out)⟩
           ·replace c40 := Bool.eq_false_iff.mpr c40
            subst c40
            have H1 : ((saga_Current.f a0_0 a0_1 l0_2 a0_3 l0_4 a0_5 a0_6 l0_7 a0_8).bind fun t207 => (if t207 ≥ 0 then (if 0 ≤ t207 then (if t207 < (l0_4.length : Int) then (if ((rd_T60 l0_4 t207).f2).toList = ([] : List UInt8) then (ententelaw27_DuesNeeded.j4 kj26 t199 t207 false a0_0 a0_1 l0_2 a0_3 l0_4 a0_5 a0_6 l0_7 a0_8) else (if t207 < (l0_7.length : Int) then (if ((rd_T62 l0_7 t207).f0) = 1 then (ententelaw27_DuesNeeded.j4 kj26 t199 t207 true a0_0 a0_1 l0_2 a0_3 l0_4 a0_5 a0_6 l0_7 a0_8) else (if a0_5 = 4 then (ententelaw27_DuesNeeded.j4 kj26 t199 t207 (((rd_T62 l0_7 t207).f0) == 2) a0_0 a0_1 l0_2 a0_3 l0_4 a0_5 a0_6 l0_7 a0_8) else (ententelaw27_DuesNeeded.j4 kj26 t199 t207 false a0_0 a0_1 l0_2 a0_3 l0_4 a0_5 a0_6 l0_7 a0_8))) else (none))) else (none)) else (none)) else (ententelaw27_DuesNeeded.j4 kj26 t199 t207 false a0_0 a0_1 l0_2 a0_3 l0_4 a0_5 a0_6 l0_7 a0_8))) = some r := by rw [if_neg (show ¬ (false = true) by decide)] at H; exact H
            clear H
            have H := H1
            clear H1
            replace H := Option.bind_eq_some_iff.mp H
            obtain ⟨t207, A410, H⟩ := H
            replace H : (if t207 ≥ 0 then (if 0 ≤ t207 then (if t207 < (l0_4.length : Int) then (if ((rd_T60 l0_4 t207).f2).toList = ([] : List UInt8) then (ententelaw27_DuesNeeded.j4 kj26 t199 t207 false a0_0 a0_1 l0_2 a0_3 l0_4 a0_5 a0_6 l0_7 a0_8) else (if t207 < (l0_7.length : Int) then (if ((rd_T62 l0_7 t207).f0) = 1 then (ententelaw27_DuesNeeded.j4 kj26 t199 t207 true a0_0 a0_1 l0_2 a0_3 l0_4 a0_5 a0_6 l0_7 a0_8) else (if a0_5 = 4 then (ententelaw27_DuesNeeded.j4 kj26 t199 t207 (((rd_T62 l0_7 t207).f0) == 2) a0_0 a0_1 l0_2 a0_3 l0_4 a0_5 a0_6 l0_7 a0_8) else (ententelaw27_DuesNeeded.j4 kj26 t199 t207 false a0_0 a0_1 l0_2 a0_3 l0_4 a0_5 a0_6 l0_7 a0_8))) else (none))) else (none)) else (none)) else (ententelaw27_DuesNeeded.j4 kj26 t199 t207 false a0_0 a0_1 l0_2 a0_3 l0_4 a0_5 a0_6 l0_7 a0_8)) = some r := H
            have A41 := Aside0.mk A410
            clear A410
            have HC42 := Aside0.mk H
            clear H
            have hcz43_0 : wc.cell? ⟨gb195, 0, none⟩ = some (.int .i64 a0_0) := (blk_cell BK195.out 0).trans rfl
            have hcz43_1 : wc.cell? ⟨gb195, 1, none⟩ = some (.int .i64 a0_1) := (blk_cell BK195.out 1).trans rfl
            have hcz43_2 : wc.cell? ⟨gb195, 2, none⟩ = some (.slice A0_2 l0_2.length c0_2) := (blk_cell BK195.out 2).trans rfl
            have hcz43_3 : wc.cell? ⟨gb195, 3, none⟩ = some (.string a0_3) := (blk_cell BK195.out 3).trans rfl
            have hcz43_4 : wc.cell? ⟨gb195, 4, none⟩ = some (.slice A0_4 l0_4.length c0_4) := (blk_cell BK195.out 4).trans rfl
            have hcz43_5 : wc.cell? ⟨gb195, 5, none⟩ = some (.int .i64 a0_5) := (blk_cell BK195.out 5).trans rfl
            have hcz43_6 : wc.cell? ⟨gb195, 6, none⟩ = some (.int .i64 a0_6) := (blk_cell BK195.out 6).trans rfl
            have hcz43_7 : wc.cell? ⟨gb195, 7, none⟩ = some (.slice A0_7 l0_7.length c0_7) := (blk_cell BK195.out 7).trans rfl
            have hcz43_8 : wc.cell? ⟨gb195, 8, none⟩ = some (.bool a0_8) := (blk_cell BK195.out 8).trans rfl
            have hfz43_0 := blk_frozen BK195.out 0
            have hfz43_1 := blk_frozen BK195.out 1
            have hfz43_2 := blk_frozen BK195.out 2
            have hfz43_3 := blk_frozen BK195.out 3
            have hfz43_4 := blk_frozen BK195.out 4
            have hfz43_5 := blk_frozen BK195.out 5
            have hfz43_6 := blk_frozen BK195.out 6
            have hfz43_7 := blk_frozen BK195.out 7
            have hfz43_8 := blk_frozen BK195.out 8
            go_upto_region 13 with (first | ((with_reducible refine gate_callee (f := 18) rfl ?_); refine goesL_ (some 64) rfl rfl Tryd.func18 (by kernel_rfl) rfl #[.agg #[.int .i64 a0_0, .int .i64 a0_1, .slice A0_2 l0_2.length c0_2, .string a0_3, .slice A0_4 l0_4.length c0_4, .int .i64 a0_5, .int .i64 a0_6, .slice A0_7 l0_7.length c0_7, .bool a0_8]] rfl (by (try simp only [List.map_toArray, List.map_cons, List.map_nil]); first | done | rfl | (simp only [List.length_drop, List.length_take]; rfl)) ?_; (with_reducible refine (saga_Current.calls a0_0 a0_1 _ _ l0_2 a0_3 _ _ l0_4 a0_5 a0_6 _ _ l0_7 a0_8 t207 _ ?side1 ?side2 ?side3 ?side4 ?side5 ?side6 A41.out).mono ?_); (case side1 => repeat (first | exact (Kd.C_below HR0_2.out HB.out) | (with_reducible refine Kd.C_alloc ?_ _) | (with_reducible refine Kd.C_drewN ?_ _) | (with_reducible refine Kd.C_drew ?_))); (case side2 => exact HC0_2.out); (case side3 => repeat (first | exact (Kd.C_below HR0_4.out HB.out) | (with_reducible refine Kd.C_alloc ?_ _) | (with_reducible refine Kd.C_drewN ?_ _) | (with_reducible refine Kd.C_drew ?_))); (case side4 => exact HC0_4.out); (case side5 => repeat (first | exact (Kd.C_below HR0_7.out HB.out) | (with_reducible refine Kd.C_alloc ?_ _) | (with_reducible refine Kd.C_drewN ?_ _) | (with_reducible refine Kd.C_drew ?_))); (case side6 => exact HC0_7.out); rintro e w44 ⟨rfl, hb⟩; refine ⟨_, rfl, ?_⟩; have n0_ := Aside0.mk (Kd.S_below (mvS HO_3.out) hb); have n1_ := Aside0.mk (blk_below (g := gb195) (o := .cells #[.int .i64 a0_0, .int .i64 a0_1, .slice A0_2 l0_2.length c0_2, .string a0_3, .slice A0_4 l0_4.length c0_4, .int .i64 a0_5, .int .i64 a0_6, .slice A0_7 l0_7.length c0_7, .bool a0_8] 50 (0, 0)) (mvB BK195.out) hb); have n2_ := Aside0.mk (below_step (mvL1 HB.out GE195.out) hb); clear HO_3; clear BK195; clear HB; have HO_3 := n0_; have BK195 := n1_; have HB := n2_; clear n0_ n1_ n2_; (try clear hb); (try clear hb2); (try clear hk); (try clear hi)))
            (try simp only [Act.put, List.setIfInBounds_toArray, List.set_cons_zero, List.set_cons_succ])
            go_cut [7] (fun v7 wc => ∃ (kq : Nat) (x7_41 : Bool), v7 = .bool x7_41 ∧ Aside0 (ententelaw27_DuesNeeded.j4 kq t199 t207 x7_41 a0_0 a0_1 l0_2 a0_3 l0_4 a0_5 a0_6 l0_7 a0_8 = some r) ∧ Aside0 (kq ≤ kj26) ∧ Aside0 (Kd.S k42 42 wc w.heap.size (fun _ => True) v200 t199) ∧ Aside0 (wc.heap[gb195]? = some (.cells #[.int .i64 a0_0, .int .i64 a0_1, (.slice A0_2 l0_2.length c0_2), .string a0_3, (.slice A0_4 l0_4.length c0_4), .int .i64 a0_5, .int .i64 a0_6, (.slice A0_7 l0_7.length c0_7), .bool a0_8] 50 (0, 0))) ∧ Aside0 (Below w.heap.size w wc))
            case first =>
             have H := HC42.out
             clear HC42
             by_cases c45 : t207 ≥ 0
             ·rw [if_pos c45] at H
              have c45b0 : decide (0 ≤ t207) = true := decide_eq_true c45
              clear c45
              (first | rw [c45b0] | (simp only [i64_w, i32_w]; rw [c45b0]) | skip)
              by_cases c46 : 0 ≤ t207
              ·rw [if_pos c46] at H
               have c46b0 : decide (0 ≤ t207) = true := decide_eq_true c46
               clear c46
               by_cases c47 : t207 < (l0_4.length : Int)
               ·rw [if_pos c47] at H
                have c47b0 : decide (t207 < (l0_4.length : Int)) = true := decide_eq_true c47
                clear c47
                by_cases c48 : ((rd_T60 l0_4 t207).f2).toList = ([] : List UInt8)
                ·rw [if_pos c48] at H
                 have c48b0 : (((rd_T60 l0_4 t207).f2).toList == ([] : List UInt8)) = true := beq_iff_eq.mpr c48
                 have c48b1 : (((rd_T60 l0_4 t207).f2).toList != ([] : List UInt8)) = false := bne_eq_false_iff_eq.mpr c48
                 clear c48
                 have H' := Aside0.mk H
                 clear H
                 have hcz49_0 : w44.cell? ⟨gb195, 0, none⟩ = some (.int .i64 a0_0) := (blk_cell BK195.out 0).trans rfl
                 have hcz49_1 : w44.cell? ⟨gb195, 1, none⟩ = some (.int .i64 a0_1) := (blk_cell BK195.out 1).trans rfl
                 have hcz49_2 : w44.cell? ⟨gb195, 2, none⟩ = some (.slice A0_2 l0_2.length c0_2) := (blk_cell BK195.out 2).trans rfl
                 have hcz49_3 : w44.cell? ⟨gb195, 3, none⟩ = some (.string a0_3) := (blk_cell BK195.out 3).trans rfl
                 have hcz49_4 : w44.cell? ⟨gb195, 4, none⟩ = some (.slice A0_4 l0_4.length c0_4) := (blk_cell BK195.out 4).trans rfl
                 have hcz49_5 : w44.cell? ⟨gb195, 5, none⟩ = some (.int .i64 a0_5) := (blk_cell BK195.out 5).trans rfl
                 have hcz49_6 : w44.cell? ⟨gb195, 6, none⟩ = some (.int .i64 a0_6) := (blk_cell BK195.out 6).trans rfl
                 have hcz49_7 : w44.cell? ⟨gb195, 7, none⟩ = some (.slice A0_7 l0_7.length c0_7) := (blk_cell BK195.out 7).trans rfl
                 have hcz49_8 : w44.cell? ⟨gb195, 8, none⟩ = some (.bool a0_8) := (blk_cell BK195.out 8).trans rfl
                 have hfz49_0 := blk_frozen BK195.out 0
                 have hfz49_1 := blk_frozen BK195.out 1
                 have hfz49_2 := blk_frozen BK195.out 2
                 have hfz49_3 := blk_frozen BK195.out 3
                 have hfz49_4 := blk_frozen BK195.out 4
                 have hfz49_5 := blk_frozen BK195.out 5
                 have hfz49_6 := blk_frozen BK195.out 6
                 have hfz49_7 := blk_frozen BK195.out 7
                 have hfz49_8 := blk_frozen BK195.out 8
                 have p208 : 0 ≤ (t207 : Int) := of_decide_eq_true (by first | (with_reducible assumption) | assumption)
                 have q208 : t207 < (l0_4.length : Int) := of_decide_eq_true (by first | (with_reducible assumption) | assumption)
                 obtain ⟨ad208, e208, hx208_0, hx208_1, hx208_2, hx208_3, hx208_4, hx208_5, hx208_6⟩ := at_T60 HR0_4.out t207 p208 q208
                 cases e208
                 replace hx208_0 := (HB.out.cell (World.block_lt_of_cell? w _ hx208_0)).trans hx208_0
                 replace hx208_1 := (HB.out.cell (World.block_lt_of_cell? w _ hx208_1)).trans hx208_1
                 replace hx208_2 := (HB.out.cell (World.block_lt_of_cell? w _ hx208_2)).trans hx208_2
                 replace hx208_3 := (HB.out.cell (World.block_lt_of_cell? w _ hx208_3)).trans hx208_3
                 replace hx208_4 := (HB.out.cell (World.block_lt_of_cell? w _ hx208_4)).trans hx208_4
                 replace hx208_5 := (HB.out.cell (World.block_lt_of_cell? w _ hx208_5)).trans hx208_5
                 replace hx208_6 := (HB.out.cell (World.block_lt_of_cell? w _ hx208_6)).trans hx208_6
                 replace p208 := eq_true p208
                 replace q208 := eq_true q208
                 go_wp2
                 go_meet
                 case rel => exact ⟨_, (false), (by first | rfl | (simp; done) | (simp [*]; done)), H', ⟨by have := HJ7.out; have := HJ21.out; have := HJ24.out; have := HJ26.out; first | omega | exact Nat.le_refl _⟩, ⟨by (with_reducible repeat (first | apply Kd.S_alloc | apply Kd.S_drewN | apply Kd.S_drew)); exact HO_3.out⟩, ⟨by (with_reducible repeat (first | refine blk_drewN ?_ _ | refine blk_drew ?_ | refine blk_alloc ?_ _)); exact BK195.out⟩, ⟨by repeat (first | (with_reducible first | exact HB.out | apply below_alloc | apply pw_below_drewN | apply below_drew1 | refine below_set ?_ GE195.out) | exact HB.out)⟩⟩
                ·rw [if_neg c48] at H
                 have c48b0 : (((rd_T60 l0_4 t207).f2).toList == ([] : List UInt8)) = false := beq_eq_false_iff_ne.mpr c48
                 have c48b1 : (((rd_T60 l0_4 t207).f2).toList != ([] : List UInt8)) = true := bne_iff_ne.mpr c48
                 by_cases c50 : t207 < (l0_7.length : Int)
                 ·rw [if_pos c50] at H
                  have c50b0 : decide (t207 < (l0_7.length : Int)) = true := decide_eq_true c50
                  clear c50
                  by_cases c51 : ((rd_T62 l0_7 t207).f0) = 1
                  ·rw [if_pos c51] at H
                   have c51b0 : (((rd_T62 l0_7 t207).f0) == 1) = true := beq_iff_eq.mpr c51
                   have c51b1 : (((rd_T62 l0_7 t207).f0) != 1) = false := bne_eq_false_iff_eq.mpr c51
                   clear c51
                   have H' := Aside0.mk H
                   clear H
                   have hcz52_0 : w44.cell? ⟨gb195, 0, none⟩ = some (.int .i64 a0_0) := (blk_cell BK195.out 0).trans rfl
                   have hcz52_1 : w44.cell? ⟨gb195, 1, none⟩ = some (.int .i64 a0_1) := (blk_cell BK195.out 1).trans rfl
                   have hcz52_2 : w44.cell? ⟨gb195, 2, none⟩ = some (.slice A0_2 l0_2.length c0_2) := (blk_cell BK195.out 2).trans rfl
                   have hcz52_3 : w44.cell? ⟨gb195, 3, none⟩ = some (.string a0_3) := (blk_cell BK195.out 3).trans rfl
                   have hcz52_4 : w44.cell? ⟨gb195, 4, none⟩ = some (.slice A0_4 l0_4.length c0_4) := (blk_cell BK195.out 4).trans rfl
                   have hcz52_5 : w44.cell? ⟨gb195, 5, none⟩ = some (.int .i64 a0_5) := (blk_cell BK195.out 5).trans rfl
                   have hcz52_6 : w44.cell? ⟨gb195, 6, none⟩ = some (.int .i64 a0_6) := (blk_cell BK195.out 6).trans rfl
                   have hcz52_7 : w44.cell? ⟨gb195, 7, none⟩ = some (.slice A0_7 l0_7.length c0_7) := (blk_cell BK195.out 7).trans rfl
                   have hcz52_8 : w44.cell? ⟨gb195, 8, none⟩ = some (.bool a0_8) := (blk_cell BK195.out 8).trans rfl
                   have hfz52_0 := blk_frozen BK195.out 0
                   have hfz52_1 := blk_frozen BK195.out 1
                   have hfz52_2 := blk_frozen BK195.out 2
                   have hfz52_3 := blk_frozen BK195.out 3
                   have hfz52_4 := blk_frozen BK195.out 4
                   have hfz52_5 := blk_frozen BK195.out 5
                   have hfz52_6 := blk_frozen BK195.out 6
                   have hfz52_7 := blk_frozen BK195.out 7
                   have hfz52_8 := blk_frozen BK195.out 8
                   have p208 : 0 ≤ (t207 : Int) := of_decide_eq_true (by first | (with_reducible assumption) | assumption)
                   have q208 : t207 < (l0_4.length : Int) := of_decide_eq_true (by first | (with_reducible assumption) | assumption)
                   obtain ⟨ad208, e208, hx208_0, hx208_1, hx208_2, hx208_3, hx208_4, hx208_5, hx208_6⟩ := at_T60 HR0_4.out t207 p208 q208
                   cases e208
                   replace hx208_0 := (HB.out.cell (World.block_lt_of_cell? w _ hx208_0)).trans hx208_0
                   replace hx208_1 := (HB.out.cell (World.block_lt_of_cell? w _ hx208_1)).trans hx208_1
                   replace hx208_2 := (HB.out.cell (World.block_lt_of_cell? w _ hx208_2)).trans hx208_2
                   replace hx208_3 := (HB.out.cell (World.block_lt_of_cell? w _ hx208_3)).trans hx208_3
                   replace hx208_4 := (HB.out.cell (World.block_lt_of_cell? w _ hx208_4)).trans hx208_4
                   replace hx208_5 := (HB.out.cell (World.block_lt_of_cell? w _ hx208_5)).trans hx208_5
                   replace hx208_6 := (HB.out.cell (World.block_lt_of_cell? w _ hx208_6)).trans hx208_6
                   replace p208 := eq_true p208
                   replace q208 := eq_true q208
                   have p209 : 0 ≤ (t207 : Int) := of_decide_eq_true (by first | (with_reducible assumption) | assumption)
                   have q209 : t207 < (l0_7.length : Int) := of_decide_eq_true (by first | (with_reducible assumption) | assumption)
                   obtain ⟨ad209, e209, hx209_0, hx209_1⟩ := at_T62 HR0_7.out t207 p209 q209
                   cases e209
                   replace hx209_0 := (HB.out.cell (World.block_lt_of_cell? w _ hx209_0)).trans hx209_0
                   replace hx209_1 := (HB.out.cell (World.block_lt_of_cell? w _ hx209_1)).trans hx209_1
                   replace p209 := eq_true p209
                   replace q209 := eq_true q209
                   go_wp2
                   go_meet
                   case rel => exact ⟨_, (true), (by first | rfl | (simp; done) | (simp [*]; done)), H', ⟨by have := HJ7.out; have := HJ21.out; have := HJ24.out; have := HJ26.out; first | omega | exact Nat.le_refl _⟩, ⟨by (with_reducible repeat (first | apply Kd.S_alloc | apply Kd.S_drewN | apply Kd.S_drew)); exact HO_3.out⟩, ⟨by (with_reducible repeat (first | refine blk_drewN ?_ _ | refine blk_drew ?_ | refine blk_alloc ?_ _)); exact BK195.out⟩, ⟨by repeat (first | (with_reducible first | exact HB.out | apply below_alloc | apply pw_below_drewN | apply below_drew1 | refine below_set ?_ GE195.out) | exact HB.out)⟩⟩
                  ·rw [if_neg c51] at H
                   have c51b0 : (((rd_T62 l0_7 t207).f0) == 1) = false := beq_eq_false_iff_ne.mpr c51
                   have c51b1 : (((rd_T62 l0_7 t207).f0) != 1) = true := bne_iff_ne.mpr c51
                   by_cases c53 : a0_5 = 4
                   ·rw [if_pos c53] at H
                    have c53b0 : (a0_5 == 4) = true := beq_iff_eq.mpr c53
                    have c53b1 : (a0_5 != 4) = false := bne_eq_false_iff_eq.mpr c53
                    clear c53
                    have H' := Aside0.mk H
                    clear H
                    have hcz54_0 : w44.cell? ⟨gb195, 0, none⟩ = some (.int .i64 a0_0) := (blk_cell BK195.out 0).trans rfl
                    have hcz54_1 : w44.cell? ⟨gb195, 1, none⟩ = some (.int .i64 a0_1) := (blk_cell BK195.out 1).trans rfl
                    have hcz54_2 : w44.cell? ⟨gb195, 2, none⟩ = some (.slice A0_2 l0_2.length c0_2) := (blk_cell BK195.out 2).trans rfl
                    have hcz54_3 : w44.cell? ⟨gb195, 3, none⟩ = some (.string a0_3) := (blk_cell BK195.out 3).trans rfl
                    have hcz54_4 : w44.cell? ⟨gb195, 4, none⟩ = some (.slice A0_4 l0_4.length c0_4) := (blk_cell BK195.out 4).trans rfl
                    have hcz54_5 : w44.cell? ⟨gb195, 5, none⟩ = some (.int .i64 a0_5) := (blk_cell BK195.out 5).trans rfl
                    have hcz54_6 : w44.cell? ⟨gb195, 6, none⟩ = some (.int .i64 a0_6) := (blk_cell BK195.out 6).trans rfl
                    have hcz54_7 : w44.cell? ⟨gb195, 7, none⟩ = some (.slice A0_7 l0_7.length c0_7) := (blk_cell BK195.out 7).trans rfl
                    have hcz54_8 : w44.cell? ⟨gb195, 8, none⟩ = some (.bool a0_8) := (blk_cell BK195.out 8).trans rfl
                    have hfz54_0 := blk_frozen BK195.out 0
                    have hfz54_1 := blk_frozen BK195.out 1
                    have hfz54_2 := blk_frozen BK195.out 2
                    have hfz54_3 := blk_frozen BK195.out 3
                    have hfz54_4 := blk_frozen BK195.out 4
                    have hfz54_5 := blk_frozen BK195.out 5
                    have hfz54_6 := blk_frozen BK195.out 6
                    have hfz54_7 := blk_frozen BK195.out 7
                    have hfz54_8 := blk_frozen BK195.out 8
                    have p208 : 0 ≤ (t207 : Int) := of_decide_eq_true (by first | (with_reducible assumption) | assumption)
                    have q208 : t207 < (l0_4.length : Int) := of_decide_eq_true (by first | (with_reducible assumption) | assumption)
                    obtain ⟨ad208, e208, hx208_0, hx208_1, hx208_2, hx208_3, hx208_4, hx208_5, hx208_6⟩ := at_T60 HR0_4.out t207 p208 q208
                    cases e208
                    replace hx208_0 := (HB.out.cell (World.block_lt_of_cell? w _ hx208_0)).trans hx208_0
                    replace hx208_1 := (HB.out.cell (World.block_lt_of_cell? w _ hx208_1)).trans hx208_1
                    replace hx208_2 := (HB.out.cell (World.block_lt_of_cell? w _ hx208_2)).trans hx208_2
                    replace hx208_3 := (HB.out.cell (World.block_lt_of_cell? w _ hx208_3)).trans hx208_3
                    replace hx208_4 := (HB.out.cell (World.block_lt_of_cell? w _ hx208_4)).trans hx208_4
                    replace hx208_5 := (HB.out.cell (World.block_lt_of_cell? w _ hx208_5)).trans hx208_5
                    replace hx208_6 := (HB.out.cell (World.block_lt_of_cell? w _ hx208_6)).trans hx208_6
                    replace p208 := eq_true p208
                    replace q208 := eq_true q208
                    have p209 : 0 ≤ (t207 : Int) := of_decide_eq_true (by first | (with_reducible assumption) | assumption)
                    have q209 : t207 < (l0_7.length : Int) := of_decide_eq_true (by first | (with_reducible assumption) | assumption)
                    obtain ⟨ad209, e209, hx209_0, hx209_1⟩ := at_T62 HR0_7.out t207 p209 q209
                    cases e209
                    replace hx209_0 := (HB.out.cell (World.block_lt_of_cell? w _ hx209_0)).trans hx209_0
                    replace hx209_1 := (HB.out.cell (World.block_lt_of_cell? w _ hx209_1)).trans hx209_1
                    replace p209 := eq_true p209
                    replace q209 := eq_true q209
                    have p210 : 0 ≤ (t207 : Int) := of_decide_eq_true (by first | (with_reducible assumption) | assumption)
                    have q210 : t207 < (l0_7.length : Int) := of_decide_eq_true (by first | (with_reducible assumption) | assumption)
                    obtain ⟨ad210, e210, hx210_0, hx210_1⟩ := at_T62 HR0_7.out t207 p210 q210
                    obtain rfl : ad209 = ad210 := (by injection e210)
                    replace hx210_0 := (HB.out.cell (World.block_lt_of_cell? w _ hx210_0)).trans hx210_0
                    replace hx210_1 := (HB.out.cell (World.block_lt_of_cell? w _ hx210_1)).trans hx210_1
                    replace p210 := eq_true p210
                    replace q210 := eq_true q210
                    go_wp2
                    go_meet
                    case rel => exact ⟨_, ((((rd_T62 l0_7 t207).f0) == 2)), (by first | rfl | (simp; done) | (simp [*]; done)), H', ⟨by have := HJ7.out; have := HJ21.out; have := HJ24.out; have := HJ26.out; first | omega | exact Nat.le_refl _⟩, ⟨by (with_reducible repeat (first | apply Kd.S_alloc | apply Kd.S_drewN | apply Kd.S_drew)); exact HO_3.out⟩, ⟨by (with_reducible repeat (first | refine blk_drewN ?_ _ | refine blk_drew ?_ | refine blk_alloc ?_ _)); exact BK195.out⟩, ⟨by repeat (first | (with_reducible first | exact HB.out | apply below_alloc | apply pw_below_drewN | apply below_drew1 | refine below_set ?_ GE195.out) | exact HB.out)⟩⟩
                   ·rw [if_neg c53] at H
                    have c53b0 : (a0_5 == 4) = false := beq_eq_false_iff_ne.mpr c53
                    have c53b1 : (a0_5 != 4) = true := bne_iff_ne.mpr c53
                    have H' := Aside0.mk H
                    clear H
                    have hcz55_0 : w44.cell? ⟨gb195, 0, none⟩ = some (.int .i64 a0_0) := (blk_cell BK195.out 0).trans rfl
                    have hcz55_1 : w44.cell? ⟨gb195, 1, none⟩ = some (.int .i64 a0_1) := (blk_cell BK195.out 1).trans rfl
                    have hcz55_2 : w44.cell? ⟨gb195, 2, none⟩ = some (.slice A0_2 l0_2.length c0_2) := (blk_cell BK195.out 2).trans rfl
                    have hcz55_3 : w44.cell? ⟨gb195, 3, none⟩ = some (.string a0_3) := (blk_cell BK195.out 3).trans rfl
                    have hcz55_4 : w44.cell? ⟨gb195, 4, none⟩ = some (.slice A0_4 l0_4.length c0_4) := (blk_cell BK195.out 4).trans rfl
                    have hcz55_5 : w44.cell? ⟨gb195, 5, none⟩ = some (.int .i64 a0_5) := (blk_cell BK195.out 5).trans rfl
                    have hcz55_6 : w44.cell? ⟨gb195, 6, none⟩ = some (.int .i64 a0_6) := (blk_cell BK195.out 6).trans rfl
                    have hcz55_7 : w44.cell? ⟨gb195, 7, none⟩ = some (.slice A0_7 l0_7.length c0_7) := (blk_cell BK195.out 7).trans rfl
                    have hcz55_8 : w44.cell? ⟨gb195, 8, none⟩ = some (.bool a0_8) := (blk_cell BK195.out 8).trans rfl
                    have hfz55_0 := blk_frozen BK195.out 0
                    have hfz55_1 := blk_frozen BK195.out 1
                    have hfz55_2 := blk_frozen BK195.out 2
                    have hfz55_3 := blk_frozen BK195.out 3
                    have hfz55_4 := blk_frozen BK195.out 4
                    have hfz55_5 := blk_frozen BK195.out 5
                    have hfz55_6 := blk_frozen BK195.out 6
                    have hfz55_7 := blk_frozen BK195.out 7
                    have hfz55_8 := blk_frozen BK195.out 8
                    have p208 : 0 ≤ (t207 : Int) := of_decide_eq_true (by first | (with_reducible assumption) | assumption)
                    have q208 : t207 < (l0_4.length : Int) := of_decide_eq_true (by first | (with_reducible assumption) | assumption)
                    obtain ⟨ad208, e208, hx208_0, hx208_1, hx208_2, hx208_3, hx208_4, hx208_5, hx208_6⟩ := at_T60 HR0_4.out t207 p208 q208
                    cases e208
                    replace hx208_0 := (HB.out.cell (World.block_lt_of_cell? w _ hx208_0)).trans hx208_0
                    replace hx208_1 := (HB.out.cell (World.block_lt_of_cell? w _ hx208_1)).trans hx208_1
                    replace hx208_2 := (HB.out.cell (World.block_lt_of_cell? w _ hx208_2)).trans hx208_2
                    replace hx208_3 := (HB.out.cell (World.block_lt_of_cell? w _ hx208_3)).trans hx208_3
                    replace hx208_4 := (HB.out.cell (World.block_lt_of_cell? w _ hx208_4)).trans hx208_4
                    replace hx208_5 := (HB.out.cell (World.block_lt_of_cell? w _ hx208_5)).trans hx208_5
                    replace hx208_6 := (HB.out.cell (World.block_lt_of_cell? w _ hx208_6)).trans hx208_6
                    replace p208 := eq_true p208
                    replace q208 := eq_true q208
                    have p209 : 0 ≤ (t207 : Int) := of_decide_eq_true (by first | (with_reducible assumption) | assumption)
                    have q209 : t207 < (l0_7.length : Int) := of_decide_eq_true (by first | (with_reducible assumption) | assumption)
                    obtain ⟨ad209, e209, hx209_0, hx209_1⟩ := at_T62 HR0_7.out t207 p209 q209
                    cases e209
                    replace hx209_0 := (HB.out.cell (World.block_lt_of_cell? w _ hx209_0)).trans hx209_0
                    replace hx209_1 := (HB.out.cell (World.block_lt_of_cell? w _ hx209_1)).trans hx209_1
                    replace p209 := eq_true p209
                    replace q209 := eq_true q209
                    go_wp2
                    go_meet
                    case rel => exact ⟨_, (false), (by first | rfl | (simp; done) | (simp [*]; done)), H', ⟨by have := HJ7.out; have := HJ21.out; have := HJ24.out; have := HJ26.out; first | omega | exact Nat.le_refl _⟩, ⟨by (with_reducible repeat (first | apply Kd.S_alloc | apply Kd.S_drewN | apply Kd.S_drew)); exact HO_3.out⟩, ⟨by (with_reducible repeat (first | refine blk_drewN ?_ _ | refine blk_drew ?_ | refine blk_alloc ?_ _)); exact BK195.out⟩, ⟨by repeat (first | (with_reducible first | exact HB.out | apply below_alloc | apply pw_below_drewN | apply below_drew1 | refine below_set ?_ GE195.out) | exact HB.out)⟩⟩
                 ·rw [if_neg c50] at H
                  exact absurd H (by simp)
               ·rw [if_neg c47] at H
                exact absurd H (by simp)
              ·rw [if_neg c46] at H
               exact absurd H (by simp)
             ·rw [if_neg c45] at H
              have c45b0 : decide (0 ≤ t207) = false := decide_eq_false c45
              clear c45
              (first | rw [c45b0] | (simp only [i64_w, i32_w]; rw [c45b0]) | skip)
              have H' := Aside0.mk H
              clear H
              go_wp2
              go_meet
              case rel => exact ⟨_, (false), (by first | rfl | (simp; done) | (simp [*]; done)), H', ⟨by have := HJ7.out; have := HJ21.out; have := HJ24.out; have := HJ26.out; first | omega | exact Nat.le_refl _⟩, ⟨by (with_reducible repeat (first | apply Kd.S_alloc | apply Kd.S_drewN | apply Kd.S_drew)); exact HO_3.out⟩, ⟨by (with_reducible repeat (first | refine blk_drewN ?_ _ | refine blk_drew ?_ | refine blk_alloc ?_ _)); exact BK195.out⟩, ⟨by repeat (first | (with_reducible first | exact HB.out | apply below_alloc | apply pw_below_drewN | apply below_drew1 | refine below_set ?_ GE195.out) | exact HB.out)⟩⟩
            case rest =>
             clear HC42
             try clear c1
             try clear c2
             try clear p2
             try clear q2
             try clear hx2
             try clear c3
             try clear c4
             try clear c5
             try clear c7
             try clear c7b0
             try clear c7b1
             try clear c12
             try clear c13
             try clear c14
             try clear c15
             try clear c16
             try clear c17
             try clear c17b0
             try clear c17b1
             try clear c18
             try clear c19
             try clear c19b0
             try clear c19b1
             try clear p20
             try clear q20
             try clear hx20
             try clear p21
             try clear q21
             try clear hx21
             try clear c23
             try clear c26
             try clear c29
             try clear c29b0
             try clear c29b1
             try clear c31
             try clear c40
             try clear c45
             try clear c45b0
             try clear c46
             try clear c46b0
             try clear c47
             try clear c47b0
             try clear c48
             try clear c48b0
             try clear c48b1
             try clear c50
             try clear c50b0
             try clear c51
             try clear c51b0
             try clear c51b1
             try clear c53
             try clear c53b0
             try clear c53b1
             try clear hcz10_0
             try clear hcz10_1
             try clear hcz10_2
             try clear hcz10_3
             try clear hcz10_4
             try clear hcz10_5
             try clear hcz10_6
             try clear hcz10_7
             try clear hcz10_8
             try clear hcz15_0
             try clear hcz15_1
             try clear hcz15_2
             try clear hcz15_3
             try clear hcz15_4
             try clear hcz15_5
             try clear hcz15_6
             try clear hcz15_7
             try clear hcz15_8
             try clear hcz18_0
             try clear hcz18_1
             try clear hcz18_2
             try clear hcz18_3
             try clear hcz18_4
             try clear hcz18_5
             try clear hcz18_6
             try clear hcz18_7
             try clear hcz18_8
             try clear hcz20_0
             try clear hcz20_1
             try clear hcz20_2
             try clear hcz20_3
             try clear hcz20_4
             try clear hcz20_5
             try clear hcz20_6
             try clear hcz20_7
             try clear hcz20_8
             try clear hcz21_0
             try clear hcz21_1
             try clear hcz21_2
             try clear hcz21_3
             try clear hcz21_4
             try clear hcz21_5
             try clear hcz21_6
             try clear hcz21_7
             try clear hcz21_8
             try clear hcz24_0
             try clear hcz24_1
             try clear hcz24_2
             try clear hcz24_3
             try clear hcz24_4
             try clear hcz24_5
             try clear hcz24_6
             try clear hcz24_7
             try clear hcz24_8
             try clear hcz34_0
             try clear hcz34_1
             try clear hcz34_2
             try clear hcz34_3
             try clear hcz34_4
             try clear hcz34_5
             try clear hcz34_6
             try clear hcz34_7
             try clear hcz34_8
             try clear hcz37_0
             try clear hcz37_1
             try clear hcz37_2
             try clear hcz37_3
             try clear hcz37_4
             try clear hcz37_5
             try clear hcz37_6
             try clear hcz37_7
             try clear hcz37_8
             try clear hcz43_0
             try clear hcz43_1
             try clear hcz43_2
             try clear hcz43_3
             try clear hcz43_4
             try clear hcz43_5
             try clear hcz43_6
             try clear hcz43_7
             try clear hcz43_8
             try clear hcz49_0
             try clear hcz49_1
             try clear hcz49_2
             try clear hcz49_3
             try clear hcz49_4
             try clear hcz49_5
             try clear hcz49_6
             try clear hcz49_7
             try clear hcz49_8
             try clear hcz52_0
             try clear hcz52_1
             try clear hcz52_2
             try clear hcz52_3
             try clear hcz52_4
             try clear hcz52_5
             try clear hcz52_6
             try clear hcz52_7
             try clear hcz52_8
             try clear hcz54_0
             try clear hcz54_1
             try clear hcz54_2
             try clear hcz54_3
             try clear hcz54_4
             try clear hcz54_5
             try clear hcz54_6
             try clear hcz54_7
             try clear hcz54_8
             try clear hcz55_0
             try clear hcz55_1
             try clear hcz55_2
             try clear hcz55_3
             try clear hcz55_4
             try clear hcz55_5
             try clear hcz55_6
             try clear hcz55_7
             try clear hcz55_8
             try clear hfz10_0
             try clear hfz10_1
             try clear hfz10_2
             try clear hfz10_3
             try clear hfz10_4
             try clear hfz10_5
             try clear hfz10_6
             try clear hfz10_7
             try clear hfz10_8
             try clear hfz15_0
             try clear hfz15_1
             try clear hfz15_2
             try clear hfz15_3
             try clear hfz15_4
             try clear hfz15_5
             try clear hfz15_6
             try clear hfz15_7
             try clear hfz15_8
             try clear hfz18_0
             try clear hfz18_1
             try clear hfz18_2
             try clear hfz18_3
             try clear hfz18_4
             try clear hfz18_5
             try clear hfz18_6
             try clear hfz18_7
             try clear hfz18_8
             try clear hfz20_0
             try clear hfz20_1
             try clear hfz20_2
             try clear hfz20_3
             try clear hfz20_4
             try clear hfz20_5
             try clear hfz20_6
             try clear hfz20_7
             try clear hfz20_8
             try clear hfz21_0
             try clear hfz21_1
             try clear hfz21_2
             try clear hfz21_3
             try clear hfz21_4
             try clear hfz21_5
             try clear hfz21_6
             try clear hfz21_7
             try clear hfz21_8
             try clear hfz24_0
             try clear hfz24_1
             try clear hfz24_2
             try clear hfz24_3
             try clear hfz24_4
             try clear hfz24_5
             try clear hfz24_6
             try clear hfz24_7
             try clear hfz24_8
             try clear hfz34_0
             try clear hfz34_1
             try clear hfz34_2
             try clear hfz34_3
             try clear hfz34_4
             try clear hfz34_5
             try clear hfz34_6
             try clear hfz34_7
             try clear hfz34_8
             try clear hfz37_0
             try clear hfz37_1
             try clear hfz37_2
             try clear hfz37_3
             try clear hfz37_4
             try clear hfz37_5
             try clear hfz37_6
             try clear hfz37_7
             try clear hfz37_8
             try clear hfz43_0
             try clear hfz43_1
             try clear hfz43_2
             try clear hfz43_3
             try clear hfz43_4
             try clear hfz43_5
             try clear hfz43_6
             try clear hfz43_7
             try clear hfz43_8
             try clear hfz49_0
             try clear hfz49_1
             try clear hfz49_2
             try clear hfz49_3
             try clear hfz49_4
             try clear hfz49_5
             try clear hfz49_6
             try clear hfz49_7
             try clear hfz49_8
             try clear hfz52_0
             try clear hfz52_1
             try clear hfz52_2
             try clear hfz52_3
             try clear hfz52_4
             try clear hfz52_5
             try clear hfz52_6
             try clear hfz52_7
             try clear hfz52_8
             try clear hfz54_0
             try clear hfz54_1
             try clear hfz54_2
             try clear hfz54_3
             try clear hfz54_4
             try clear hfz54_5
             try clear hfz54_6
             try clear hfz54_7
             try clear hfz54_8
             try clear hfz55_0
             try clear hfz55_1
             try clear hfz55_2
             try clear hfz55_3
             try clear hfz55_4
             try clear hfz55_5
             try clear hfz55_6
             try clear hfz55_7
             try clear hfz55_8
             try clear hx208_0
             try clear hx208_1
             try clear hx208_2
             try clear hx208_3
             try clear hx208_4
             try clear hx208_5
             try clear hx208_6
             try clear hx209_0
             try clear hx209_1
             try clear hx210_0
             try clear hx210_1
             try clear p2
             try clear p208
             try clear p209
             try clear p210
             try clear q208
             try clear q209
             try clear q210
             obtain ⟨kq, x7_41, rfl, HA, HJ41, HO_3, BK195, HB⟩ := hcut
             cases kq with
             | zero => exact absurd HA.out (by simp [ententelaw27_DuesNeeded.j4])
             | succ kj41 =>
              have H := HA.out
              clear HA
              simp only [ententelaw27_DuesNeeded.j4] at H
              by_cases c56 : x7_41 = true
              ·subst c56
               have H1 : (if 0 ≤ t207 then (if t207 < (l0_4.length : Int) then ((ident_Child.f a0_0 a0_1 l0_2 t207 ((rd_T60 l0_4 t207).f1)).bind fun bt212 => (if bt212.2.2.2 = 0 then ((ententelaw27_count.f kj41 t199 false).bind fun t219 => (if t219 > 0 then ((ententelaw27_awake.f).bind fun t220 => (some t220)) else (some false))) else ((ententelaw27_awake.f).bind fun t221 => (some t221)))) else (none)) else (none)) = some r := by rw [if_pos rfl] at H; exact H
               clear H
               have H := H1
               clear H1
               by_cases c57 : 0 ≤ t207
               ·rw [if_pos c57] at H
                have c57b0 : decide (0 ≤ t207) = true := decide_eq_true c57
                clear c57
                by_cases c58 : t207 < (l0_4.length : Int)
                ·rw [if_pos c58] at H
                 have c58b0 : decide (t207 < (l0_4.length : Int)) = true := decide_eq_true c58
                 clear c58
                 replace H := Option.bind_eq_some_iff.mp H
                 obtain ⟨⟨t212, t213, t214, t217⟩, A590, H⟩ := H
                 replace H : (if t217 = 0 then ((ententelaw27_count.f kj41 t199 false).bind fun t219 => (if t219 > 0 then ((ententelaw27_awake.f).bind fun t220 => (some t220)) else (some false))) else ((ententelaw27_awake.f).bind fun t221 => (some t221))) = some r := H
                 have A59 := Aside0.mk A590
                 clear A590
                 by_cases c60 : t217 = 0
                 ·rw [if_pos c60] at H
                  have c60b0 : (t217 == 0) = true := beq_iff_eq.mpr c60
                  have c60b1 : (t217 != 0) = false := bne_eq_false_iff_eq.mpr c60
                  clear c60
                  replace H := Option.bind_eq_some_iff.mp H
                  obtain ⟨t219, A610, H⟩ := H
                  replace H : (if t219 > 0 then ((ententelaw27_awake.f).bind fun t220 => (some t220)) else (some false)) = some r := H
                  have A61 := Aside0.mk A610
                  clear A610
                  by_cases c62 : t219 > 0
                  ·rw [if_pos c62] at H
                   have c62b0 : decide (0 < t219) = true := decide_eq_true c62
                   clear c62
                   replace H := Option.bind_eq_some_iff.mp H
                   obtain ⟨t220, A630, H⟩ := H
                   replace H : (some t220) = some r := H
                   have A63 := Aside0.mk A630
                   clear A630
                   obtain rfl := Option.some.inj H
                   try go_wp2
                   have n0_ := Aside0.mk (Kd.S_drew HO_3.out)
                   have n1_ := Aside0.mk (blk_drew BK195.out)
                   have n2_ := Aside0.mk (below_drew1 HB.out)
                   clear HO_3
                   clear BK195
                   clear HB
                   have HO_3 := n0_
                   have BK195 := n1_
                   have HB := n2_
                   clear n0_ n1_ n2_
                   have p211 : 0 ≤ (t207 : Int) := of_decide_eq_true (by first | (with_reducible assumption) | assumption)
                   have q211 : t207 < (l0_4.length : Int) := of_decide_eq_true (by first | (with_reducible assumption) | assumption)
                   obtain ⟨ad211, e211, hx211_0, hx211_1, hx211_2, hx211_3, hx211_4, hx211_5, hx211_6⟩ := at_T60 HR0_4.out t207 p211 q211
                   have hw211_6 := hx211_6
                   have hw211_5 := hx211_5
                   have hw211_4 := hx211_4
                   have hw211_3 := hx211_3
                   have hw211_2 := hx211_2
                   have hw211_1 := hx211_1
                   have hw211_0 := hx211_0
                   cases e211
                   replace hx211_0 := (HB.out.cell (World.block_lt_of_cell? w _ hx211_0)).trans hx211_0
                   replace hx211_1 := (HB.out.cell (World.block_lt_of_cell? w _ hx211_1)).trans hx211_1
                   replace hx211_2 := (HB.out.cell (World.block_lt_of_cell? w _ hx211_2)).trans hx211_2
                   replace hx211_3 := (HB.out.cell (World.block_lt_of_cell? w _ hx211_3)).trans hx211_3
                   replace hx211_4 := (HB.out.cell (World.block_lt_of_cell? w _ hx211_4)).trans hx211_4
                   replace hx211_5 := (HB.out.cell (World.block_lt_of_cell? w _ hx211_5)).trans hx211_5
                   replace hx211_6 := (HB.out.cell (World.block_lt_of_cell? w _ hx211_6)).trans hx211_6
                   replace p211 := eq_true p211
                   replace q211 := eq_true q211
                   refine start_ (n := 17) (S := fun w' => w'.cell? ⟨gb195, 0, none⟩ = some (.int .i64 a0_0) ∧ w'.cell? ⟨gb195, 1, none⟩ = some (.int .i64 a0_1) ∧ w'.cell? ⟨gb195, 2, none⟩ = some (.slice A0_2 l0_2.length c0_2) ∧ w'.cell? ⟨gb195, 3, none⟩ = some (.string a0_3) ∧ w'.cell? ⟨gb195, 4, none⟩ = some (.slice (some ad211) l0_4.length c0_4) ∧ w'.cell? ⟨gb195, 5, none⟩ = some (.int .i64 a0_5) ∧ w'.cell? ⟨gb195, 6, none⟩ = some (.int .i64 a0_6) ∧ w'.cell? ⟨gb195, 7, none⟩ = some (.slice A0_7 l0_7.length c0_7) ∧ w'.cell? ⟨gb195, 8, none⟩ = some (.bool a0_8) ∧ w'.cell? (ad211.add ((t207).toNat * 7)) = some (.int .i64 ((rd_T60 l0_4 t207).f0.f0)) ∧ w'.cell? ⟨(ad211.add ((t207).toNat * 7)).block, (ad211.add ((t207).toNat * 7)).off + 1, none⟩ = some (.string ((rd_T60 l0_4 t207).f0.f1)) ∧ w'.cell? ⟨(ad211.add ((t207).toNat * 7)).block, (ad211.add ((t207).toNat * 7)).off + 2, none⟩ = some (.int .i64 ((rd_T60 l0_4 t207).f0.f2)) ∧ w'.cell? ⟨(ad211.add ((t207).toNat * 7)).block, (ad211.add ((t207).toNat * 7)).off + 3, none⟩ = some (.int .i64 ((rd_T60 l0_4 t207).f1)) ∧ w'.cell? ⟨(ad211.add ((t207).toNat * 7)).block, (ad211.add ((t207).toNat * 7)).off + 4, none⟩ = some (.string ((rd_T60 l0_4 t207).f2)) ∧ w'.cell? ⟨(ad211.add ((t207).toNat * 7)).block, (ad211.add ((t207).toNat * 7)).off + 5, none⟩ = some (.int .i64 ((rd_T60 l0_4 t207).f3)) ∧ w'.cell? ⟨(ad211.add ((t207).toNat * 7)).block, (ad211.add ((t207).toNat * 7)).off + 6, none⟩ = some (.int .i64 ((rd_T60 l0_4 t207).f4))) (ds := []) #[false, false, false, false, false, false, false, false, false, false, false, false, false, false, false, false, false] (by kernel_rfl) rfl rfl ⟨(blk_cell BK195.out 0).trans rfl, (blk_cell BK195.out 1).trans rfl, (blk_cell BK195.out 2).trans rfl, (blk_cell BK195.out 3).trans rfl, (blk_cell BK195.out 4).trans rfl, (blk_cell BK195.out 5).trans rfl, (blk_cell BK195.out 6).trans rfl, (blk_cell BK195.out 7).trans rfl, (blk_cell BK195.out 8).trans rfl, ((HB.out.cell (World.block_lt_of_cell? w _ hw211_0)).trans hw211_0), ((HB.out.cell (World.block_lt_of_cell? w _ hw211_1)).trans hw211_1), ((HB.out.cell (World.block_lt_of_cell? w _ hw211_2)).trans hw211_2), ((HB.out.cell (World.block_lt_of_cell? w _ hw211_3)).trans hw211_3), ((HB.out.cell (World.block_lt_of_cell? w _ hw211_4)).trans hw211_4), ((HB.out.cell (World.block_lt_of_cell? w _ hw211_5)).trans hw211_5), ((HB.out.cell (World.block_lt_of_cell? w _ hw211_6)).trans hw211_6)⟩ (fun hHeld => ?_); refine with_tabW ententelaw27_DuesNeeded.tab16 ententelaw27_DuesNeeded.bits16 (fun HT_ HW_ => ?_)
                   generalize wc.drew = w64 at HO_3 BK195 HB hx211_0 hx211_1 hx211_2 hx211_3 hx211_4 hx211_5 hx211_6 hHeld ⊢
                   refine pure_ (i := 0) (N := some 104) (v := ?_) (a' := ?_) #[true, false, false, false, false, false, false, false, false, false, false, false, false, false, false, false, false] rfl rfl (any_of HT_.out (by kernel_rfl)) (fun _ _ _ h => h) (Or.inl ⟨by rfl, ?_⟩) ?_ ?_
                   rotate_left
                   ·intro w'
                    go_simp
                    with_reducible rfl
                   rotate_left
                   ·simp only [Act.put, List.setIfInBounds_toArray, List.set_cons_zero, List.set_cons_succ, i64_w, i32_w]
                    rfl
                   refine pure_ (i := 2) (N := some 106) (v := ?_) (a' := ?_) #[true, false, true, false, false, false, false, false, false, false, false, false, false, false, false, false, false] rfl rfl (any_of HT_.out (by kernel_rfl)) (fun _ _ _ h => h) (Or.inl ⟨by rfl, ?_⟩) ?_ ?_
                   rotate_left
                   ·intro w'
                    go_simp
                    with_reducible rfl
                   rotate_left
                   ·simp only [Act.put, List.setIfInBounds_toArray, List.set_cons_zero, List.set_cons_succ, i64_w, i32_w]
                    rfl
                   refine pure_ (i := 3) (N := some 107) (v := ?_) (a' := ?_) #[true, false, true, true, false, false, false, false, false, false, false, false, false, false, false, false, false] rfl rfl (any_of HT_.out (by kernel_rfl)) (fun _ _ _ h => h) (Or.inl ⟨by rfl, ?_⟩) ?_ ?_
                   rotate_left
                   ·intro w'
                    go_simp
                    with_reducible rfl
                   rotate_left
                   ·simp only [Act.put, List.setIfInBounds_toArray, List.set_cons_zero, List.set_cons_succ, i64_w, i32_w]
                    rfl
                   refine pure_ (i := 4) (N := some 108) (v := ?_) (a' := ?_) #[true, false, true, true, true, false, false, false, false, false, false, false, false, false, false, false, false] rfl rfl (any_of HT_.out (by kernel_rfl)) (fun _ _ _ h => h) (Or.inl ⟨by rfl, ?_⟩) ?_ ?_
                   rotate_left
                   ·intro w'
                    go_simp
                    with_reducible rfl
                   rotate_left
                   ·simp only [Act.put, List.setIfInBounds_toArray, List.set_cons_zero, List.set_cons_succ, i64_w, i32_w]
                    rfl
                   refine pure_ (i := 6) (N := some 110) (v := ?_) (a' := ?_) #[true, false, true, true, true, false, true, false, false, false, false, false, false, false, false, false, false] rfl rfl (any_of HT_.out (by kernel_rfl)) (fun _ _ _ h => h) (Or.inl ⟨by rfl, ?_⟩) ?_ ?_
                   rotate_left
                   ·intro w'
                    go_simp
                    with_reducible rfl
                   rotate_left
                   ·simp only [Act.put, List.setIfInBounds_toArray, List.set_cons_zero, List.set_cons_succ, i64_w, i32_w]
                    rfl
                   refine take_ (i := 1) (N := some 105) (v := ?_) (a' := ?_) #[true, true, true, true, true, false, true, false, false, false, false, false, false, false, false, false, false] rfl rfl (take_ofW HT_.out HW_.out (by kernel_rfl)) (fun _ _ _ h => h) (Or.inl ⟨by rfl, ?_⟩) hHeld ?_ ?_
                   rotate_left
                   ·rintro w' ⟨s0, s1, s2, s3, s4, s5, s6, s7, s8, s9, s10, s11, s12, s13, s14, s15⟩
                    go_simp
                    with_reducible rfl
                   rotate_left
                   ·simp only [Act.put, List.setIfInBounds_toArray, List.set_cons_zero, List.set_cons_succ, i64_w, i32_w]
                    rfl
                   refine take_ (i := 5) (N := some 109) (v := ?_) (a' := ?_) #[true, true, true, true, true, true, true, false, false, false, false, false, false, false, false, false, false] rfl rfl (take_ofW HT_.out HW_.out (by kernel_rfl)) (fun _ _ _ h => h) (Or.inl ⟨by rfl, ?_⟩) hHeld ?_ ?_
                   rotate_left
                   ·rintro w' ⟨s0, s1, s2, s3, s4, s5, s6, s7, s8, s9, s10, s11, s12, s13, s14, s15⟩
                    go_simp
                    with_reducible rfl
                   rotate_left
                   ·simp only [Act.put, List.setIfInBounds_toArray, List.set_cons_zero, List.set_cons_succ, i64_w, i32_w]
                    rfl
                   refine pure_ (i := 7) (N := some 111) (v := ?_) (a' := ?_) #[true, true, true, true, true, true, true, true, false, false, false, false, false, false, false, false, false] rfl rfl (any_of HT_.out (by kernel_rfl)) (fun _ _ _ h => h) (Or.inl ⟨by rfl, ?_⟩) ?_ ?_
                   rotate_left
                   ·intro w'
                    go_simp
                    with_reducible rfl
                   rotate_left
                   ·simp only [Act.put, List.setIfInBounds_toArray, List.set_cons_zero, List.set_cons_succ, i64_w, i32_w]
                    rfl
                   refine pure_ (i := 8) (N := some 112) (v := ?_) (a' := ?_) #[true, true, true, true, true, true, true, true, true, false, false, false, false, false, false, false, false] rfl rfl (any_of HT_.out (by kernel_rfl)) (fun _ _ _ h => h) (Or.inl ⟨by rfl, ?_⟩) ?_ ?_
                   rotate_left
                   ·intro w'
                    go_simp
                    with_reducible rfl
                   rotate_left
                   ·simp only [Act.put, List.setIfInBounds_toArray, List.set_cons_zero, List.set_cons_succ, i64_w, i32_w]
                    rfl
                   refine take_ (i := 9) (N := some 113) (v := ?_) (a' := ?_) #[true, true, true, true, true, true, true, true, true, true, false, false, false, false, false, false, false] rfl rfl (take_ofW HT_.out HW_.out (by kernel_rfl)) (fun _ _ _ h => h) (Or.inl ⟨by rfl, ?_⟩) hHeld ?_ ?_
                   rotate_left
                   ·rintro w' ⟨s0, s1, s2, s3, s4, s5, s6, s7, s8, s9, s10, s11, s12, s13, s14, s15⟩
                    go_simp
                    with_reducible rfl
                   rotate_left
                   ·simp only [Act.put, List.setIfInBounds_toArray, List.set_cons_zero, List.set_cons_succ, i64_w, i32_w]
                    rfl
                   refine join_ (σ := Value × Nat) 2 #[true, true, true, true, true, true, true, true, true, true, true, true, true, true, true, false, false] (fun s_ => [(114, .tuple #[.agg #[.int .i64 t212, .int .i64 t213, s_.1], .int .i64 t217]), (8, .pointer (some ⟨s_.2, 0, none⟩)), (103, .tuple #[.agg #[.int .i64 t212, .int .i64 t213, s_.1], .int .i64 t217]), (115, .agg #[.int .i64 t212, .int .i64 t213, s_.1]), (116, .int .i64 t217)]) (fun s_ w' => (w'.cell? ⟨gb195, 0, none⟩ = some (.int .i64 a0_0) ∧ w'.cell? ⟨gb195, 1, none⟩ = some (.int .i64 a0_1) ∧ w'.cell? ⟨gb195, 2, none⟩ = some (.slice A0_2 l0_2.length c0_2) ∧ w'.cell? ⟨gb195, 3, none⟩ = some (.string a0_3) ∧ w'.cell? ⟨gb195, 4, none⟩ = some (.slice (some ad211) l0_4.length c0_4) ∧ w'.cell? ⟨gb195, 5, none⟩ = some (.int .i64 a0_5) ∧ w'.cell? ⟨gb195, 6, none⟩ = some (.int .i64 a0_6) ∧ w'.cell? ⟨gb195, 7, none⟩ = some (.slice A0_7 l0_7.length c0_7) ∧ w'.cell? ⟨gb195, 8, none⟩ = some (.bool a0_8) ∧ w'.cell? (ad211.add ((t207).toNat * 7)) = some (.int .i64 ((rd_T60 l0_4 t207).f0.f0)) ∧ w'.cell? ⟨(ad211.add ((t207).toNat * 7)).block, (ad211.add ((t207).toNat * 7)).off + 1, none⟩ = some (.string ((rd_T60 l0_4 t207).f0.f1)) ∧ w'.cell? ⟨(ad211.add ((t207).toNat * 7)).block, (ad211.add ((t207).toNat * 7)).off + 2, none⟩ = some (.int .i64 ((rd_T60 l0_4 t207).f0.f2)) ∧ w'.cell? ⟨(ad211.add ((t207).toNat * 7)).block, (ad211.add ((t207).toNat * 7)).off + 3, none⟩ = some (.int .i64 ((rd_T60 l0_4 t207).f1)) ∧ w'.cell? ⟨(ad211.add ((t207).toNat * 7)).block, (ad211.add ((t207).toNat * 7)).off + 4, none⟩ = some (.string ((rd_T60 l0_4 t207).f2)) ∧ w'.cell? ⟨(ad211.add ((t207).toNat * 7)).block, (ad211.add ((t207).toNat * 7)).off + 5, none⟩ = some (.int .i64 ((rd_T60 l0_4 t207).f3)) ∧ w'.cell? ⟨(ad211.add ((t207).toNat * 7)).block, (ad211.add ((t207).toNat * 7)).off + 6, none⟩ = some (.int .i64 ((rd_T60 l0_4 t207).f4))) ∧ (Kd.R k69 69 w' w.heap.size (fun _ => True) s_.1 t214) ∧ (Kd.S k42 42 w' w.heap.size (fun k_ => some k_ ≠ (s_.1 : Value).ownBlock) v200 t199) ∧ (w'.heap[gb195]? = some (.cells #[.int .i64 a0_0, .int .i64 a0_1, .slice A0_2 l0_2.length c0_2, .string a0_3, .slice (some ad211) l0_4.length c0_4, .int .i64 a0_5, .int .i64 a0_6, .slice A0_7 l0_7.length c0_7, .bool a0_8] 50 (0, 0))) ∧ (w'.heap[s_.2]? = some (.cells #[.int .i64 0, .int .i64 0, .slice none 0 0] 40 (0, 0))) ∧ (w.heap.size ≤ s_.2) ∧ (w.heap.size ≤ s_.2) ∧ (gb195 ≠ s_.2) ∧ (s_.2 ≠ gb195) ∧ (Below w.heap.size w w')) ?_ ?_
                   rotate_left
                   ·intro hCont
                    refine two_ (i := 10) (j := 14) (Ni := some 114) (Nj := some 8) #[true, true, true, true, true, true, true, true, true, true, true, false, false, false, false, false, false] #[true, true, true, true, true, true, true, true, true, true, false, false, false, false, true, false, false] rfl rfl rfl rfl (two_of HT_.out (by kernel_rfl)) (by decide) (by decide) (fun K hK => ?_) (fun K hK => ?_)
                    ·skip
                     refine goes_ Tryd.func19 (by kernel_rfl) rfl #[.agg #[.int .i64 a0_0, .int .i64 a0_1, .slice A0_2 l0_2.length c0_2], .int .i64 t207, .int .i64 ((rd_T60 l0_4 t207).f1)] (by rfl) rfl rfl (by (try simp only [List.map_toArray, List.map_cons, List.map_nil]); first | done | rfl | (simp only [List.length_drop, List.length_take]; rfl)) ?_
                     with_reducible refine (ident_Child.calls a0_0 a0_1 _ _ l0_2 t207 ((rd_T60 l0_4 t207).f1) t212 t213 t214 t217 _ ?side1 ?side2 A59.out).mono ?_
                     (case side1 => repeat (first | exact (Kd.C_below HR0_2.out HB.out) | (with_reducible refine Kd.C_alloc ?_ _) | (with_reducible refine Kd.C_drewN ?_ _) | (with_reducible refine Kd.C_drew ?_)))
                     (case side2 => exact HC0_2.out)
                     rintro e w65 ⟨v215, rfl, ho0, hb⟩
                     refine ⟨_, rfl, ?_⟩
                     have n0_ := Aside0.mk (Kd.S_elder' (mvS HO_3.out) (Kd.R_base ho0) hb)
                     have n1_ := Aside0.mk (Kd.R_lower ho0 (below_size (mvL1 HB.out GE195.out)))
                     have n2_ := Aside0.mk (blk_below (g := gb195) (o := .cells #[.int .i64 a0_0, .int .i64 a0_1, .slice A0_2 l0_2.length c0_2, .string a0_3, .slice (some ad211) l0_4.length c0_4, .int .i64 a0_5, .int .i64 a0_6, .slice A0_7 l0_7.length c0_7, .bool a0_8] 50 (0, 0)) (mvB BK195.out) hb)
                     have n3_ := Aside0.mk (below_step (mvL1 HB.out GE195.out) hb)
                     clear HO_3
                     clear BK195
                     clear HB
                     have HO_3 := n0_
                     have HO216 := n1_
                     have BK195 := n2_
                     have HB := n3_
                     clear n0_ n1_ n2_ n3_
                     (try clear hb)
                     (try clear hb2)
                     (try clear hk)
                     (try clear hi)
                     (try clear ho0)
                     refine hK.out _ _ ⟨(blk_cell BK195.out 0).trans rfl, (blk_cell BK195.out 1).trans rfl, (blk_cell BK195.out 2).trans rfl, (blk_cell BK195.out 3).trans rfl, (blk_cell BK195.out 4).trans rfl, (blk_cell BK195.out 5).trans rfl, (blk_cell BK195.out 6).trans rfl, (blk_cell BK195.out 7).trans rfl, (blk_cell BK195.out 8).trans rfl, ((HB.out.cell (World.block_lt_of_cell? w _ hw211_0)).trans hw211_0), ((HB.out.cell (World.block_lt_of_cell? w _ hw211_1)).trans hw211_1), ((HB.out.cell (World.block_lt_of_cell? w _ hw211_2)).trans hw211_2), ((HB.out.cell (World.block_lt_of_cell? w _ hw211_3)).trans hw211_3), ((HB.out.cell (World.block_lt_of_cell? w _ hw211_4)).trans hw211_4), ((HB.out.cell (World.block_lt_of_cell? w _ hw211_5)).trans hw211_5), ((HB.out.cell (World.block_lt_of_cell? w _ hw211_6)).trans hw211_6)⟩ (fun hHeld => ?_)
                     clear hK K
                     refine norm_ (a' := ?_) ?_ ?_
                     rotate_left
                     ·show Act.put _ (some 114) _ = _
                      simp only [Act.put, List.setIfInBounds_toArray, List.set_cons_zero, List.set_cons_succ, i64_w, i32_w]
                      rfl
                     refine pure_ (i := 11) (N := some 103) (v := ?_) (a' := ?_) #[true, true, true, true, true, true, true, true, true, true, true, true, false, false, false, false, false] rfl rfl (any_of HT_.out (by kernel_rfl)) (fun _ _ _ h => h) (Or.inl ⟨by rfl, ?_⟩) ?_ ?_
                     rotate_left
                     ·intro w'
                      go_simp
                      with_reducible rfl
                     rotate_left
                     ·simp only [Act.put, List.setIfInBounds_toArray, List.set_cons_zero, List.set_cons_succ, i64_w, i32_w]
                      rfl
                     refine pure_ (i := 12) (N := some 115) (v := ?_) (a' := ?_) #[true, true, true, true, true, true, true, true, true, true, true, true, true, false, false, false, false] rfl rfl (any_of HT_.out (by kernel_rfl)) (fun _ _ _ h => h) (Or.inl ⟨by rfl, ?_⟩) ?_ ?_
                     rotate_left
                     ·intro w'
                      go_simp
                      with_reducible rfl
                     rotate_left
                     ·simp only [Act.put, List.setIfInBounds_toArray, List.set_cons_zero, List.set_cons_succ, i64_w, i32_w]
                      rfl
                     refine pure_ (i := 13) (N := some 116) (v := ?_) (a' := ?_) #[true, true, true, true, true, true, true, true, true, true, true, true, true, true, false, false, false] rfl rfl (any_of HT_.out (by kernel_rfl)) (fun _ _ _ h => h) (Or.inl ⟨by rfl, ?_⟩) ?_ ?_
                     rotate_left
                     ·intro w'
                      go_simp
                      with_reducible rfl
                     rotate_left
                     ·simp only [Act.put, List.setIfInBounds_toArray, List.set_cons_zero, List.set_cons_succ, i64_w, i32_w]
                      rfl
                     refine one_ (i := 14) (N := some 8) #[true, true, true, true, true, true, true, true, true, true, true, true, true, true, true, false, false] rfl rfl (one_of HT_.out (by kernel_rfl)) (by decide) (fun K hK => ?_)
                     refine box_step ?hg (N := 8) ?hd (cs := #[.int .i64 0, .int .i64 0, .slice none 0 0]) (t := 40) ?hr ?_; (case hd => rfl); (case hg => rfl); (case hr => first | (go_simp; done) | (go_simp; rfl))
                     intro gb218 hg w66 hbox hb
                     have n0_ := Aside0.mk (Kd.S_below (mvS HO_3.out) hb)
                     have n1_ := Aside0.mk (Kd.R_below (mvR HO216.out) hb)
                     have n2_ := Aside0.mk (blk_below (g := gb195) (o := .cells #[.int .i64 a0_0, .int .i64 a0_1, .slice A0_2 l0_2.length c0_2, .string a0_3, .slice (some ad211) l0_4.length c0_4, .int .i64 a0_5, .int .i64 a0_6, .slice A0_7 l0_7.length c0_7, .bool a0_8] 50 (0, 0)) (mvB BK195.out) hb)
                     have n3_ := Aside0.mk (below_step (mvL1 HB.out GE195.out) hb)
                     have n4_ := Aside0.mk (hbox)
                     have n5_ := Aside0.mk ((by rw [hg]; exact (below_size (mvL1 HB.out GE195.out)) : w.heap.size ≤ gb218))
                     have n6_ := Aside0.mk ((by rw [hg]; exact (below_size (mvL1 HB.out GE195.out)) : w.heap.size ≤ gb218))
                     have n7_ := Aside0.mk ((by rw [hg]; exact Nat.ne_of_lt (blk_lt (g := gb195) (o := .cells #[.int .i64 a0_0, .int .i64 a0_1, .slice A0_2 l0_2.length c0_2, .string a0_3, .slice (some ad211) l0_4.length c0_4, .int .i64 a0_5, .int .i64 a0_6, .slice A0_7 l0_7.length c0_7, .bool a0_8] 50 (0, 0)) (mvB BK195.out)) : gb195 ≠ gb218))
                     have n8_ := Aside0.mk ((by rw [hg]; exact Nat.ne_of_gt (blk_lt (g := gb195) (o := .cells #[.int .i64 a0_0, .int .i64 a0_1, .slice A0_2 l0_2.length c0_2, .string a0_3, .slice (some ad211) l0_4.length c0_4, .int .i64 a0_5, .int .i64 a0_6, .slice A0_7 l0_7.length c0_7, .bool a0_8] 50 (0, 0)) (mvB BK195.out)) : gb218 ≠ gb195))
                     clear HO_3
                     clear HO216
                     clear BK195
                     clear HB
                     have HO_3 := n0_
                     have HO216 := n1_
                     have BK195 := n2_
                     have HB := n3_
                     have BK218 := n4_
                     have GW218 := n5_
                     have GE218 := n6_
                     have NB195_218 := n7_
                     have NB218_195 := n8_
                     clear n0_ n1_ n2_ n3_ n4_ n5_ n6_ n7_ n8_
                     clear hb hbox hg
                     refine hK.out _ _ ⟨(blk_cell BK195.out 0).trans rfl, (blk_cell BK195.out 1).trans rfl, (blk_cell BK195.out 2).trans rfl, (blk_cell BK195.out 3).trans rfl, (blk_cell BK195.out 4).trans rfl, (blk_cell BK195.out 5).trans rfl, (blk_cell BK195.out 6).trans rfl, (blk_cell BK195.out 7).trans rfl, (blk_cell BK195.out 8).trans rfl, ((HB.out.cell (World.block_lt_of_cell? w _ hw211_0)).trans hw211_0), ((HB.out.cell (World.block_lt_of_cell? w _ hw211_1)).trans hw211_1), ((HB.out.cell (World.block_lt_of_cell? w _ hw211_2)).trans hw211_2), ((HB.out.cell (World.block_lt_of_cell? w _ hw211_3)).trans hw211_3), ((HB.out.cell (World.block_lt_of_cell? w _ hw211_4)).trans hw211_4), ((HB.out.cell (World.block_lt_of_cell? w _ hw211_5)).trans hw211_5), ((HB.out.cell (World.block_lt_of_cell? w _ hw211_6)).trans hw211_6)⟩ (fun hHeld => ?_)
                     clear hK K
                     refine norm_ (a' := ?_) ?_ ?_
                     rotate_left
                     ·show Act.put _ (some 8) _ = _
                      simp only [Act.put, List.setIfInBounds_toArray, List.set_cons_zero, List.set_cons_succ, i64_w, i32_w]
                      rfl
                     exact norm_ (by simp only [putAll, Act.put, List.setIfInBounds_toArray, List.set_cons_zero, List.set_cons_succ]) (hCont (v215, gb218) _ ⟨hHeld, (mvR HO216.out), (by (with_reducible repeat (first | apply Kd.S_alloc | apply Kd.S_drewN | apply Kd.S_drew)); exact Kd.S_mono HO_3.out (fun _ hk => hk.2)), (mvB BK195.out), (mvB BK218.out), GW218.out, GE218.out, NB195_218.out, NB218_195.out, (mvL2 HB.out GE195.out GE218.out)⟩)
                    ·skip
                     refine box_step ?hg (N := 8) ?hd (cs := #[.int .i64 0, .int .i64 0, .slice none 0 0]) (t := 40) ?hr ?_; (case hd => rfl); (case hg => rfl); (case hr => first | (go_simp; done) | (go_simp; rfl))
                     intro gb218 hg w65 hbox hb
                     have n0_ := Aside0.mk (Kd.S_below (mvS HO_3.out) hb)
                     have n1_ := Aside0.mk (blk_below (g := gb195) (o := .cells #[.int .i64 a0_0, .int .i64 a0_1, .slice A0_2 l0_2.length c0_2, .string a0_3, .slice (some ad211) l0_4.length c0_4, .int .i64 a0_5, .int .i64 a0_6, .slice A0_7 l0_7.length c0_7, .bool a0_8] 50 (0, 0)) (mvB BK195.out) hb)
                     have n2_ := Aside0.mk (below_step (mvL1 HB.out GE195.out) hb)
                     have n3_ := Aside0.mk (hbox)
                     have n4_ := Aside0.mk ((by rw [hg]; exact (below_size (mvL1 HB.out GE195.out)) : w.heap.size ≤ gb218))
                     have n5_ := Aside0.mk ((by rw [hg]; exact (below_size (mvL1 HB.out GE195.out)) : w.heap.size ≤ gb218))
                     have n6_ := Aside0.mk ((by rw [hg]; exact Nat.ne_of_lt (blk_lt (g := gb195) (o := .cells #[.int .i64 a0_0, .int .i64 a0_1, .slice A0_2 l0_2.length c0_2, .string a0_3, .slice (some ad211) l0_4.length c0_4, .int .i64 a0_5, .int .i64 a0_6, .slice A0_7 l0_7.length c0_7, .bool a0_8] 50 (0, 0)) (mvB BK195.out)) : gb195 ≠ gb218))
                     have n7_ := Aside0.mk ((by rw [hg]; exact Nat.ne_of_gt (blk_lt (g := gb195) (o := .cells #[.int .i64 a0_0, .int .i64 a0_1, .slice A0_2 l0_2.length c0_2, .string a0_3, .slice (some ad211) l0_4.length c0_4, .int .i64 a0_5, .int .i64 a0_6, .slice A0_7 l0_7.length c0_7, .bool a0_8] 50 (0, 0)) (mvB BK195.out)) : gb218 ≠ gb195))
                     clear HO_3
                     clear BK195
                     clear HB
                     have HO_3 := n0_
                     have BK195 := n1_
                     have HB := n2_
                     have BK218 := n3_
                     have GW218 := n4_
                     have GE218 := n5_
                     have NB195_218 := n6_
                     have NB218_195 := n7_
                     clear n0_ n1_ n2_ n3_ n4_ n5_ n6_ n7_
                     clear hb hbox hg
                     refine hK.out _ _ ⟨(blk_cell BK195.out 0).trans rfl, (blk_cell BK195.out 1).trans rfl, (blk_cell BK195.out 2).trans rfl, (blk_cell BK195.out 3).trans rfl, (blk_cell BK195.out 4).trans rfl, (blk_cell BK195.out 5).trans rfl, (blk_cell BK195.out 6).trans rfl, (blk_cell BK195.out 7).trans rfl, (blk_cell BK195.out 8).trans rfl, ((HB.out.cell (World.block_lt_of_cell? w _ hw211_0)).trans hw211_0), ((HB.out.cell (World.block_lt_of_cell? w _ hw211_1)).trans hw211_1), ((HB.out.cell (World.block_lt_of_cell? w _ hw211_2)).trans hw211_2), ((HB.out.cell (World.block_lt_of_cell? w _ hw211_3)).trans hw211_3), ((HB.out.cell (World.block_lt_of_cell? w _ hw211_4)).trans hw211_4), ((HB.out.cell (World.block_lt_of_cell? w _ hw211_5)).trans hw211_5), ((HB.out.cell (World.block_lt_of_cell? w _ hw211_6)).trans hw211_6)⟩ (fun hHeld => ?_)
                     clear hK K
                     refine norm_ (a' := ?_) ?_ ?_
                     rotate_left
                     ·show Act.put _ (some 8) _ = _
                      simp only [Act.put, List.setIfInBounds_toArray, List.set_cons_zero, List.set_cons_succ, i64_w, i32_w]
                      rfl
                     refine one_ (i := 10) (N := some 114) #[true, true, true, true, true, true, true, true, true, true, true, false, false, false, true, false, false] rfl rfl (one_of HT_.out (by kernel_rfl)) (by decide) (fun K hK => ?_)
                     refine goes_ Tryd.func19 (by kernel_rfl) rfl #[.agg #[.int .i64 a0_0, .int .i64 a0_1, .slice A0_2 l0_2.length c0_2], .int .i64 t207, .int .i64 ((rd_T60 l0_4 t207).f1)] (by rfl) rfl rfl (by (try simp only [List.map_toArray, List.map_cons, List.map_nil]); first | done | rfl | (simp only [List.length_drop, List.length_take]; rfl)) ?_
                     with_reducible refine (ident_Child.calls a0_0 a0_1 _ _ l0_2 t207 ((rd_T60 l0_4 t207).f1) t212 t213 t214 t217 _ ?side1 ?side2 A59.out).mono ?_
                     (case side1 => repeat (first | exact (Kd.C_below HR0_2.out HB.out) | (with_reducible refine Kd.C_alloc ?_ _) | (with_reducible refine Kd.C_drewN ?_ _) | (with_reducible refine Kd.C_drew ?_)))
                     (case side2 => exact HC0_2.out)
                     rintro e w66 ⟨v215, rfl, ho0, hb⟩
                     refine ⟨_, rfl, ?_⟩
                     have n0_ := Aside0.mk (Kd.S_elder' (mvS HO_3.out) (Kd.R_base ho0) hb)
                     have n1_ := Aside0.mk (Kd.R_lower ho0 (below_size (mvL2 HB.out GE195.out GE218.out)))
                     have n2_ := Aside0.mk (blk_below (g := gb195) (o := .cells #[.int .i64 a0_0, .int .i64 a0_1, .slice A0_2 l0_2.length c0_2, .string a0_3, .slice (some ad211) l0_4.length c0_4, .int .i64 a0_5, .int .i64 a0_6, .slice A0_7 l0_7.length c0_7, .bool a0_8] 50 (0, 0)) (mvB BK195.out) hb)
                     have n3_ := Aside0.mk (blk_below (g := gb218) (o := .cells #[.int .i64 0, .int .i64 0, .slice none 0 0] 40 (0, 0)) (mvB BK218.out) hb)
                     have n4_ := Aside0.mk (below_step (mvL2 HB.out GE195.out GE218.out) hb)
                     clear HO_3
                     clear BK195
                     clear BK218
                     clear HB
                     have HO_3 := n0_
                     have HO216 := n1_
                     have BK195 := n2_
                     have BK218 := n3_
                     have HB := n4_
                     clear n0_ n1_ n2_ n3_ n4_
                     (try clear hb)
                     (try clear hb2)
                     (try clear hk)
                     (try clear hi)
                     (try clear ho0)
                     refine hK.out _ _ ⟨(blk_cell BK195.out 0).trans rfl, (blk_cell BK195.out 1).trans rfl, (blk_cell BK195.out 2).trans rfl, (blk_cell BK195.out 3).trans rfl, (blk_cell BK195.out 4).trans rfl, (blk_cell BK195.out 5).trans rfl, (blk_cell BK195.out 6).trans rfl, (blk_cell BK195.out 7).trans rfl, (blk_cell BK195.out 8).trans rfl, ((HB.out.cell (World.block_lt_of_cell? w _ hw211_0)).trans hw211_0), ((HB.out.cell (World.block_lt_of_cell? w _ hw211_1)).trans hw211_1), ((HB.out.cell (World.block_lt_of_cell? w _ hw211_2)).trans hw211_2), ((HB.out.cell (World.block_lt_of_cell? w _ hw211_3)).trans hw211_3), ((HB.out.cell (World.block_lt_of_cell? w _ hw211_4)).trans hw211_4), ((HB.out.cell (World.block_lt_of_cell? w _ hw211_5)).trans hw211_5), ((HB.out.cell (World.block_lt_of_cell? w _ hw211_6)).trans hw211_6)⟩ (fun hHeld => ?_)
                     clear hK K
                     refine norm_ (a' := ?_) ?_ ?_
                     rotate_left
                     ·show Act.put _ (some 114) _ = _
                      simp only [Act.put, List.setIfInBounds_toArray, List.set_cons_zero, List.set_cons_succ, i64_w, i32_w]
                      rfl
                     refine pure_ (i := 11) (N := some 103) (v := ?_) (a' := ?_) #[true, true, true, true, true, true, true, true, true, true, true, true, false, false, true, false, false] rfl rfl (any_of HT_.out (by kernel_rfl)) (fun _ _ _ h => h) (Or.inl ⟨by rfl, ?_⟩) ?_ ?_
                     rotate_left
                     ·intro w'
                      go_simp
                      with_reducible rfl
                     rotate_left
                     ·simp only [Act.put, List.setIfInBounds_toArray, List.set_cons_zero, List.set_cons_succ, i64_w, i32_w]
                      rfl
                     refine pure_ (i := 12) (N := some 115) (v := ?_) (a' := ?_) #[true, true, true, true, true, true, true, true, true, true, true, true, true, false, true, false, false] rfl rfl (any_of HT_.out (by kernel_rfl)) (fun _ _ _ h => h) (Or.inl ⟨by rfl, ?_⟩) ?_ ?_
                     rotate_left
                     ·intro w'
                      go_simp
                      with_reducible rfl
                     rotate_left
                     ·simp only [Act.put, List.setIfInBounds_toArray, List.set_cons_zero, List.set_cons_succ, i64_w, i32_w]
                      rfl
                     refine pure_ (i := 13) (N := some 116) (v := ?_) (a' := ?_) #[true, true, true, true, true, true, true, true, true, true, true, true, true, true, true, false, false] rfl rfl (any_of HT_.out (by kernel_rfl)) (fun _ _ _ h => h) (Or.inl ⟨by rfl, ?_⟩) ?_ ?_
                     rotate_left
                     ·intro w'
                      go_simp
                      with_reducible rfl
                     rotate_left
                     ·simp only [Act.put, List.setIfInBounds_toArray, List.set_cons_zero, List.set_cons_succ, i64_w, i32_w]
                      rfl
                     exact norm_ (by simp only [putAll, Act.put, List.setIfInBounds_toArray, List.set_cons_zero, List.set_cons_succ]) (hCont (v215, gb218) _ ⟨hHeld, (mvR HO216.out), (by (with_reducible repeat (first | apply Kd.S_alloc | apply Kd.S_drewN | apply Kd.S_drew)); exact Kd.S_mono HO_3.out (fun _ hk => hk.2)), (mvB BK195.out), (mvB BK218.out), GW218.out, GE218.out, NB195_218.out, NB218_195.out, (mvL2 HB.out GE195.out GE218.out)⟩)
                   rintro ⟨v215, gb218⟩ w67 ⟨hS_, h0_, h1_, h2_, h3_, h4_, h5_, h6_, h7_, h8_⟩
                   have n0_ : Aside0 (Kd.R k69 69 w67 w.heap.size (fun _ => True) v215 t214) := ⟨h0_⟩
                   have n1_ : Aside0 (Kd.S k42 42 w67 w.heap.size (fun k_ => some k_ ≠ (v215 : Value).ownBlock) v200 t199) := ⟨h1_⟩
                   have n2_ : Aside0 (w67.heap[gb195]? = some (.cells #[.int .i64 a0_0, .int .i64 a0_1, .slice A0_2 l0_2.length c0_2, .string a0_3, .slice (some ad211) l0_4.length c0_4, .int .i64 a0_5, .int .i64 a0_6, .slice A0_7 l0_7.length c0_7, .bool a0_8] 50 (0, 0))) := ⟨h2_⟩
                   have n3_ : Aside0 (w67.heap[gb218]? = some (.cells #[.int .i64 0, .int .i64 0, .slice none 0 0] 40 (0, 0))) := ⟨h3_⟩
                   have n4_ : Aside0 (w.heap.size ≤ gb218) := ⟨h4_⟩
                   have n5_ : Aside0 (w.heap.size ≤ gb218) := ⟨h5_⟩
                   have n6_ : Aside0 (gb195 ≠ gb218) := ⟨h6_⟩
                   have n7_ : Aside0 (gb218 ≠ gb195) := ⟨h7_⟩
                   have n8_ : Aside0 (Below w.heap.size w w67) := ⟨h8_⟩
                   clear HO_3
                   clear BK195
                   clear HB
                   clear h0_ h1_ h2_ h3_ h4_ h5_ h6_ h7_ h8_
                   have HO216 := n0_
                   have HO_3 := n1_
                   have BK195 := n2_
                   have BK218 := n3_
                   have GW218 := n4_
                   have GE218 := n5_
                   have NB195_218 := n6_
                   have NB218_195 := n7_
                   have HB := n8_
                   clear n0_ n1_ n2_ n3_ n4_ n5_ n6_ n7_ n8_
                   have hHeld : w67.cell? ⟨gb195, 0, none⟩ = some (.int .i64 a0_0) ∧ w67.cell? ⟨gb195, 1, none⟩ = some (.int .i64 a0_1) ∧ w67.cell? ⟨gb195, 2, none⟩ = some (.slice A0_2 l0_2.length c0_2) ∧ w67.cell? ⟨gb195, 3, none⟩ = some (.string a0_3) ∧ w67.cell? ⟨gb195, 4, none⟩ = some (.slice (some ad211) l0_4.length c0_4) ∧ w67.cell? ⟨gb195, 5, none⟩ = some (.int .i64 a0_5) ∧ w67.cell? ⟨gb195, 6, none⟩ = some (.int .i64 a0_6) ∧ w67.cell? ⟨gb195, 7, none⟩ = some (.slice A0_7 l0_7.length c0_7) ∧ w67.cell? ⟨gb195, 8, none⟩ = some (.bool a0_8) ∧ w67.cell? (ad211.add ((t207).toNat * 7)) = some (.int .i64 ((rd_T60 l0_4 t207).f0.f0)) ∧ w67.cell? ⟨(ad211.add ((t207).toNat * 7)).block, (ad211.add ((t207).toNat * 7)).off + 1, none⟩ = some (.string ((rd_T60 l0_4 t207).f0.f1)) ∧ w67.cell? ⟨(ad211.add ((t207).toNat * 7)).block, (ad211.add ((t207).toNat * 7)).off + 2, none⟩ = some (.int .i64 ((rd_T60 l0_4 t207).f0.f2)) ∧ w67.cell? ⟨(ad211.add ((t207).toNat * 7)).block, (ad211.add ((t207).toNat * 7)).off + 3, none⟩ = some (.int .i64 ((rd_T60 l0_4 t207).f1)) ∧ w67.cell? ⟨(ad211.add ((t207).toNat * 7)).block, (ad211.add ((t207).toNat * 7)).off + 4, none⟩ = some (.string ((rd_T60 l0_4 t207).f2)) ∧ w67.cell? ⟨(ad211.add ((t207).toNat * 7)).block, (ad211.add ((t207).toNat * 7)).off + 5, none⟩ = some (.int .i64 ((rd_T60 l0_4 t207).f3)) ∧ w67.cell? ⟨(ad211.add ((t207).toNat * 7)).block, (ad211.add ((t207).toNat * 7)).off + 6, none⟩ = some (.int .i64 ((rd_T60 l0_4 t207).f4)) := hS_
                   obtain ⟨Ao70, co70, eo70⟩ := Kd.R_slice HO216.out
                   (first | subst eo70 | (injection eo70 with f1_ f2_ f3_; have f4_ := f1_.symm; have f5_ := f3_.symm; clear f1_ f2_ f3_; subst f4_; subst f5_))
                   refine norm_ (a' := ?_) ?_ ?_
                   rotate_left
                   ·simp only [putAll, Act.put, List.setIfInBounds_toArray, List.set_cons_zero, List.set_cons_succ]
                    rfl
                   refine one_ (i := 15) (N := none) #[true, true, true, true, true, true, true, true, true, true, true, true, true, true, true, true, false] rfl rfl (one_of HT_.out (by kernel_rfl)) (by decide) (fun K hK => ?_)
                   have hs68 : w67.cell? ⟨gb218, 0, none⟩ = some (.int .i64 0) := (blk_cell BK218.out 0).trans rfl
                   have hfs68 := blk_frozen BK218.out 0
                   have hns68_0 := NB195_218.out
                   have hms68_0 := NB218_195.out
                   have hs69 : w67.cell? ⟨gb218, 1, none⟩ = some (.int .i64 0) := (blk_cell BK218.out 1).trans rfl
                   have hfs69 := blk_frozen BK218.out 1
                   have hns69_0 := NB195_218.out
                   have hms69_0 := NB218_195.out
                   have hs71 : w67.cell? ⟨gb218, 2, none⟩ = some (.slice none 0 0) := (blk_cell BK218.out 2).trans rfl
                   have hfs71 := blk_frozen BK218.out 2
                   have hns71_0 := NB195_218.out
                   have hms71_0 := NB218_195.out
                   refine skip_ (w1 := ?_) (by rfl) rfl ?_ ?_
                   rotate_left
                   ·go_simp
                    rfl
                   refine hK.out _ _ ⟨((cell_far (p := ⟨gb218, _, none⟩) NB195_218.out _).trans (((cell_far (p := ⟨gb218, _, none⟩) NB195_218.out _).trans (((cell_far (p := ⟨gb218, _, none⟩) NB195_218.out _).trans (hHeld.1)))))), ((cell_far (p := ⟨gb218, _, none⟩) NB195_218.out _).trans (((cell_far (p := ⟨gb218, _, none⟩) NB195_218.out _).trans (((cell_far (p := ⟨gb218, _, none⟩) NB195_218.out _).trans (hHeld.2.1)))))), ((cell_far (p := ⟨gb218, _, none⟩) NB195_218.out _).trans (((cell_far (p := ⟨gb218, _, none⟩) NB195_218.out _).trans (((cell_far (p := ⟨gb218, _, none⟩) NB195_218.out _).trans (hHeld.2.2.1)))))), ((cell_far (p := ⟨gb218, _, none⟩) NB195_218.out _).trans (((cell_far (p := ⟨gb218, _, none⟩) NB195_218.out _).trans (((cell_far (p := ⟨gb218, _, none⟩) NB195_218.out _).trans (hHeld.2.2.2.1)))))), ((cell_far (p := ⟨gb218, _, none⟩) NB195_218.out _).trans (((cell_far (p := ⟨gb218, _, none⟩) NB195_218.out _).trans (((cell_far (p := ⟨gb218, _, none⟩) NB195_218.out _).trans (hHeld.2.2.2.2.1)))))), ((cell_far (p := ⟨gb218, _, none⟩) NB195_218.out _).trans (((cell_far (p := ⟨gb218, _, none⟩) NB195_218.out _).trans (((cell_far (p := ⟨gb218, _, none⟩) NB195_218.out _).trans (hHeld.2.2.2.2.2.1)))))), ((cell_far (p := ⟨gb218, _, none⟩) NB195_218.out _).trans (((cell_far (p := ⟨gb218, _, none⟩) NB195_218.out _).trans (((cell_far (p := ⟨gb218, _, none⟩) NB195_218.out _).trans (hHeld.2.2.2.2.2.2.1)))))), ((cell_far (p := ⟨gb218, _, none⟩) NB195_218.out _).trans (((cell_far (p := ⟨gb218, _, none⟩) NB195_218.out _).trans (((cell_far (p := ⟨gb218, _, none⟩) NB195_218.out _).trans (hHeld.2.2.2.2.2.2.2.1)))))), ((cell_far (p := ⟨gb218, _, none⟩) NB195_218.out _).trans (((cell_far (p := ⟨gb218, _, none⟩) NB195_218.out _).trans (((cell_far (p := ⟨gb218, _, none⟩) NB195_218.out _).trans (hHeld.2.2.2.2.2.2.2.2.1)))))), ((cell_far (p := ⟨gb218, _, none⟩) (mvF hw211_0 GW218.out) _).trans (((cell_far (p := ⟨gb218, _, none⟩) (mvF hw211_0 GW218.out) _).trans (((cell_far (p := ⟨gb218, _, none⟩) (mvF hw211_0 GW218.out) _).trans (hHeld.2.2.2.2.2.2.2.2.2.1)))))), ((cell_far (p := ⟨gb218, _, none⟩) (mvF hw211_1 GW218.out) _).trans (((cell_far (p := ⟨gb218, _, none⟩) (mvF hw211_1 GW218.out) _).trans (((cell_far (p := ⟨gb218, _, none⟩) (mvF hw211_1 GW218.out) _).trans (hHeld.2.2.2.2.2.2.2.2.2.2.1)))))), ((cell_far (p := ⟨gb218, _, none⟩) (mvF hw211_2 GW218.out) _).trans (((cell_far (p := ⟨gb218, _, none⟩) (mvF hw211_2 GW218.out) _).trans (((cell_far (p := ⟨gb218, _, none⟩) (mvF hw211_2 GW218.out) _).trans (hHeld.2.2.2.2.2.2.2.2.2.2.2.1)))))), ((cell_far (p := ⟨gb218, _, none⟩) (mvF hw211_3 GW218.out) _).trans (((cell_far (p := ⟨gb218, _, none⟩) (mvF hw211_3 GW218.out) _).trans (((cell_far (p := ⟨gb218, _, none⟩) (mvF hw211_3 GW218.out) _).trans (hHeld.2.2.2.2.2.2.2.2.2.2.2.2.1)))))), ((cell_far (p := ⟨gb218, _, none⟩) (mvF hw211_4 GW218.out) _).trans (((cell_far (p := ⟨gb218, _, none⟩) (mvF hw211_4 GW218.out) _).trans (((cell_far (p := ⟨gb218, _, none⟩) (mvF hw211_4 GW218.out) _).trans (hHeld.2.2.2.2.2.2.2.2.2.2.2.2.2.1)))))), ((cell_far (p := ⟨gb218, _, none⟩) (mvF hw211_5 GW218.out) _).trans (((cell_far (p := ⟨gb218, _, none⟩) (mvF hw211_5 GW218.out) _).trans (((cell_far (p := ⟨gb218, _, none⟩) (mvF hw211_5 GW218.out) _).trans (hHeld.2.2.2.2.2.2.2.2.2.2.2.2.2.2.1)))))), ((cell_far (p := ⟨gb218, _, none⟩) (mvF hw211_6 GW218.out) _).trans (((cell_far (p := ⟨gb218, _, none⟩) (mvF hw211_6 GW218.out) _).trans (((cell_far (p := ⟨gb218, _, none⟩) (mvF hw211_6 GW218.out) _).trans (hHeld.2.2.2.2.2.2.2.2.2.2.2.2.2.2.2))))))⟩ (fun hHeld => ?_)
                   clear hK K
                   refine pure_ (i := 16) (N := some 9) (v := ?_) (a' := ?_) #[true, true, true, true, true, true, true, true, true, true, true, true, true, true, true, true, true] rfl rfl (any_of HT_.out (by kernel_rfl)) (fun _ _ _ h => h) (Or.inl ⟨by rfl, ?_⟩) ?_ ?_
                   rotate_left
                   ·intro w'
                    go_simp
                    with_reducible rfl
                   rotate_left
                   ·simp only [Act.put, List.setIfInBounds_toArray, List.set_cons_zero, List.set_cons_succ, i64_w, i32_w]
                    rfl
                   refine done_ (done_of HT_.out (by kernel_rfl)) ?_
                   obtain ⟨Ao72, co72, eo72⟩ := Kd.S_slice HO_3.out
                   subst eo72
                   try go_wp2_with (first | (go_at_call 16; (with_reducible refine (ententelaw27_count.calls kj41 _ _ t199 false t219 _ ?side1 ?side2 A61.out).mono ?_); (case side1 => refine (Kd.S_reads' (e := 42) (base := w.heap.size) (ok := fun k_ => some k_ ≠ (.slice Ao70 t214.length co70 : Value).ownBlock) (n := t199.length) (c := co72) ?_).2.2; exact (by (with_reducible repeat (first | apply Kd.S_alloc | apply Kd.S_drewN | apply Kd.S_drew)); exact (Kd.S_mono (Kd.S_far (p := ⟨gb218, 2, none⟩) (Kd.S_far (p := ⟨gb218, 1, none⟩) (Kd.S_far (p := ⟨gb218, 0, none⟩) (Kd.S_types HO_3.out BK218.out (by decide)) (fun _ hk => hk.2) (.int .i64 t212)) (fun _ hk => hk.2) (.int .i64 t213)) (fun _ hk => hk.2) (.slice Ao70 t214.length co70)) (fun _ h_ => h_.1)))); (case side2 => exact (Kd.S_reads' HO_3.out).2.1); rintro e w' ⟨rfl, ⟨nd, rfl⟩⟩) | (go_at_call 6; (with_reducible refine (ententelaw27_awake.calls  t220 _ A63.out).mono ?_); rintro e w73 ⟨rfl, hb⟩; have n0_ := Aside0.mk (Kd.S_below (by (with_reducible repeat (first | apply Kd.S_alloc | apply Kd.S_drewN | apply Kd.S_drew)); exact (Kd.S_mono (Kd.S_far (p := ⟨gb218, 2, none⟩) (Kd.S_far (p := ⟨gb218, 1, none⟩) (Kd.S_far (p := ⟨gb218, 0, none⟩) (Kd.S_types HO_3.out BK218.out (by decide)) (fun _ hk => hk.2) (.int .i64 t212)) (fun _ hk => hk.2) (.int .i64 t213)) (fun _ hk => hk.2) (.slice Ao70 t214.length co70)) (fun _ h_ => h_.1))) hb); have n1_ := Aside0.mk (Kd.R_below (by (with_reducible repeat (first | apply Kd.R_alloc | apply Kd.R_drewN | apply Kd.R_drew)); exact (Kd.R_mono (Kd.R_far (p := ⟨gb218, 2, none⟩) (Kd.R_far (p := ⟨gb218, 1, none⟩) (Kd.R_far (p := ⟨gb218, 0, none⟩) (Kd.R_types HO216.out BK218.out (by decide)) (fun _ hk => hk.2) (.int .i64 t212)) (fun _ hk => hk.2) (.int .i64 t213)) (fun _ hk => hk.2) (.slice Ao70 t214.length co70)) (fun _ h_ => h_.1))) hb); have n2_ := Aside0.mk (blk_below (g := gb195) (o := .cells #[.int .i64 a0_0, .int .i64 a0_1, .slice A0_2 l0_2.length c0_2, .string a0_3, .slice (some ad211) l0_4.length c0_4, .int .i64 a0_5, .int .i64 a0_6, .slice A0_7 l0_7.length c0_7, .bool a0_8] 50 (0, 0)) (by (with_reducible repeat (first | refine blk_drewN ?_ _ | refine blk_drew ?_ | refine blk_alloc ?_ _)); refine blk_far ?_ NB195_218.out _; (with_reducible repeat (first | refine blk_drewN ?_ _ | refine blk_drew ?_ | refine blk_alloc ?_ _)); refine blk_far ?_ NB195_218.out _; (with_reducible repeat (first | refine blk_drewN ?_ _ | refine blk_drew ?_ | refine blk_alloc ?_ _)); refine blk_far ?_ NB195_218.out _; (with_reducible repeat (first | refine blk_drewN ?_ _ | refine blk_drew ?_ | refine blk_alloc ?_ _)); exact BK195.out) hb); have n3_ := Aside0.mk (blk_below (g := gb218) (o := .cells #[.int .i64 t212, .int .i64 t213, .slice Ao70 t214.length co70] 40 (0, 0)) (by (with_reducible repeat (first | refine blk_drewN ?_ _ | refine blk_drew ?_ | refine blk_alloc ?_ _)); refine blk_put (cs := #[.int .i64 t212, .int .i64 t213, .slice none 0 0]) ?_ 2 _ rfl; (with_reducible repeat (first | refine blk_drewN ?_ _ | refine blk_drew ?_ | refine blk_alloc ?_ _)); refine blk_put (cs := #[.int .i64 t212, .int .i64 0, .slice none 0 0]) ?_ 1 _ rfl; (with_reducible repeat (first | refine blk_drewN ?_ _ | refine blk_drew ?_ | refine blk_alloc ?_ _)); refine blk_put (cs := #[.int .i64 0, .int .i64 0, .slice none 0 0]) ?_ 0 _ rfl; (with_reducible repeat (first | refine blk_drewN ?_ _ | refine blk_drew ?_ | refine blk_alloc ?_ _)); exact BK218.out) hb); have n4_ := Aside0.mk (below_step (mvL2 HB.out GE195.out GE218.out) hb); clear HO_3; clear HO216; clear BK195; clear BK218; clear HB; have HO_3 := n0_; have HO216 := n1_; have BK195 := n2_; have BK218 := n3_; have HB := n4_; clear n0_ n1_ n2_ n3_ n4_; (try clear hb); (try clear hb2); (try clear hk); (try clear hi)))
                   go_ret
                   exact ⟨by first | rfl | (simp [errW_none, errW_some] <;> rfl) | (simp [*, errW_none, errW_some] <;> rfl) | (simp only [h_bne_nil, h_beq_nil] <;> rfl), by repeat (first | (with_reducible first | exact HB.out | apply below_alloc | apply pw_below_drewN | apply below_drew1 | refine below_set ?_ GE195.out | refine below_set ?_ GE218.out) | exact HB.out)⟩
                  ·rw [if_neg c62] at H
                   have c62b0 : decide (0 < t219) = false := decide_eq_false c62
                   clear c62
                   obtain rfl := Option.some.inj H
                   try go_wp2
                   have n0_ := Aside0.mk (Kd.S_drew HO_3.out)
                   have n1_ := Aside0.mk (blk_drew BK195.out)
                   have n2_ := Aside0.mk (below_drew1 HB.out)
                   clear HO_3
                   clear BK195
                   clear HB
                   have HO_3 := n0_
                   have BK195 := n1_
                   have HB := n2_
                   clear n0_ n1_ n2_
                   have p211 : 0 ≤ (t207 : Int) := of_decide_eq_true (by first | (with_reducible assumption) | assumption)
                   have q211 : t207 < (l0_4.length : Int) := of_decide_eq_true (by first | (with_reducible assumption) | assumption)
                   obtain ⟨ad211, e211, hx211_0, hx211_1, hx211_2, hx211_3, hx211_4, hx211_5, hx211_6⟩ := at_T60 HR0_4.out t207 p211 q211
                   have hw211_6 := hx211_6
                   have hw211_5 := hx211_5
                   have hw211_4 := hx211_4
                   have hw211_3 := hx211_3
                   have hw211_2 := hx211_2
                   have hw211_1 := hx211_1
                   have hw211_0 := hx211_0
                   cases e211
                   replace hx211_0 := (HB.out.cell (World.block_lt_of_cell? w _ hx211_0)).trans hx211_0
                   replace hx211_1 := (HB.out.cell (World.block_lt_of_cell? w _ hx211_1)).trans hx211_1
                   replace hx211_2 := (HB.out.cell (World.block_lt_of_cell? w _ hx211_2)).trans hx211_2
                   replace hx211_3 := (HB.out.cell (World.block_lt_of_cell? w _ hx211_3)).trans hx211_3
                   replace hx211_4 := (HB.out.cell (World.block_lt_of_cell? w _ hx211_4)).trans hx211_4
                   replace hx211_5 := (HB.out.cell (World.block_lt_of_cell? w _ hx211_5)).trans hx211_5
                   replace hx211_6 := (HB.out.cell (World.block_lt_of_cell? w _ hx211_6)).trans hx211_6
                   replace p211 := eq_true p211
                   replace q211 := eq_true q211
                   refine start_ (n := 17) (S := fun w' => w'.cell? ⟨gb195, 0, none⟩ = some (.int .i64 a0_0) ∧ w'.cell? ⟨gb195, 1, none⟩ = some (.int .i64 a0_1) ∧ w'.cell? ⟨gb195, 2, none⟩ = some (.slice A0_2 l0_2.length c0_2) ∧ w'.cell? ⟨gb195, 3, none⟩ = some (.string a0_3) ∧ w'.cell? ⟨gb195, 4, none⟩ = some (.slice (some ad211) l0_4.length c0_4) ∧ w'.cell? ⟨gb195, 5, none⟩ = some (.int .i64 a0_5) ∧ w'.cell? ⟨gb195, 6, none⟩ = some (.int .i64 a0_6) ∧ w'.cell? ⟨gb195, 7, none⟩ = some (.slice A0_7 l0_7.length c0_7) ∧ w'.cell? ⟨gb195, 8, none⟩ = some (.bool a0_8) ∧ w'.cell? (ad211.add ((t207).toNat * 7)) = some (.int .i64 ((rd_T60 l0_4 t207).f0.f0)) ∧ w'.cell? ⟨(ad211.add ((t207).toNat * 7)).block, (ad211.add ((t207).toNat * 7)).off + 1, none⟩ = some (.string ((rd_T60 l0_4 t207).f0.f1)) ∧ w'.cell? ⟨(ad211.add ((t207).toNat * 7)).block, (ad211.add ((t207).toNat * 7)).off + 2, none⟩ = some (.int .i64 ((rd_T60 l0_4 t207).f0.f2)) ∧ w'.cell? ⟨(ad211.add ((t207).toNat * 7)).block, (ad211.add ((t207).toNat * 7)).off + 3, none⟩ = some (.int .i64 ((rd_T60 l0_4 t207).f1)) ∧ w'.cell? ⟨(ad211.add ((t207).toNat * 7)).block, (ad211.add ((t207).toNat * 7)).off + 4, none⟩ = some (.string ((rd_T60 l0_4 t207).f2)) ∧ w'.cell? ⟨(ad211.add ((t207).toNat * 7)).block, (ad211.add ((t207).toNat * 7)).off + 5, none⟩ = some (.int .i64 ((rd_T60 l0_4 t207).f3)) ∧ w'.cell? ⟨(ad211.add ((t207).toNat * 7)).block, (ad211.add ((t207).toNat * 7)).off + 6, none⟩ = some (.int .i64 ((rd_T60 l0_4 t207).f4))) (ds := []) #[false, false, false, false, false, false, false, false, false, false, false, false, false, false, false, false, false] (by kernel_rfl) rfl rfl ⟨(blk_cell BK195.out 0).trans rfl, (blk_cell BK195.out 1).trans rfl, (blk_cell BK195.out 2).trans rfl, (blk_cell BK195.out 3).trans rfl, (blk_cell BK195.out 4).trans rfl, (blk_cell BK195.out 5).trans rfl, (blk_cell BK195.out 6).trans rfl, (blk_cell BK195.out 7).trans rfl, (blk_cell BK195.out 8).trans rfl, ((HB.out.cell (World.block_lt_of_cell? w _ hw211_0)).trans hw211_0), ((HB.out.cell (World.block_lt_of_cell? w _ hw211_1)).trans hw211_1), ((HB.out.cell (World.block_lt_of_cell? w _ hw211_2)).trans hw211_2), ((HB.out.cell (World.block_lt_of_cell? w _ hw211_3)).trans hw211_3), ((HB.out.cell (World.block_lt_of_cell? w _ hw211_4)).trans hw211_4), ((HB.out.cell (World.block_lt_of_cell? w _ hw211_5)).trans hw211_5), ((HB.out.cell (World.block_lt_of_cell? w _ hw211_6)).trans hw211_6)⟩ (fun hHeld => ?_); refine with_tabW ententelaw27_DuesNeeded.tab16 ententelaw27_DuesNeeded.bits16 (fun HT_ HW_ => ?_)
                   generalize wc.drew = w74 at HO_3 BK195 HB hx211_0 hx211_1 hx211_2 hx211_3 hx211_4 hx211_5 hx211_6 hHeld ⊢
                   refine pure_ (i := 0) (N := some 104) (v := ?_) (a' := ?_) #[true, false, false, false, false, false, false, false, false, false, false, false, false, false, false, false, false] rfl rfl (any_of HT_.out (by kernel_rfl)) (fun _ _ _ h => h) (Or.inl ⟨by rfl, ?_⟩) ?_ ?_
                   rotate_left
                   ·intro w'
                    go_simp
                    with_reducible rfl
                   rotate_left
                   ·simp only [Act.put, List.setIfInBounds_toArray, List.set_cons_zero, List.set_cons_succ, i64_w, i32_w]
                    rfl
                   refine pure_ (i := 2) (N := some 106) (v := ?_) (a' := ?_) #[true, false, true, false, false, false, false, false, false, false, false, false, false, false, false, false, false] rfl rfl (any_of HT_.out (by kernel_rfl)) (fun _ _ _ h => h) (Or.inl ⟨by rfl, ?_⟩) ?_ ?_
                   rotate_left
                   ·intro w'
                    go_simp
                    with_reducible rfl
                   rotate_left
                   ·simp only [Act.put, List.setIfInBounds_toArray, List.set_cons_zero, List.set_cons_succ, i64_w, i32_w]
                    rfl
                   refine pure_ (i := 3) (N := some 107) (v := ?_) (a' := ?_) #[true, false, true, true, false, false, false, false, false, false, false, false, false, false, false, false, false] rfl rfl (any_of HT_.out (by kernel_rfl)) (fun _ _ _ h => h) (Or.inl ⟨by rfl, ?_⟩) ?_ ?_
                   rotate_left
                   ·intro w'
                    go_simp
                    with_reducible rfl
                   rotate_left
                   ·simp only [Act.put, List.setIfInBounds_toArray, List.set_cons_zero, List.set_cons_succ, i64_w, i32_w]
                    rfl
                   refine pure_ (i := 4) (N := some 108) (v := ?_) (a' := ?_) #[true, false, true, true, true, false, false, false, false, false, false, false, false, false, false, false, false] rfl rfl (any_of HT_.out (by kernel_rfl)) (fun _ _ _ h => h) (Or.inl ⟨by rfl, ?_⟩) ?_ ?_
                   rotate_left
                   ·intro w'
                    go_simp
                    with_reducible rfl
                   rotate_left
                   ·simp only [Act.put, List.setIfInBounds_toArray, List.set_cons_zero, List.set_cons_succ, i64_w, i32_w]
                    rfl
                   refine pure_ (i := 6) (N := some 110) (v := ?_) (a' := ?_) #[true, false, true, true, true, false, true, false, false, false, false, false, false, false, false, false, false] rfl rfl (any_of HT_.out (by kernel_rfl)) (fun _ _ _ h => h) (Or.inl ⟨by rfl, ?_⟩) ?_ ?_
                   rotate_left
                   ·intro w'
                    go_simp
                    with_reducible rfl
                   rotate_left
                   ·simp only [Act.put, List.setIfInBounds_toArray, List.set_cons_zero, List.set_cons_succ, i64_w, i32_w]
                    rfl
                   refine take_ (i := 1) (N := some 105) (v := ?_) (a' := ?_) #[true, true, true, true, true, false, true, false, false, false, false, false, false, false, false, false, false] rfl rfl (take_ofW HT_.out HW_.out (by kernel_rfl)) (fun _ _ _ h => h) (Or.inl ⟨by rfl, ?_⟩) hHeld ?_ ?_
                   rotate_left
                   ·rintro w' ⟨s0, s1, s2, s3, s4, s5, s6, s7, s8, s9, s10, s11, s12, s13, s14, s15⟩
                    go_simp
                    with_reducible rfl
                   rotate_left
                   ·simp only [Act.put, List.setIfInBounds_toArray, List.set_cons_zero, List.set_cons_succ, i64_w, i32_w]
                    rfl
                   refine take_ (i := 5) (N := some 109) (v := ?_) (a' := ?_) #[true, true, true, true, true, true, true, false, false, false, false, false, false, false, false, false, false] rfl rfl (take_ofW HT_.out HW_.out (by kernel_rfl)) (fun _ _ _ h => h) (Or.inl ⟨by rfl, ?_⟩) hHeld ?_ ?_
                   rotate_left
                   ·rintro w' ⟨s0, s1, s2, s3, s4, s5, s6, s7, s8, s9, s10, s11, s12, s13, s14, s15⟩
                    go_simp
                    with_reducible rfl
                   rotate_left
                   ·simp only [Act.put, List.setIfInBounds_toArray, List.set_cons_zero, List.set_cons_succ, i64_w, i32_w]
                    rfl
                   refine pure_ (i := 7) (N := some 111) (v := ?_) (a' := ?_) #[true, true, true, true, true, true, true, true, false, false, false, false, false, false, false, false, false] rfl rfl (any_of HT_.out (by kernel_rfl)) (fun _ _ _ h => h) (Or.inl ⟨by rfl, ?_⟩) ?_ ?_
                   rotate_left
                   ·intro w'
                    go_simp
                    with_reducible rfl
                   rotate_left
                   ·simp only [Act.put, List.setIfInBounds_toArray, List.set_cons_zero, List.set_cons_succ, i64_w, i32_w]
                    rfl
                   refine pure_ (i := 8) (N := some 112) (v := ?_) (a' := ?_) #[true, true, true, true, true, true, true, true, true, false, false, false, false, false, false, false, false] rfl rfl (any_of HT_.out (by kernel_rfl)) (fun _ _ _ h => h) (Or.inl ⟨by rfl, ?_⟩) ?_ ?_
                   rotate_left
                   ·intro w'
                    go_simp
                    with_reducible rfl
                   rotate_left
                   ·simp only [Act.put, List.setIfInBounds_toArray, List.set_cons_zero, List.set_cons_succ, i64_w, i32_w]
                    rfl
                   refine take_ (i := 9) (N := some 113) (v := ?_) (a' := ?_) #[true, true, true, true, true, true, true, true, true, true, false, false, false, false, false, false, false] rfl rfl (take_ofW HT_.out HW_.out (by kernel_rfl)) (fun _ _ _ h => h) (Or.inl ⟨by rfl, ?_⟩) hHeld ?_ ?_
                   rotate_left
                   ·rintro w' ⟨s0, s1, s2, s3, s4, s5, s6, s7, s8, s9, s10, s11, s12, s13, s14, s15⟩
                    go_simp
                    with_reducible rfl
                   rotate_left
                   ·simp only [Act.put, List.setIfInBounds_toArray, List.set_cons_zero, List.set_cons_succ, i64_w, i32_w]
                    rfl
                   refine join_ (σ := Value × Nat) 2 #[true, true, true, true, true, true, true, true, true, true, true, true, true, true, true, false, false] (fun s_ => [(114, .tuple #[.agg #[.int .i64 t212, .int .i64 t213, s_.1], .int .i64 t217]), (8, .pointer (some ⟨s_.2, 0, none⟩)), (103, .tuple #[.agg #[.int .i64 t212, .int .i64 t213, s_.1], .int .i64 t217]), (115, .agg #[.int .i64 t212, .int .i64 t213, s_.1]), (116, .int .i64 t217)]) (fun s_ w' => (w'.cell? ⟨gb195, 0, none⟩ = some (.int .i64 a0_0) ∧ w'.cell? ⟨gb195, 1, none⟩ = some (.int .i64 a0_1) ∧ w'.cell? ⟨gb195, 2, none⟩ = some (.slice A0_2 l0_2.length c0_2) ∧ w'.cell? ⟨gb195, 3, none⟩ = some (.string a0_3) ∧ w'.cell? ⟨gb195, 4, none⟩ = some (.slice (some ad211) l0_4.length c0_4) ∧ w'.cell? ⟨gb195, 5, none⟩ = some (.int .i64 a0_5) ∧ w'.cell? ⟨gb195, 6, none⟩ = some (.int .i64 a0_6) ∧ w'.cell? ⟨gb195, 7, none⟩ = some (.slice A0_7 l0_7.length c0_7) ∧ w'.cell? ⟨gb195, 8, none⟩ = some (.bool a0_8) ∧ w'.cell? (ad211.add ((t207).toNat * 7)) = some (.int .i64 ((rd_T60 l0_4 t207).f0.f0)) ∧ w'.cell? ⟨(ad211.add ((t207).toNat * 7)).block, (ad211.add ((t207).toNat * 7)).off + 1, none⟩ = some (.string ((rd_T60 l0_4 t207).f0.f1)) ∧ w'.cell? ⟨(ad211.add ((t207).toNat * 7)).block, (ad211.add ((t207).toNat * 7)).off + 2, none⟩ = some (.int .i64 ((rd_T60 l0_4 t207).f0.f2)) ∧ w'.cell? ⟨(ad211.add ((t207).toNat * 7)).block, (ad211.add ((t207).toNat * 7)).off + 3, none⟩ = some (.int .i64 ((rd_T60 l0_4 t207).f1)) ∧ w'.cell? ⟨(ad211.add ((t207).toNat * 7)).block, (ad211.add ((t207).toNat * 7)).off + 4, none⟩ = some (.string ((rd_T60 l0_4 t207).f2)) ∧ w'.cell? ⟨(ad211.add ((t207).toNat * 7)).block, (ad211.add ((t207).toNat * 7)).off + 5, none⟩ = some (.int .i64 ((rd_T60 l0_4 t207).f3)) ∧ w'.cell? ⟨(ad211.add ((t207).toNat * 7)).block, (ad211.add ((t207).toNat * 7)).off + 6, none⟩ = some (.int .i64 ((rd_T60 l0_4 t207).f4))) ∧ (Kd.R k69 69 w' w.heap.size (fun _ => True) s_.1 t214) ∧ (Kd.S k42 42 w' w.heap.size (fun k_ => some k_ ≠ (s_.1 : Value).ownBlock) v200 t199) ∧ (w'.heap[gb195]? = some (.cells #[.int .i64 a0_0, .int .i64 a0_1, .slice A0_2 l0_2.length c0_2, .string a0_3, .slice (some ad211) l0_4.length c0_4, .int .i64 a0_5, .int .i64 a0_6, .slice A0_7 l0_7.length c0_7, .bool a0_8] 50 (0, 0))) ∧ (w'.heap[s_.2]? = some (.cells #[.int .i64 0, .int .i64 0, .slice none 0 0] 40 (0, 0))) ∧ (w.heap.size ≤ s_.2) ∧ (w.heap.size ≤ s_.2) ∧ (gb195 ≠ s_.2) ∧ (s_.2 ≠ gb195) ∧ (Below w.heap.size w w')) ?_ ?_
                   rotate_left
                   ·intro hCont
                    refine two_ (i := 10) (j := 14) (Ni := some 114) (Nj := some 8) #[true, true, true, true, true, true, true, true, true, true, true, false, false, false, false, false, false] #[true, true, true, true, true, true, true, true, true, true, false, false, false, false, true, false, false] rfl rfl rfl rfl (two_of HT_.out (by kernel_rfl)) (by decide) (by decide) (fun K hK => ?_) (fun K hK => ?_)
                    ·skip
                     refine goes_ Tryd.func19 (by kernel_rfl) rfl #[.agg #[.int .i64 a0_0, .int .i64 a0_1, .slice A0_2 l0_2.length c0_2], .int .i64 t207, .int .i64 ((rd_T60 l0_4 t207).f1)] (by rfl) rfl rfl (by (try simp only [List.map_toArray, List.map_cons, List.map_nil]); first | done | rfl | (simp only [List.length_drop, List.length_take]; rfl)) ?_
                     with_reducible refine (ident_Child.calls a0_0 a0_1 _ _ l0_2 t207 ((rd_T60 l0_4 t207).f1) t212 t213 t214 t217 _ ?side1 ?side2 A59.out).mono ?_
                     (case side1 => repeat (first | exact (Kd.C_below HR0_2.out HB.out) | (with_reducible refine Kd.C_alloc ?_ _) | (with_reducible refine Kd.C_drewN ?_ _) | (with_reducible refine Kd.C_drew ?_)))
                     (case side2 => exact HC0_2.out)
                     rintro e w75 ⟨v215, rfl, ho0, hb⟩
                     refine ⟨_, rfl, ?_⟩
                     have n0_ := Aside0.mk (Kd.S_elder' (mvS HO_3.out) (Kd.R_base ho0) hb)
                     have n1_ := Aside0.mk (Kd.R_lower ho0 (below_size (mvL1 HB.out GE195.out)))
                     have n2_ := Aside0.mk (blk_below (g := gb195) (o := .cells #[.int .i64 a0_0, .int .i64 a0_1, .slice A0_2 l0_2.length c0_2, .string a0_3, .slice (some ad211) l0_4.length c0_4, .int .i64 a0_5, .int .i64 a0_6, .slice A0_7 l0_7.length c0_7, .bool a0_8] 50 (0, 0)) (mvB BK195.out) hb)
                     have n3_ := Aside0.mk (below_step (mvL1 HB.out GE195.out) hb)
                     clear HO_3
                     clear BK195
                     clear HB
                     have HO_3 := n0_
                     have HO216 := n1_
                     have BK195 := n2_
                     have HB := n3_
                     clear n0_ n1_ n2_ n3_
                     (try clear hb)
                     (try clear hb2)
                     (try clear hk)
                     (try clear hi)
                     (try clear ho0)
                     refine hK.out _ _ ⟨(blk_cell BK195.out 0).trans rfl, (blk_cell BK195.out 1).trans rfl, (blk_cell BK195.out 2).trans rfl, (blk_cell BK195.out 3).trans rfl, (blk_cell BK195.out 4).trans rfl, (blk_cell BK195.out 5).trans rfl, (blk_cell BK195.out 6).trans rfl, (blk_cell BK195.out 7).trans rfl, (blk_cell BK195.out 8).trans rfl, ((HB.out.cell (World.block_lt_of_cell? w _ hw211_0)).trans hw211_0), ((HB.out.cell (World.block_lt_of_cell? w _ hw211_1)).trans hw211_1), ((HB.out.cell (World.block_lt_of_cell? w _ hw211_2)).trans hw211_2), ((HB.out.cell (World.block_lt_of_cell? w _ hw211_3)).trans hw211_3), ((HB.out.cell (World.block_lt_of_cell? w _ hw211_4)).trans hw211_4), ((HB.out.cell (World.block_lt_of_cell? w _ hw211_5)).trans hw211_5), ((HB.out.cell (World.block_lt_of_cell? w _ hw211_6)).trans hw211_6)⟩ (fun hHeld => ?_)
                     clear hK K
                     refine norm_ (a' := ?_) ?_ ?_
                     rotate_left
                     ·show Act.put _ (some 114) _ = _
                      simp only [Act.put, List.setIfInBounds_toArray, List.set_cons_zero, List.set_cons_succ, i64_w, i32_w]
                      rfl
                     refine pure_ (i := 11) (N := some 103) (v := ?_) (a' := ?_) #[true, true, true, true, true, true, true, true, true, true, true, true, false, false, false, false, false] rfl rfl (any_of HT_.out (by kernel_rfl)) (fun _ _ _ h => h) (Or.inl ⟨by rfl, ?_⟩) ?_ ?_
                     rotate_left
                     ·intro w'
                      go_simp
                      with_reducible rfl
                     rotate_left
                     ·simp only [Act.put, List.setIfInBounds_toArray, List.set_cons_zero, List.set_cons_succ, i64_w, i32_w]
                      rfl
                     refine pure_ (i := 12) (N := some 115) (v := ?_) (a' := ?_) #[true, true, true, true, true, true, true, true, true, true, true, true, true, false, false, false, false] rfl rfl (any_of HT_.out (by kernel_rfl)) (fun _ _ _ h => h) (Or.inl ⟨by rfl, ?_⟩) ?_ ?_
                     rotate_left
                     ·intro w'
                      go_simp
                      with_reducible rfl
                     rotate_left
                     ·simp only [Act.put, List.setIfInBounds_toArray, List.set_cons_zero, List.set_cons_succ, i64_w, i32_w]
                      rfl
                     refine pure_ (i := 13) (N := some 116) (v := ?_) (a' := ?_) #[true, true, true, true, true, true, true, true, true, true, true, true, true, true, false, false, false] rfl rfl (any_of HT_.out (by kernel_rfl)) (fun _ _ _ h => h) (Or.inl ⟨by rfl, ?_⟩) ?_ ?_
                     rotate_left
                     ·intro w'
                      go_simp
                      with_reducible rfl
                     rotate_left
                     ·simp only [Act.put, List.setIfInBounds_toArray, List.set_cons_zero, List.set_cons_succ, i64_w, i32_w]
                      rfl
                     refine one_ (i := 14) (N := some 8) #[true, true, true, true, true, true, true, true, true, true, true, true, true, true, true, false, false] rfl rfl (one_of HT_.out (by kernel_rfl)) (by decide) (fun K hK => ?_)
                     refine box_step ?hg (N := 8) ?hd (cs := #[.int .i64 0, .int .i64 0, .slice none 0 0]) (t := 40) ?hr ?_; (case hd => rfl); (case hg => rfl); (case hr => first | (go_simp; done) | (go_simp; rfl))
                     intro gb218 hg w76 hbox hb
                     have n0_ := Aside0.mk (Kd.S_below (mvS HO_3.out) hb)
                     have n1_ := Aside0.mk (Kd.R_below (mvR HO216.out) hb)
                     have n2_ := Aside0.mk (blk_below (g := gb195) (o := .cells #[.int .i64 a0_0, .int .i64 a0_1, .slice A0_2 l0_2.length c0_2, .string a0_3, .slice (some ad211) l0_4.length c0_4, .int .i64 a0_5, .int .i64 a0_6, .slice A0_7 l0_7.length c0_7, .bool a0_8] 50 (0, 0)) (mvB BK195.out) hb)
                     have n3_ := Aside0.mk (below_step (mvL1 HB.out GE195.out) hb)
                     have n4_ := Aside0.mk (hbox)
                     have n5_ := Aside0.mk ((by rw [hg]; exact (below_size (mvL1 HB.out GE195.out)) : w.heap.size ≤ gb218))
                     have n6_ := Aside0.mk ((by rw [hg]; exact (below_size (mvL1 HB.out GE195.out)) : w.heap.size ≤ gb218))
                     have n7_ := Aside0.mk ((by rw [hg]; exact Nat.ne_of_lt (blk_lt (g := gb195) (o := .cells #[.int .i64 a0_0, .int .i64 a0_1, .slice A0_2 l0_2.length c0_2, .string a0_3, .slice (some ad211) l0_4.length c0_4, .int .i64 a0_5, .int .i64 a0_6, .slice A0_7 l0_7.length c0_7, .bool a0_8] 50 (0, 0)) (mvB BK195.out)) : gb195 ≠ gb218))
                     have n8_ := Aside0.mk ((by rw [hg]; exact Nat.ne_of_gt (blk_lt (g := gb195) (o := .cells #[.int .i64 a0_0, .int .i64 a0_1, .slice A0_2 l0_2.length c0_2, .string a0_3, .slice (some ad211) l0_4.length c0_4, .int .i64 a0_5, .int .i64 a0_6, .slice A0_7 l0_7.length c0_7, .bool a0_8] 50 (0, 0)) (mvB BK195.out)) : gb218 ≠ gb195))
                     clear HO_3
                     clear HO216
                     clear BK195
                     clear HB
                     have HO_3 := n0_
                     have HO216 := n1_
                     have BK195 := n2_
                     have HB := n3_
                     have BK218 := n4_
                     have GW218 := n5_
                     have GE218 := n6_
                     have NB195_218 := n7_
                     have NB218_195 := n8_
                     clear n0_ n1_ n2_ n3_ n4_ n5_ n6_ n7_ n8_
                     clear hb hbox hg
                     refine hK.out _ _ ⟨(blk_cell BK195.out 0).trans rfl, (blk_cell BK195.out 1).trans rfl, (blk_cell BK195.out 2).trans rfl, (blk_cell BK195.out 3).trans rfl, (blk_cell BK195.out 4).trans rfl, (blk_cell BK195.out 5).trans rfl, (blk_cell BK195.out 6).trans rfl, (blk_cell BK195.out 7).trans rfl, (blk_cell BK195.out 8).trans rfl, ((HB.out.cell (World.block_lt_of_cell? w _ hw211_0)).trans hw211_0), ((HB.out.cell (World.block_lt_of_cell? w _ hw211_1)).trans hw211_1), ((HB.out.cell (World.block_lt_of_cell? w _ hw211_2)).trans hw211_2), ((HB.out.cell (World.block_lt_of_cell? w _ hw211_3)).trans hw211_3), ((HB.out.cell (World.block_lt_of_cell? w _ hw211_4)).trans hw211_4), ((HB.out.cell (World.block_lt_of_cell? w _ hw211_5)).trans hw211_5), ((HB.out.cell (World.block_lt_of_cell? w _ hw211_6)).trans hw211_6)⟩ (fun hHeld => ?_)
                     clear hK K
                     refine norm_ (a' := ?_) ?_ ?_
                     rotate_left
                     ·show Act.put _ (some 8) _ = _
                      simp only [Act.put, List.setIfInBounds_toArray, List.set_cons_zero, List.set_cons_succ, i64_w, i32_w]
                      rfl
                     exact norm_ (by simp only [putAll, Act.put, List.setIfInBounds_toArray, List.set_cons_zero, List.set_cons_succ]) (hCont (v215, gb218) _ ⟨hHeld, (mvR HO216.out), (by (with_reducible repeat (first | apply Kd.S_alloc | apply Kd.S_drewN | apply Kd.S_drew)); exact Kd.S_mono HO_3.out (fun _ hk => hk.2)), (mvB BK195.out), (mvB BK218.out), GW218.out, GE218.out, NB195_218.out, NB218_195.out, (mvL2 HB.out GE195.out GE218.out)⟩)
                    ·skip
                     refine box_step ?hg (N := 8) ?hd (cs := #[.int .i64 0, .int .i64 0, .slice none 0 0]) (t := 40) ?hr ?_; (case hd => rfl); (case hg => rfl); (case hr => first | (go_simp; done) | (go_simp; rfl))
                     intro gb218 hg w75 hbox hb
                     have n0_ := Aside0.mk (Kd.S_below (mvS HO_3.out) hb)
                     have n1_ := Aside0.mk (blk_below (g := gb195) (o := .cells #[.int .i64 a0_0, .int .i64 a0_1, .slice A0_2 l0_2.length c0_2, .string a0_3, .slice (some ad211) l0_4.length c0_4, .int .i64 a0_5, .int .i64 a0_6, .slice A0_7 l0_7.length c0_7, .bool a0_8] 50 (0, 0)) (mvB BK195.out) hb)
                     have n2_ := Aside0.mk (below_step (mvL1 HB.out GE195.out) hb)
                     have n3_ := Aside0.mk (hbox)
                     have n4_ := Aside0.mk ((by rw [hg]; exact (below_size (mvL1 HB.out GE195.out)) : w.heap.size ≤ gb218))
                     have n5_ := Aside0.mk ((by rw [hg]; exact (below_size (mvL1 HB.out GE195.out)) : w.heap.size ≤ gb218))
                     have n6_ := Aside0.mk ((by rw [hg]; exact Nat.ne_of_lt (blk_lt (g := gb195) (o := .cells #[.int .i64 a0_0, .int .i64 a0_1, .slice A0_2 l0_2.length c0_2, .string a0_3, .slice (some ad211) l0_4.length c0_4, .int .i64 a0_5, .int .i64 a0_6, .slice A0_7 l0_7.length c0_7, .bool a0_8] 50 (0, 0)) (mvB BK195.out)) : gb195 ≠ gb218))
                     have n7_ := Aside0.mk ((by rw [hg]; exact Nat.ne_of_gt (blk_lt (g := gb195) (o := .cells #[.int .i64 a0_0, .int .i64 a0_1, .slice A0_2 l0_2.length c0_2, .string a0_3, .slice (some ad211) l0_4.length c0_4, .int .i64 a0_5, .int .i64 a0_6, .slice A0_7 l0_7.length c0_7, .bool a0_8] 50 (0, 0)) (mvB BK195.out)) : gb218 ≠ gb195))
                     clear HO_3
                     clear BK195
                     clear HB
                     have HO_3 := n0_
                     have BK195 := n1_
                     have HB := n2_
                     have BK218 := n3_
                     have GW218 := n4_
                     have GE218 := n5_
                     have NB195_218 := n6_
                     have NB218_195 := n7_
                     clear n0_ n1_ n2_ n3_ n4_ n5_ n6_ n7_
                     clear hb hbox hg
                     refine hK.out _ _ ⟨(blk_cell BK195.out 0).trans rfl, (blk_cell BK195.out 1).trans rfl, (blk_cell BK195.out 2).trans rfl, (blk_cell BK195.out 3).trans rfl, (blk_cell BK195.out 4).trans rfl, (blk_cell BK195.out 5).trans rfl, (blk_cell BK195.out 6).trans rfl, (blk_cell BK195.out 7).trans rfl, (blk_cell BK195.out 8).trans rfl, ((HB.out.cell (World.block_lt_of_cell? w _ hw211_0)).trans hw211_0), ((HB.out.cell (World.block_lt_of_cell? w _ hw211_1)).trans hw211_1), ((HB.out.cell (World.block_lt_of_cell? w _ hw211_2)).trans hw211_2), ((HB.out.cell (World.block_lt_of_cell? w _ hw211_3)).trans hw211_3), ((HB.out.cell (World.block_lt_of_cell? w _ hw211_4)).trans hw211_4), ((HB.out.cell (World.block_lt_of_cell? w _ hw211_5)).trans hw211_5), ((HB.out.cell (World.block_lt_of_cell? w _ hw211_6)).trans hw211_6)⟩ (fun hHeld => ?_)
                     clear hK K
                     refine norm_ (a' := ?_) ?_ ?_
                     rotate_left
                     ·show Act.put _ (some 8) _ = _
                      simp only [Act.put, List.setIfInBounds_toArray, List.set_cons_zero, List.set_cons_succ, i64_w, i32_w]
                      rfl
                     refine one_ (i := 10) (N := some 114) #[true, true, true, true, true, true, true, true, true, true, true, false, false, false, true, false, false] rfl rfl (one_of HT_.out (by kernel_rfl)) (by decide) (fun K hK => ?_)
                     refine goes_ Tryd.func19 (by kernel_rfl) rfl #[.agg #[.int .i64 a0_0, .int .i64 a0_1, .slice A0_2 l0_2.length c0_2], .int .i64 t207, .int .i64 ((rd_T60 l0_4 t207).f1)] (by rfl) rfl rfl (by (try simp only [List.map_toArray, List.map_cons, List.map_nil]); first | done | rfl | (simp only [List.length_drop, List.length_take]; rfl)) ?_
                     with_reducible refine (ident_Child.calls a0_0 a0_1 _ _ l0_2 t207 ((rd_T60 l0_4 t207).f1) t212 t213 t214 t217 _ ?side1 ?side2 A59.out).mono ?_
                     (case side1 => repeat (first | exact (Kd.C_below HR0_2.out HB.out) | (with_reducible refine Kd.C_alloc ?_ _) | (with_reducible refine Kd.C_drewN ?_ _) | (with_reducible refine Kd.C_drew ?_)))
                     (case side2 => exact HC0_2.out)
                     rintro e w76 ⟨v215, rfl, ho0, hb⟩
                     refine ⟨_, rfl, ?_⟩
                     have n0_ := Aside0.mk (Kd.S_elder' (mvS HO_3.out) (Kd.R_base ho0) hb)
                     have n1_ := Aside0.mk (Kd.R_lower ho0 (below_size (mvL2 HB.out GE195.out GE218.out)))
                     have n2_ := Aside0.mk (blk_below (g := gb195) (o := .cells #[.int .i64 a0_0, .int .i64 a0_1, .slice A0_2 l0_2.length c0_2, .string a0_3, .slice (some ad211) l0_4.length c0_4, .int .i64 a0_5, .int .i64 a0_6, .slice A0_7 l0_7.length c0_7, .bool a0_8] 50 (0, 0)) (mvB BK195.out) hb)
                     have n3_ := Aside0.mk (blk_below (g := gb218) (o := .cells #[.int .i64 0, .int .i64 0, .slice none 0 0] 40 (0, 0)) (mvB BK218.out) hb)
                     have n4_ := Aside0.mk (below_step (mvL2 HB.out GE195.out GE218.out) hb)
                     clear HO_3
                     clear BK195
                     clear BK218
                     clear HB
                     have HO_3 := n0_
                     have HO216 := n1_
                     have BK195 := n2_
                     have BK218 := n3_
                     have HB := n4_
                     clear n0_ n1_ n2_ n3_ n4_
                     (try clear hb)
                     (try clear hb2)
                     (try clear hk)
                     (try clear hi)
                     (try clear ho0)
                     refine hK.out _ _ ⟨(blk_cell BK195.out 0).trans rfl, (blk_cell BK195.out 1).trans rfl, (blk_cell BK195.out 2).trans rfl, (blk_cell BK195.out 3).trans rfl, (blk_cell BK195.out 4).trans rfl, (blk_cell BK195.out 5).trans rfl, (blk_cell BK195.out 6).trans rfl, (blk_cell BK195.out 7).trans rfl, (blk_cell BK195.out 8).trans rfl, ((HB.out.cell (World.block_lt_of_cell? w _ hw211_0)).trans hw211_0), ((HB.out.cell (World.block_lt_of_cell? w _ hw211_1)).trans hw211_1), ((HB.out.cell (World.block_lt_of_cell? w _ hw211_2)).trans hw211_2), ((HB.out.cell (World.block_lt_of_cell? w _ hw211_3)).trans hw211_3), ((HB.out.cell (World.block_lt_of_cell? w _ hw211_4)).trans hw211_4), ((HB.out.cell (World.block_lt_of_cell? w _ hw211_5)).trans hw211_5), ((HB.out.cell (World.block_lt_of_cell? w _ hw211_6)).trans hw211_6)⟩ (fun hHeld => ?_)
                     clear hK K
                     refine norm_ (a' := ?_) ?_ ?_
                     rotate_left
                     ·show Act.put _ (some 114) _ = _
                      simp only [Act.put, List.setIfInBounds_toArray, List.set_cons_zero, List.set_cons_succ, i64_w, i32_w]
                      rfl
                     refine pure_ (i := 11) (N := some 103) (v := ?_) (a' := ?_) #[true, true, true, true, true, true, true, true, true, true, true, true, false, false, true, false, false] rfl rfl (any_of HT_.out (by kernel_rfl)) (fun _ _ _ h => h) (Or.inl ⟨by rfl, ?_⟩) ?_ ?_
                     rotate_left
                     ·intro w'
                      go_simp
                      with_reducible rfl
                     rotate_left
                     ·simp only [Act.put, List.setIfInBounds_toArray, List.set_cons_zero, List.set_cons_succ, i64_w, i32_w]
                      rfl
                     refine pure_ (i := 12) (N := some 115) (v := ?_) (a' := ?_) #[true, true, true, true, true, true, true, true, true, true, true, true, true, false, true, false, false] rfl rfl (any_of HT_.out (by kernel_rfl)) (fun _ _ _ h => h) (Or.inl ⟨by rfl, ?_⟩) ?_ ?_
                     rotate_left
                     ·intro w'
                      go_simp
                      with_reducible rfl
                     rotate_left
                     ·simp only [Act.put, List.setIfInBounds_toArray, List.set_cons_zero, List.set_cons_succ, i64_w, i32_w]
                      rfl
                     refine pure_ (i := 13) (N := some 116) (v := ?_) (a' := ?_) #[true, true, true, true, true, true, true, true, true, true, true, true, true, true, true, false, false] rfl rfl (any_of HT_.out (by kernel_rfl)) (fun _ _ _ h => h) (Or.inl ⟨by rfl, ?_⟩) ?_ ?_
                     rotate_left
                     ·intro w'
                      go_simp
                      with_reducible rfl
                     rotate_left
                     ·simp only [Act.put, List.setIfInBounds_toArray, List.set_cons_zero, List.set_cons_succ, i64_w, i32_w]
                      rfl
                     exact norm_ (by simp only [putAll, Act.put, List.setIfInBounds_toArray, List.set_cons_zero, List.set_cons_succ]) (hCont (v215, gb218) _ ⟨hHeld, (mvR HO216.out), (by (with_reducible repeat (first | apply Kd.S_alloc | apply Kd.S_drewN | apply Kd.S_drew)); exact Kd.S_mono HO_3.out (fun _ hk => hk.2)), (mvB BK195.out), (mvB BK218.out), GW218.out, GE218.out, NB195_218.out, NB218_195.out, (mvL2 HB.out GE195.out GE218.out)⟩)
                   rintro ⟨v215, gb218⟩ w77 ⟨hS_, h0_, h1_, h2_, h3_, h4_, h5_, h6_, h7_, h8_⟩
                   have n0_ : Aside0 (Kd.R k69 69 w77 w.heap.size (fun _ => True) v215 t214) := ⟨h0_⟩
                   have n1_ : Aside0 (Kd.S k42 42 w77 w.heap.size (fun k_ => some k_ ≠ (v215 : Value).ownBlock) v200 t199) := ⟨h1_⟩
                   have n2_ : Aside0 (w77.heap[gb195]? = some (.cells #[.int .i64 a0_0, .int .i64 a0_1, .slice A0_2 l0_2.length c0_2, .string a0_3, .slice (some ad211) l0_4.length c0_4, .int .i64 a0_5, .int .i64 a0_6, .slice A0_7 l0_7.length c0_7, .bool a0_8] 50 (0, 0))) := ⟨h2_⟩
                   have n3_ : Aside0 (w77.heap[gb218]? = some (.cells #[.int .i64 0, .int .i64 0, .slice none 0 0] 40 (0, 0))) := ⟨h3_⟩
                   have n4_ : Aside0 (w.heap.size ≤ gb218) := ⟨h4_⟩
                   have n5_ : Aside0 (w.heap.size ≤ gb218) := ⟨h5_⟩
                   have n6_ : Aside0 (gb195 ≠ gb218) := ⟨h6_⟩
                   have n7_ : Aside0 (gb218 ≠ gb195) := ⟨h7_⟩
                   have n8_ : Aside0 (Below w.heap.size w w77) := ⟨h8_⟩
                   clear HO_3
                   clear BK195
                   clear HB
                   clear h0_ h1_ h2_ h3_ h4_ h5_ h6_ h7_ h8_
                   have HO216 := n0_
                   have HO_3 := n1_
                   have BK195 := n2_
                   have BK218 := n3_
                   have GW218 := n4_
                   have GE218 := n5_
                   have NB195_218 := n6_
                   have NB218_195 := n7_
                   have HB := n8_
                   clear n0_ n1_ n2_ n3_ n4_ n5_ n6_ n7_ n8_
                   have hHeld : w77.cell? ⟨gb195, 0, none⟩ = some (.int .i64 a0_0) ∧ w77.cell? ⟨gb195, 1, none⟩ = some (.int .i64 a0_1) ∧ w77.cell? ⟨gb195, 2, none⟩ = some (.slice A0_2 l0_2.length c0_2) ∧ w77.cell? ⟨gb195, 3, none⟩ = some (.string a0_3) ∧ w77.cell? ⟨gb195, 4, none⟩ = some (.slice (some ad211) l0_4.length c0_4) ∧ w77.cell? ⟨gb195, 5, none⟩ = some (.int .i64 a0_5) ∧ w77.cell? ⟨gb195, 6, none⟩ = some (.int .i64 a0_6) ∧ w77.cell? ⟨gb195, 7, none⟩ = some (.slice A0_7 l0_7.length c0_7) ∧ w77.cell? ⟨gb195, 8, none⟩ = some (.bool a0_8) ∧ w77.cell? (ad211.add ((t207).toNat * 7)) = some (.int .i64 ((rd_T60 l0_4 t207).f0.f0)) ∧ w77.cell? ⟨(ad211.add ((t207).toNat * 7)).block, (ad211.add ((t207).toNat * 7)).off + 1, none⟩ = some (.string ((rd_T60 l0_4 t207).f0.f1)) ∧ w77.cell? ⟨(ad211.add ((t207).toNat * 7)).block, (ad211.add ((t207).toNat * 7)).off + 2, none⟩ = some (.int .i64 ((rd_T60 l0_4 t207).f0.f2)) ∧ w77.cell? ⟨(ad211.add ((t207).toNat * 7)).block, (ad211.add ((t207).toNat * 7)).off + 3, none⟩ = some (.int .i64 ((rd_T60 l0_4 t207).f1)) ∧ w77.cell? ⟨(ad211.add ((t207).toNat * 7)).block, (ad211.add ((t207).toNat * 7)).off + 4, none⟩ = some (.string ((rd_T60 l0_4 t207).f2)) ∧ w77.cell? ⟨(ad211.add ((t207).toNat * 7)).block, (ad211.add ((t207).toNat * 7)).off + 5, none⟩ = some (.int .i64 ((rd_T60 l0_4 t207).f3)) ∧ w77.cell? ⟨(ad211.add ((t207).toNat * 7)).block, (ad211.add ((t207).toNat * 7)).off + 6, none⟩ = some (.int .i64 ((rd_T60 l0_4 t207).f4)) := hS_
                   obtain ⟨Ao80, co80, eo80⟩ := Kd.R_slice HO216.out
                   (first | subst eo80 | (injection eo80 with f1_ f2_ f3_; have f4_ := f1_.symm; have f5_ := f3_.symm; clear f1_ f2_ f3_; subst f4_; subst f5_))
                   refine norm_ (a' := ?_) ?_ ?_
                   rotate_left
                   ·simp only [putAll, Act.put, List.setIfInBounds_toArray, List.set_cons_zero, List.set_cons_succ]
                    rfl
                   refine one_ (i := 15) (N := none) #[true, true, true, true, true, true, true, true, true, true, true, true, true, true, true, true, false] rfl rfl (one_of HT_.out (by kernel_rfl)) (by decide) (fun K hK => ?_)
                   have hs78 : w77.cell? ⟨gb218, 0, none⟩ = some (.int .i64 0) := (blk_cell BK218.out 0).trans rfl
                   have hfs78 := blk_frozen BK218.out 0
                   have hns78_0 := NB195_218.out
                   have hms78_0 := NB218_195.out
                   have hs79 : w77.cell? ⟨gb218, 1, none⟩ = some (.int .i64 0) := (blk_cell BK218.out 1).trans rfl
                   have hfs79 := blk_frozen BK218.out 1
                   have hns79_0 := NB195_218.out
                   have hms79_0 := NB218_195.out
                   have hs81 : w77.cell? ⟨gb218, 2, none⟩ = some (.slice none 0 0) := (blk_cell BK218.out 2).trans rfl
                   have hfs81 := blk_frozen BK218.out 2
                   have hns81_0 := NB195_218.out
                   have hms81_0 := NB218_195.out
                   refine skip_ (w1 := ?_) (by rfl) rfl ?_ ?_
                   rotate_left
                   ·go_simp
                    rfl
                   refine hK.out _ _ ⟨((cell_far (p := ⟨gb218, _, none⟩) NB195_218.out _).trans (((cell_far (p := ⟨gb218, _, none⟩) NB195_218.out _).trans (((cell_far (p := ⟨gb218, _, none⟩) NB195_218.out _).trans (hHeld.1)))))), ((cell_far (p := ⟨gb218, _, none⟩) NB195_218.out _).trans (((cell_far (p := ⟨gb218, _, none⟩) NB195_218.out _).trans (((cell_far (p := ⟨gb218, _, none⟩) NB195_218.out _).trans (hHeld.2.1)))))), ((cell_far (p := ⟨gb218, _, none⟩) NB195_218.out _).trans (((cell_far (p := ⟨gb218, _, none⟩) NB195_218.out _).trans (((cell_far (p := ⟨gb218, _, none⟩) NB195_218.out _).trans (hHeld.2.2.1)))))), ((cell_far (p := ⟨gb218, _, none⟩) NB195_218.out _).trans (((cell_far (p := ⟨gb218, _, none⟩) NB195_218.out _).trans (((cell_far (p := ⟨gb218, _, none⟩) NB195_218.out _).trans (hHeld.2.2.2.1)))))), ((cell_far (p := ⟨gb218, _, none⟩) NB195_218.out _).trans (((cell_far (p := ⟨gb218, _, none⟩) NB195_218.out _).trans (((cell_far (p := ⟨gb218, _, none⟩) NB195_218.out _).trans (hHeld.2.2.2.2.1)))))), ((cell_far (p := ⟨gb218, _, none⟩) NB195_218.out _).trans (((cell_far (p := ⟨gb218, _, none⟩) NB195_218.out _).trans (((cell_far (p := ⟨gb218, _, none⟩) NB195_218.out _).trans (hHeld.2.2.2.2.2.1)))))), ((cell_far (p := ⟨gb218, _, none⟩) NB195_218.out _).trans (((cell_far (p := ⟨gb218, _, none⟩) NB195_218.out _).trans (((cell_far (p := ⟨gb218, _, none⟩) NB195_218.out _).trans (hHeld.2.2.2.2.2.2.1)))))), ((cell_far (p := ⟨gb218, _, none⟩) NB195_218.out _).trans (((cell_far (p := ⟨gb218, _, none⟩) NB195_218.out _).trans (((cell_far (p := ⟨gb218, _, none⟩) NB195_218.out _).trans (hHeld.2.2.2.2.2.2.2.1)))))), ((cell_far (p := ⟨gb218, _, none⟩) NB195_218.out _).trans (((cell_far (p := ⟨gb218, _, none⟩) NB195_218.out _).trans (((cell_far (p := ⟨gb218, _, none⟩) NB195_218.out _).trans (hHeld.2.2.2.2.2.2.2.2.1)))))), ((cell_far (p := ⟨gb218, _, none⟩) (mvF hw211_0 GW218.out) _).trans (((cell_far (p := ⟨gb218, _, none⟩) (mvF hw211_0 GW218.out) _).trans (((cell_far (p := ⟨gb218, _, none⟩) (mvF hw211_0 GW218.out) _).trans (hHeld.2.2.2.2.2.2.2.2.2.1)))))), ((cell_far (p := ⟨gb218, _, none⟩) (mvF hw211_1 GW218.out) _).trans (((cell_far (p := ⟨gb218, _, none⟩) (mvF hw211_1 GW218.out) _).trans (((cell_far (p := ⟨gb218, _, none⟩) (mvF hw211_1 GW218.out) _).trans (hHeld.2.2.2.2.2.2.2.2.2.2.1)))))), ((cell_far (p := ⟨gb218, _, none⟩) (mvF hw211_2 GW218.out) _).trans (((cell_far (p := ⟨gb218, _, none⟩) (mvF hw211_2 GW218.out) _).trans (((cell_far (p := ⟨gb218, _, none⟩) (mvF hw211_2 GW218.out) _).trans (hHeld.2.2.2.2.2.2.2.2.2.2.2.1)))))), ((cell_far (p := ⟨gb218, _, none⟩) (mvF hw211_3 GW218.out) _).trans (((cell_far (p := ⟨gb218, _, none⟩) (mvF hw211_3 GW218.out) _).trans (((cell_far (p := ⟨gb218, _, none⟩) (mvF hw211_3 GW218.out) _).trans (hHeld.2.2.2.2.2.2.2.2.2.2.2.2.1)))))), ((cell_far (p := ⟨gb218, _, none⟩) (mvF hw211_4 GW218.out) _).trans (((cell_far (p := ⟨gb218, _, none⟩) (mvF hw211_4 GW218.out) _).trans (((cell_far (p := ⟨gb218, _, none⟩) (mvF hw211_4 GW218.out) _).trans (hHeld.2.2.2.2.2.2.2.2.2.2.2.2.2.1)))))), ((cell_far (p := ⟨gb218, _, none⟩) (mvF hw211_5 GW218.out) _).trans (((cell_far (p := ⟨gb218, _, none⟩) (mvF hw211_5 GW218.out) _).trans (((cell_far (p := ⟨gb218, _, none⟩) (mvF hw211_5 GW218.out) _).trans (hHeld.2.2.2.2.2.2.2.2.2.2.2.2.2.2.1)))))), ((cell_far (p := ⟨gb218, _, none⟩) (mvF hw211_6 GW218.out) _).trans (((cell_far (p := ⟨gb218, _, none⟩) (mvF hw211_6 GW218.out) _).trans (((cell_far (p := ⟨gb218, _, none⟩) (mvF hw211_6 GW218.out) _).trans (hHeld.2.2.2.2.2.2.2.2.2.2.2.2.2.2.2))))))⟩ (fun hHeld => ?_)
                   clear hK K
                   refine pure_ (i := 16) (N := some 9) (v := ?_) (a' := ?_) #[true, true, true, true, true, true, true, true, true, true, true, true, true, true, true, true, true] rfl rfl (any_of HT_.out (by kernel_rfl)) (fun _ _ _ h => h) (Or.inl ⟨by rfl, ?_⟩) ?_ ?_
                   rotate_left
                   ·intro w'
                    go_simp
                    with_reducible rfl
                   rotate_left
                   ·simp only [Act.put, List.setIfInBounds_toArray, List.set_cons_zero, List.set_cons_succ, i64_w, i32_w]
                    rfl
                   refine done_ (done_of HT_.out (by kernel_rfl)) ?_
                   obtain ⟨Ao82, co82, eo82⟩ := Kd.S_slice HO_3.out
                   subst eo82
                   try go_wp2_with (first | (go_at_call 16; (with_reducible refine (ententelaw27_count.calls kj41 _ _ t199 false t219 _ ?side1 ?side2 A61.out).mono ?_); (case side1 => refine (Kd.S_reads' (e := 42) (base := w.heap.size) (ok := fun k_ => some k_ ≠ (.slice Ao80 t214.length co80 : Value).ownBlock) (n := t199.length) (c := co82) ?_).2.2; exact (by (with_reducible repeat (first | apply Kd.S_alloc | apply Kd.S_drewN | apply Kd.S_drew)); exact (Kd.S_mono (Kd.S_far (p := ⟨gb218, 2, none⟩) (Kd.S_far (p := ⟨gb218, 1, none⟩) (Kd.S_far (p := ⟨gb218, 0, none⟩) (Kd.S_types HO_3.out BK218.out (by decide)) (fun _ hk => hk.2) (.int .i64 t212)) (fun _ hk => hk.2) (.int .i64 t213)) (fun _ hk => hk.2) (.slice Ao80 t214.length co80)) (fun _ h_ => h_.1)))); (case side2 => exact (Kd.S_reads' HO_3.out).2.1); rintro e w' ⟨rfl, ⟨nd, rfl⟩⟩))
                   go_ret
                   exact ⟨by first | rfl | (simp [errW_none, errW_some] <;> rfl) | (simp [*, errW_none, errW_some] <;> rfl) | (simp only [h_bne_nil, h_beq_nil] <;> rfl), by repeat (first | (with_reducible first | exact HB.out | apply below_alloc | apply pw_below_drewN | apply below_drew1 | refine below_set ?_ GE195.out | refine below_set ?_ GE218.out) | exact HB.out)⟩
                 ·rw [if_neg c60] at H
                  have c60b0 : (t217 == 0) = false := beq_eq_false_iff_ne.mpr c60
                  have c60b1 : (t217 != 0) = true := bne_iff_ne.mpr c60
                  replace H := Option.bind_eq_some_iff.mp H
                  obtain ⟨t221, A830, H⟩ := H
                  replace H : (some t221) = some r := H
                  have A83 := Aside0.mk A830
                  clear A830
                  obtain rfl := Option.some.inj H
                  try go_wp2
                  have n0_ := Aside0.mk (Kd.S_drew HO_3.out)
                  have n1_ := Aside0.mk (blk_drew BK195.out)
                  have n2_ := Aside0.mk (below_drew1 HB.out)
                  clear HO_3
                  clear BK195
                  clear HB
                  have HO_3 := n0_
                  have BK195 := n1_
                  have HB := n2_
                  clear n0_ n1_ n2_
                  have p211 : 0 ≤ (t207 : Int) := of_decide_eq_true (by first | (with_reducible assumption) | assumption)
                  have q211 : t207 < (l0_4.length : Int) := of_decide_eq_true (by first | (with_reducible assumption) | assumption)
                  obtain ⟨ad211, e211, hx211_0, hx211_1, hx211_2, hx211_3, hx211_4, hx211_5, hx211_6⟩ := at_T60 HR0_4.out t207 p211 q211
                  have hw211_6 := hx211_6
                  have hw211_5 := hx211_5
                  have hw211_4 := hx211_4
                  have hw211_3 := hx211_3
                  have hw211_2 := hx211_2
                  have hw211_1 := hx211_1
                  have hw211_0 := hx211_0
                  cases e211
                  replace hx211_0 := (HB.out.cell (World.block_lt_of_cell? w _ hx211_0)).trans hx211_0
                  replace hx211_1 := (HB.out.cell (World.block_lt_of_cell? w _ hx211_1)).trans hx211_1
                  replace hx211_2 := (HB.out.cell (World.block_lt_of_cell? w _ hx211_2)).trans hx211_2
                  replace hx211_3 := (HB.out.cell (World.block_lt_of_cell? w _ hx211_3)).trans hx211_3
                  replace hx211_4 := (HB.out.cell (World.block_lt_of_cell? w _ hx211_4)).trans hx211_4
                  replace hx211_5 := (HB.out.cell (World.block_lt_of_cell? w _ hx211_5)).trans hx211_5
                  replace hx211_6 := (HB.out.cell (World.block_lt_of_cell? w _ hx211_6)).trans hx211_6
                  replace p211 := eq_true p211
                  replace q211 := eq_true q211
                  refine start_ (n := 17) (S := fun w' => w'.cell? ⟨gb195, 0, none⟩ = some (.int .i64 a0_0) ∧ w'.cell? ⟨gb195, 1, none⟩ = some (.int .i64 a0_1) ∧ w'.cell? ⟨gb195, 2, none⟩ = some (.slice A0_2 l0_2.length c0_2) ∧ w'.cell? ⟨gb195, 3, none⟩ = some (.string a0_3) ∧ w'.cell? ⟨gb195, 4, none⟩ = some (.slice (some ad211) l0_4.length c0_4) ∧ w'.cell? ⟨gb195, 5, none⟩ = some (.int .i64 a0_5) ∧ w'.cell? ⟨gb195, 6, none⟩ = some (.int .i64 a0_6) ∧ w'.cell? ⟨gb195, 7, none⟩ = some (.slice A0_7 l0_7.length c0_7) ∧ w'.cell? ⟨gb195, 8, none⟩ = some (.bool a0_8) ∧ w'.cell? (ad211.add ((t207).toNat * 7)) = some (.int .i64 ((rd_T60 l0_4 t207).f0.f0)) ∧ w'.cell? ⟨(ad211.add ((t207).toNat * 7)).block, (ad211.add ((t207).toNat * 7)).off + 1, none⟩ = some (.string ((rd_T60 l0_4 t207).f0.f1)) ∧ w'.cell? ⟨(ad211.add ((t207).toNat * 7)).block, (ad211.add ((t207).toNat * 7)).off + 2, none⟩ = some (.int .i64 ((rd_T60 l0_4 t207).f0.f2)) ∧ w'.cell? ⟨(ad211.add ((t207).toNat * 7)).block, (ad211.add ((t207).toNat * 7)).off + 3, none⟩ = some (.int .i64 ((rd_T60 l0_4 t207).f1)) ∧ w'.cell? ⟨(ad211.add ((t207).toNat * 7)).block, (ad211.add ((t207).toNat * 7)).off + 4, none⟩ = some (.string ((rd_T60 l0_4 t207).f2)) ∧ w'.cell? ⟨(ad211.add ((t207).toNat * 7)).block, (ad211.add ((t207).toNat * 7)).off + 5, none⟩ = some (.int .i64 ((rd_T60 l0_4 t207).f3)) ∧ w'.cell? ⟨(ad211.add ((t207).toNat * 7)).block, (ad211.add ((t207).toNat * 7)).off + 6, none⟩ = some (.int .i64 ((rd_T60 l0_4 t207).f4))) (ds := []) #[false, false, false, false, false, false, false, false, false, false, false, false, false, false, false, false, false] (by kernel_rfl) rfl rfl ⟨(blk_cell BK195.out 0).trans rfl, (blk_cell BK195.out 1).trans rfl, (blk_cell BK195.out 2).trans rfl, (blk_cell BK195.out 3).trans rfl, (blk_cell BK195.out 4).trans rfl, (blk_cell BK195.out 5).trans rfl, (blk_cell BK195.out 6).trans rfl, (blk_cell BK195.out 7).trans rfl, (blk_cell BK195.out 8).trans rfl, ((HB.out.cell (World.block_lt_of_cell? w _ hw211_0)).trans hw211_0), ((HB.out.cell (World.block_lt_of_cell? w _ hw211_1)).trans hw211_1), ((HB.out.cell (World.block_lt_of_cell? w _ hw211_2)).trans hw211_2), ((HB.out.cell (World.block_lt_of_cell? w _ hw211_3)).trans hw211_3), ((HB.out.cell (World.block_lt_of_cell? w _ hw211_4)).trans hw211_4), ((HB.out.cell (World.block_lt_of_cell? w _ hw211_5)).trans hw211_5), ((HB.out.cell (World.block_lt_of_cell? w _ hw211_6)).trans hw211_6)⟩ (fun hHeld => ?_); refine with_tabW ententelaw27_DuesNeeded.tab16 ententelaw27_DuesNeeded.bits16 (fun HT_ HW_ => ?_)
                  generalize wc.drew = w84 at HO_3 BK195 HB hx211_0 hx211_1 hx211_2 hx211_3 hx211_4 hx211_5 hx211_6 hHeld ⊢
                  refine pure_ (i := 0) (N := some 104) (v := ?_) (a' := ?_) #[true, false, false, false, false, false, false, false, false, false, false, false, false, false, false, false, false] rfl rfl (any_of HT_.out (by kernel_rfl)) (fun _ _ _ h => h) (Or.inl ⟨by rfl, ?_⟩) ?_ ?_
                  rotate_left
                  ·intro w'
                   go_simp
                   with_reducible rfl
                  rotate_left
                  ·simp only [Act.put, List.setIfInBounds_toArray, List.set_cons_zero, List.set_cons_succ, i64_w, i32_w]
                   rfl
                  refine pure_ (i := 2) (N := some 106) (v := ?_) (a' := ?_) #[true, false, true, false, false, false, false, false, false, false, false, false, false, false, false, false, false] rfl rfl (any_of HT_.out (by kernel_rfl)) (fun _ _ _ h => h) (Or.inl ⟨by rfl, ?_⟩) ?_ ?_
                  rotate_left
                  ·intro w'
                   go_simp
                   with_reducible rfl
                  rotate_left
                  ·simp only [Act.put, List.setIfInBounds_toArray, List.set_cons_zero, List.set_cons_succ, i64_w, i32_w]
                   rfl
                  refine pure_ (i := 3) (N := some 107) (v := ?_) (a' := ?_) #[true, false, true, true, false, false, false, false, false, false, false, false, false, false, false, false, false] rfl rfl (any_of HT_.out (by kernel_rfl)) (fun _ _ _ h => h) (Or.inl ⟨by rfl, ?_⟩) ?_ ?_
                  rotate_left
                  ·intro w'
                   go_simp
                   with_reducible rfl
                  rotate_left
                  ·simp only [Act.put, List.setIfInBounds_toArray, List.set_cons_zero, List.set_cons_succ, i64_w, i32_w]
                   rfl
                  refine pure_ (i := 4) (N := some 108) (v := ?_) (a' := ?_) #[true, false, true, true, true, false, false, false, false, false, false, false, false, false, false, false, false] rfl rfl (any_of HT_.out (by kernel_rfl)) (fun _ _ _ h => h) (Or.inl ⟨by rfl, ?_⟩) ?_ ?_
                  rotate_left
                  ·intro w'
                   go_simp
                   with_reducible rfl
                  rotate_left
                  ·simp only [Act.put, List.setIfInBounds_toArray, List.set_cons_zero, List.set_cons_succ, i64_w, i32_w]
                   rfl
                  refine pure_ (i := 6) (N := some 110) (v := ?_) (a' := ?_) #[true, false, true, true, true, false, true, false, false, false, false, false, false, false, false, false, false] rfl rfl (any_of HT_.out (by kernel_rfl)) (fun _ _ _ h => h) (Or.inl ⟨by rfl, ?_⟩) ?_ ?_
                  rotate_left
                  ·intro w'
                   go_simp
                   with_reducible rfl
                  rotate_left
                  ·simp only [Act.put, List.setIfInBounds_toArray, List.set_cons_zero, List.set_cons_succ, i64_w, i32_w]
                   rfl
                  refine take_ (i := 1) (N := some 105) (v := ?_) (a' := ?_) #[true, true, true, true, true, false, true, false, false, false, false, false, false, false, false, false, false] rfl rfl (take_ofW HT_.out HW_.out (by kernel_rfl)) (fun _ _ _ h => h) (Or.inl ⟨by rfl, ?_⟩) hHeld ?_ ?_
                  rotate_left
                  ·rintro w' ⟨s0, s1, s2, s3, s4, s5, s6, s7, s8, s9, s10, s11, s12, s13, s14, s15⟩
                   go_simp
                   with_reducible rfl
                  rotate_left
                  ·simp only [Act.put, List.setIfInBounds_toArray, List.set_cons_zero, List.set_cons_succ, i64_w, i32_w]
                   rfl
                  refine take_ (i := 5) (N := some 109) (v := ?_) (a' := ?_) #[true, true, true, true, true, true, true, false, false, false, false, false, false, false, false, false, false] rfl rfl (take_ofW HT_.out HW_.out (by kernel_rfl)) (fun _ _ _ h => h) (Or.inl ⟨by rfl, ?_⟩) hHeld ?_ ?_
                  rotate_left
                  ·rintro w' ⟨s0, s1, s2, s3, s4, s5, s6, s7, s8, s9, s10, s11, s12, s13, s14, s15⟩
                   go_simp
                   with_reducible rfl
                  rotate_left
                  ·simp only [Act.put, List.setIfInBounds_toArray, List.set_cons_zero, List.set_cons_succ, i64_w, i32_w]
                   rfl
                  refine pure_ (i := 7) (N := some 111) (v := ?_) (a' := ?_) #[true, true, true, true, true, true, true, true, false, false, false, false, false, false, false, false, false] rfl rfl (any_of HT_.out (by kernel_rfl)) (fun _ _ _ h => h) (Or.inl ⟨by rfl, ?_⟩) ?_ ?_
                  rotate_left
                  ·intro w'
                   go_simp
                   with_reducible rfl
                  rotate_left
                  ·simp only [Act.put, List.setIfInBounds_toArray, List.set_cons_zero, List.set_cons_succ, i64_w, i32_w]
                   rfl
                  refine pure_ (i := 8) (N := some 112) (v := ?_) (a' := ?_) #[true, true, true, true, true, true, true, true, true, false, false, false, false, false, false, false, false] rfl rfl (any_of HT_.out (by kernel_rfl)) (fun _ _ _ h => h) (Or.inl ⟨by rfl, ?_⟩) ?_ ?_
                  rotate_left
                  ·intro w'
                   go_simp
                   with_reducible rfl
                  rotate_left
                  ·simp only [Act.put, List.setIfInBounds_toArray, List.set_cons_zero, List.set_cons_succ, i64_w, i32_w]
                   rfl
                  refine take_ (i := 9) (N := some 113) (v := ?_) (a' := ?_) #[true, true, true, true, true, true, true, true, true, true, false, false, false, false, false, false, false] rfl rfl (take_ofW HT_.out HW_.out (by kernel_rfl)) (fun _ _ _ h => h) (Or.inl ⟨by rfl, ?_⟩) hHeld ?_ ?_
                  rotate_left
                  ·rintro w' ⟨s0, s1, s2, s3, s4, s5, s6, s7, s8, s9, s10, s11, s12, s13, s14, s15⟩
                   go_simp
                   with_reducible rfl
                  rotate_left
                  ·simp only [Act.put, List.setIfInBounds_toArray, List.set_cons_zero, List.set_cons_succ, i64_w, i32_w]
                   rfl
                  refine join_ (σ := Value × Nat) 2 #[true, true, true, true, true, true, true, true, true, true, true, true, true, true, true, false, false] (fun s_ => [(114, .tuple #[.agg #[.int .i64 t212, .int .i64 t213, s_.1], .int .i64 t217]), (8, .pointer (some ⟨s_.2, 0, none⟩)), (103, .tuple #[.agg #[.int .i64 t212, .int .i64 t213, s_.1], .int .i64 t217]), (115, .agg #[.int .i64 t212, .int .i64 t213, s_.1]), (116, .int .i64 t217)]) (fun s_ w' => (w'.cell? ⟨gb195, 0, none⟩ = some (.int .i64 a0_0) ∧ w'.cell? ⟨gb195, 1, none⟩ = some (.int .i64 a0_1) ∧ w'.cell? ⟨gb195, 2, none⟩ = some (.slice A0_2 l0_2.length c0_2) ∧ w'.cell? ⟨gb195, 3, none⟩ = some (.string a0_3) ∧ w'.cell? ⟨gb195, 4, none⟩ = some (.slice (some ad211) l0_4.length c0_4) ∧ w'.cell? ⟨gb195, 5, none⟩ = some (.int .i64 a0_5) ∧ w'.cell? ⟨gb195, 6, none⟩ = some (.int .i64 a0_6) ∧ w'.cell? ⟨gb195, 7, none⟩ = some (.slice A0_7 l0_7.length c0_7) ∧ w'.cell? ⟨gb195, 8, none⟩ = some (.bool a0_8) ∧ w'.cell? (ad211.add ((t207).toNat * 7)) = some (.int .i64 ((rd_T60 l0_4 t207).f0.f0)) ∧ w'.cell? ⟨(ad211.add ((t207).toNat * 7)).block, (ad211.add ((t207).toNat * 7)).off + 1, none⟩ = some (.string ((rd_T60 l0_4 t207).f0.f1)) ∧ w'.cell? ⟨(ad211.add ((t207).toNat * 7)).block, (ad211.add ((t207).toNat * 7)).off + 2, none⟩ = some (.int .i64 ((rd_T60 l0_4 t207).f0.f2)) ∧ w'.cell? ⟨(ad211.add ((t207).toNat * 7)).block, (ad211.add ((t207).toNat * 7)).off + 3, none⟩ = some (.int .i64 ((rd_T60 l0_4 t207).f1)) ∧ w'.cell? ⟨(ad211.add ((t207).toNat * 7)).block, (ad211.add ((t207).toNat * 7)).off + 4, none⟩ = some (.string ((rd_T60 l0_4 t207).f2)) ∧ w'.cell? ⟨(ad211.add ((t207).toNat * 7)).block, (ad211.add ((t207).toNat * 7)).off + 5, none⟩ = some (.int .i64 ((rd_T60 l0_4 t207).f3)) ∧ w'.cell? ⟨(ad211.add ((t207).toNat * 7)).block, (ad211.add ((t207).toNat * 7)).off + 6, none⟩ = some (.int .i64 ((rd_T60 l0_4 t207).f4))) ∧ (Kd.R k69 69 w' w.heap.size (fun _ => True) s_.1 t214) ∧ (Kd.S k42 42 w' w.heap.size (fun k_ => some k_ ≠ (s_.1 : Value).ownBlock) v200 t199) ∧ (w'.heap[gb195]? = some (.cells #[.int .i64 a0_0, .int .i64 a0_1, .slice A0_2 l0_2.length c0_2, .string a0_3, .slice (some ad211) l0_4.length c0_4, .int .i64 a0_5, .int .i64 a0_6, .slice A0_7 l0_7.length c0_7, .bool a0_8] 50 (0, 0))) ∧ (w'.heap[s_.2]? = some (.cells #[.int .i64 0, .int .i64 0, .slice none 0 0] 40 (0, 0))) ∧ (w.heap.size ≤ s_.2) ∧ (w.heap.size ≤ s_.2) ∧ (gb195 ≠ s_.2) ∧ (s_.2 ≠ gb195) ∧ (Below w.heap.size w w')) ?_ ?_
                  rotate_left
                  ·intro hCont
                   refine two_ (i := 10) (j := 14) (Ni := some 114) (Nj := some 8) #[true, true, true, true, true, true, true, true, true, true, true, false, false, false, false, false, false] #[true, true, true, true, true, true, true, true, true, true, false, false, false, false, true, false, false] rfl rfl rfl rfl (two_of HT_.out (by kernel_rfl)) (by decide) (by decide) (fun K hK => ?_) (fun K hK => ?_)
                   ·skip
                    refine goes_ Tryd.func19 (by kernel_rfl) rfl #[.agg #[.int .i64 a0_0, .int .i64 a0_1, .slice A0_2 l0_2.length c0_2], .int .i64 t207, .int .i64 ((rd_T60 l0_4 t207).f1)] (by rfl) rfl rfl (by (try simp only [List.map_toArray, List.map_cons, List.map_nil]); first | done | rfl | (simp only [List.length_drop, List.length_take]; rfl)) ?_
                    with_reducible refine (ident_Child.calls a0_0 a0_1 _ _ l0_2 t207 ((rd_T60 l0_4 t207).f1) t212 t213 t214 t217 _ ?side1 ?side2 A59.out).mono ?_
                    (case side1 => repeat (first | exact (Kd.C_below HR0_2.out HB.out) | (with_reducible refine Kd.C_alloc ?_ _) | (with_reducible refine Kd.C_drewN ?_ _) | (with_reducible refine Kd.C_drew ?_)))
                    (case side2 => exact HC0_2.out)
                    rintro e w85 ⟨v215, rfl, ho0, hb⟩
                    refine ⟨_, rfl, ?_⟩
                    have n0_ := Aside0.mk (Kd.S_elder' (mvS HO_3.out) (Kd.R_base ho0) hb)
                    have n1_ := Aside0.mk (Kd.R_lower ho0 (below_size (mvL1 HB.out GE195.out)))
                    have n2_ := Aside0.mk (blk_below (g := gb195) (o := .cells #[.int .i64 a0_0, .int .i64 a0_1, .slice A0_2 l0_2.length c0_2, .string a0_3, .slice (some ad211) l0_4.length c0_4, .int .i64 a0_5, .int .i64 a0_6, .slice A0_7 l0_7.length c0_7, .bool a0_8] 50 (0, 0)) (mvB BK195.out) hb)
                    have n3_ := Aside0.mk (below_step (mvL1 HB.out GE195.out) hb)
                    clear HO_3
                    clear BK195
                    clear HB
                    have HO_3 := n0_
                    have HO216 := n1_
                    have BK195 := n2_
                    have HB := n3_
                    clear n0_ n1_ n2_ n3_
                    (try clear hb)
                    (try clear hb2)
                    (try clear hk)
                    (try clear hi)
                    (try clear ho0)
                    refine hK.out _ _ ⟨(blk_cell BK195.out 0).trans rfl, (blk_cell BK195.out 1).trans rfl, (blk_cell BK195.out 2).trans rfl, (blk_cell BK195.out 3).trans rfl, (blk_cell BK195.out 4).trans rfl, (blk_cell BK195.out 5).trans rfl, (blk_cell BK195.out 6).trans rfl, (blk_cell BK195.out 7).trans rfl, (blk_cell BK195.out 8).trans rfl, ((HB.out.cell (World.block_lt_of_cell? w _ hw211_0)).trans hw211_0), ((HB.out.cell (World.block_lt_of_cell? w _ hw211_1)).trans hw211_1), ((HB.out.cell (World.block_lt_of_cell? w _ hw211_2)).trans hw211_2), ((HB.out.cell (World.block_lt_of_cell? w _ hw211_3)).trans hw211_3), ((HB.out.cell (World.block_lt_of_cell? w _ hw211_4)).trans hw211_4), ((HB.out.cell (World.block_lt_of_cell? w _ hw211_5)).trans hw211_5), ((HB.out.cell (World.block_lt_of_cell? w _ hw211_6)).trans hw211_6)⟩ (fun hHeld => ?_)
                    clear hK K
                    refine norm_ (a' := ?_) ?_ ?_
                    rotate_left
                    ·show Act.put _ (some 114) _ = _
                     simp only [Act.put, List.setIfInBounds_toArray, List.set_cons_zero, List.set_cons_succ, i64_w, i32_w]
                     rfl
                    refine pure_ (i := 11) (N := some 103) (v := ?_) (a' := ?_) #[true, true, true, true, true, true, true, true, true, true, true, true, false, false, false, false, false] rfl rfl (any_of HT_.out (by kernel_rfl)) (fun _ _ _ h => h) (Or.inl ⟨by rfl, ?_⟩) ?_ ?_
                    rotate_left
                    ·intro w'
                     go_simp
                     with_reducible rfl
                    rotate_left
                    ·simp only [Act.put, List.setIfInBounds_toArray, List.set_cons_zero, List.set_cons_succ, i64_w, i32_w]
                     rfl
                    refine pure_ (i := 12) (N := some 115) (v := ?_) (a' := ?_) #[true, true, true, true, true, true, true, true, true, true, true, true, true, false, false, false, false] rfl rfl (any_of HT_.out (by kernel_rfl)) (fun _ _ _ h => h) (Or.inl ⟨by rfl, ?_⟩) ?_ ?_
                    rotate_left
                    ·intro w'
                     go_simp
                     with_reducible rfl
                    rotate_left
                    ·simp only [Act.put, List.setIfInBounds_toArray, List.set_cons_zero, List.set_cons_succ, i64_w, i32_w]
                     rfl
                    refine pure_ (i := 13) (N := some 116) (v := ?_) (a' := ?_) #[true, true, true, true, true, true, true, true, true, true, true, true, true, true, false, false, false] rfl rfl (any_of HT_.out (by kernel_rfl)) (fun _ _ _ h => h) (Or.inl ⟨by rfl, ?_⟩) ?_ ?_
                    rotate_left
                    ·intro w'
                     go_simp
                     with_reducible rfl
                    rotate_left
                    ·simp only [Act.put, List.setIfInBounds_toArray, List.set_cons_zero, List.set_cons_succ, i64_w, i32_w]
                     rfl
                    refine one_ (i := 14) (N := some 8) #[true, true, true, true, true, true, true, true, true, true, true, true, true, true, true, false, false] rfl rfl (one_of HT_.out (by kernel_rfl)) (by decide) (fun K hK => ?_)
                    refine box_step ?hg (N := 8) ?hd (cs := #[.int .i64 0, .int .i64 0, .slice none 0 0]) (t := 40) ?hr ?_; (case hd => rfl); (case hg => rfl); (case hr => first | (go_simp; done) | (go_simp; rfl))
                    intro gb218 hg w86 hbox hb
                    have n0_ := Aside0.mk (Kd.S_below (mvS HO_3.out) hb)
                    have n1_ := Aside0.mk (Kd.R_below (mvR HO216.out) hb)
                    have n2_ := Aside0.mk (blk_below (g := gb195) (o := .cells #[.int .i64 a0_0, .int .i64 a0_1, .slice A0_2 l0_2.length c0_2, .string a0_3, .slice (some ad211) l0_4.length c0_4, .int .i64 a0_5, .int .i64 a0_6, .slice A0_7 l0_7.length c0_7, .bool a0_8] 50 (0, 0)) (mvB BK195.out) hb)
                    have n3_ := Aside0.mk (below_step (mvL1 HB.out GE195.out) hb)
                    have n4_ := Aside0.mk (hbox)
                    have n5_ := Aside0.mk ((by rw [hg]; exact (below_size (mvL1 HB.out GE195.out)) : w.heap.size ≤ gb218))
                    have n6_ := Aside0.mk ((by rw [hg]; exact (below_size (mvL1 HB.out GE195.out)) : w.heap.size ≤ gb218))
                    have n7_ := Aside0.mk ((by rw [hg]; exact Nat.ne_of_lt (blk_lt (g := gb195) (o := .cells #[.int .i64 a0_0, .int .i64 a0_1, .slice A0_2 l0_2.length c0_2, .string a0_3, .slice (some ad211) l0_4.length c0_4, .int .i64 a0_5, .int .i64 a0_6, .slice A0_7 l0_7.length c0_7, .bool a0_8] 50 (0, 0)) (mvB BK195.out)) : gb195 ≠ gb218))
                    have n8_ := Aside0.mk ((by rw [hg]; exact Nat.ne_of_gt (blk_lt (g := gb195) (o := .cells #[.int .i64 a0_0, .int .i64 a0_1, .slice A0_2 l0_2.length c0_2, .string a0_3, .slice (some ad211) l0_4.length c0_4, .int .i64 a0_5, .int .i64 a0_6, .slice A0_7 l0_7.length c0_7, .bool a0_8] 50 (0, 0)) (mvB BK195.out)) : gb218 ≠ gb195))
                    clear HO_3
                    clear HO216
                    clear BK195
                    clear HB
                    have HO_3 := n0_
                    have HO216 := n1_
                    have BK195 := n2_
                    have HB := n3_
                    have BK218 := n4_
                    have GW218 := n5_
                    have GE218 := n6_
                    have NB195_218 := n7_
                    have NB218_195 := n8_
                    clear n0_ n1_ n2_ n3_ n4_ n5_ n6_ n7_ n8_
                    clear hb hbox hg
                    refine hK.out _ _ ⟨(blk_cell BK195.out 0).trans rfl, (blk_cell BK195.out 1).trans rfl, (blk_cell BK195.out 2).trans rfl, (blk_cell BK195.out 3).trans rfl, (blk_cell BK195.out 4).trans rfl, (blk_cell BK195.out 5).trans rfl, (blk_cell BK195.out 6).trans rfl, (blk_cell BK195.out 7).trans rfl, (blk_cell BK195.out 8).trans rfl, ((HB.out.cell (World.block_lt_of_cell? w _ hw211_0)).trans hw211_0), ((HB.out.cell (World.block_lt_of_cell? w _ hw211_1)).trans hw211_1), ((HB.out.cell (World.block_lt_of_cell? w _ hw211_2)).trans hw211_2), ((HB.out.cell (World.block_lt_of_cell? w _ hw211_3)).trans hw211_3), ((HB.out.cell (World.block_lt_of_cell? w _ hw211_4)).trans hw211_4), ((HB.out.cell (World.block_lt_of_cell? w _ hw211_5)).trans hw211_5), ((HB.out.cell (World.block_lt_of_cell? w _ hw211_6)).trans hw211_6)⟩ (fun hHeld => ?_)
                    clear hK K
                    refine norm_ (a' := ?_) ?_ ?_
                    rotate_left
                    ·show Act.put _ (some 8) _ = _
                     simp only [Act.put, List.setIfInBounds_toArray, List.set_cons_zero, List.set_cons_succ, i64_w, i32_w]
                     rfl
                    exact norm_ (by simp only [putAll, Act.put, List.setIfInBounds_toArray, List.set_cons_zero, List.set_cons_succ]) (hCont (v215, gb218) _ ⟨hHeld, (mvR HO216.out), (by (with_reducible repeat (first | apply Kd.S_alloc | apply Kd.S_drewN | apply Kd.S_drew)); exact Kd.S_mono HO_3.out (fun _ hk => hk.2)), (mvB BK195.out), (mvB BK218.out), GW218.out, GE218.out, NB195_218.out, NB218_195.out, (mvL2 HB.out GE195.out GE218.out)⟩)
                   ·skip
                    refine box_step ?hg (N := 8) ?hd (cs := #[.int .i64 0, .int .i64 0, .slice none 0 0]) (t := 40) ?hr ?_; (case hd => rfl); (case hg => rfl); (case hr => first | (go_simp; done) | (go_simp; rfl))
                    intro gb218 hg w85 hbox hb
                    have n0_ := Aside0.mk (Kd.S_below (mvS HO_3.out) hb)
                    have n1_ := Aside0.mk (blk_below (g := gb195) (o := .cells #[.int .i64 a0_0, .int .i64 a0_1, .slice A0_2 l0_2.length c0_2, .string a0_3, .slice (some ad211) l0_4.length c0_4, .int .i64 a0_5, .int .i64 a0_6, .slice A0_7 l0_7.length c0_7, .bool a0_8] 50 (0, 0)) (mvB BK195.out) hb)
                    have n2_ := Aside0.mk (below_step (mvL1 HB.out GE195.out) hb)
                    have n3_ := Aside0.mk (hbox)
                    have n4_ := Aside0.mk ((by rw [hg]; exact (below_size (mvL1 HB.out GE195.out)) : w.heap.size ≤ gb218))
                    have n5_ := Aside0.mk ((by rw [hg]; exact (below_size (mvL1 HB.out GE195.out)) : w.heap.size ≤ gb218))
                    have n6_ := Aside0.mk ((by rw [hg]; exact Nat.ne_of_lt (blk_lt (g := gb195) (o := .cells #[.int .i64 a0_0, .int .i64 a0_1, .slice A0_2 l0_2.length c0_2, .string a0_3, .slice (some ad211) l0_4.length c0_4, .int .i64 a0_5, .int .i64 a0_6, .slice A0_7 l0_7.length c0_7, .bool a0_8] 50 (0, 0)) (mvB BK195.out)) : gb195 ≠ gb218))
                    have n7_ := Aside0.mk ((by rw [hg]; exact Nat.ne_of_gt (blk_lt (g := gb195) (o := .cells #[.int .i64 a0_0, .int .i64 a0_1, .slice A0_2 l0_2.length c0_2, .string a0_3, .slice (some ad211) l0_4.length c0_4, .int .i64 a0_5, .int .i64 a0_6, .slice A0_7 l0_7.length c0_7, .bool a0_8] 50 (0, 0)) (mvB BK195.out)) : gb218 ≠ gb195))
                    clear HO_3
                    clear BK195
                    clear HB
                    have HO_3 := n0_
                    have BK195 := n1_
                    have HB := n2_
                    have BK218 := n3_
                    have GW218 := n4_
                    have GE218 := n5_
                    have NB195_218 := n6_
                    have NB218_195 := n7_
                    clear n0_ n1_ n2_ n3_ n4_ n5_ n6_ n7_
                    clear hb hbox hg
                    refine hK.out _ _ ⟨(blk_cell BK195.out 0).trans rfl, (blk_cell BK195.out 1).trans rfl, (blk_cell BK195.out 2).trans rfl, (blk_cell BK195.out 3).trans rfl, (blk_cell BK195.out 4).trans rfl, (blk_cell BK195.out 5).trans rfl, (blk_cell BK195.out 6).trans rfl, (blk_cell BK195.out 7).trans rfl, (blk_cell BK195.out 8).trans rfl, ((HB.out.cell (World.block_lt_of_cell? w _ hw211_0)).trans hw211_0), ((HB.out.cell (World.block_lt_of_cell? w _ hw211_1)).trans hw211_1), ((HB.out.cell (World.block_lt_of_cell? w _ hw211_2)).trans hw211_2), ((HB.out.cell (World.block_lt_of_cell? w _ hw211_3)).trans hw211_3), ((HB.out.cell (World.block_lt_of_cell? w _ hw211_4)).trans hw211_4), ((HB.out.cell (World.block_lt_of_cell? w _ hw211_5)).trans hw211_5), ((HB.out.cell (World.block_lt_of_cell? w _ hw211_6)).trans hw211_6)⟩ (fun hHeld => ?_)
                    clear hK K
                    refine norm_ (a' := ?_) ?_ ?_
                    rotate_left
                    ·show Act.put _ (some 8) _ = _
                     simp only [Act.put, List.setIfInBounds_toArray, List.set_cons_zero, List.set_cons_succ, i64_w, i32_w]
                     rfl
                    refine one_ (i := 10) (N := some 114) #[true, true, true, true, true, true, true, true, true, true, true, false, false, false, true, false, false] rfl rfl (one_of HT_.out (by kernel_rfl)) (by decide) (fun K hK => ?_)
                    refine goes_ Tryd.func19 (by kernel_rfl) rfl #[.agg #[.int .i64 a0_0, .int .i64 a0_1, .slice A0_2 l0_2.length c0_2], .int .i64 t207, .int .i64 ((rd_T60 l0_4 t207).f1)] (by rfl) rfl rfl (by (try simp only [List.map_toArray, List.map_cons, List.map_nil]); first | done | rfl | (simp only [List.length_drop, List.length_take]; rfl)) ?_
                    with_reducible refine (ident_Child.calls a0_0 a0_1 _ _ l0_2 t207 ((rd_T60 l0_4 t207).f1) t212 t213 t214 t217 _ ?side1 ?side2 A59.out).mono ?_
                    (case side1 => repeat (first | exact (Kd.C_below HR0_2.out HB.out) | (with_reducible refine Kd.C_alloc ?_ _) | (with_reducible refine Kd.C_drewN ?_ _) | (with_reducible refine Kd.C_drew ?_)))
                    (case side2 => exact HC0_2.out)
                    rintro e w86 ⟨v215, rfl, ho0, hb⟩
                    refine ⟨_, rfl, ?_⟩
                    have n0_ := Aside0.mk (Kd.S_elder' (mvS HO_3.out) (Kd.R_base ho0) hb)
                    have n1_ := Aside0.mk (Kd.R_lower ho0 (below_size (mvL2 HB.out GE195.out GE218.out)))
                    have n2_ := Aside0.mk (blk_below (g := gb195) (o := .cells #[.int .i64 a0_0, .int .i64 a0_1, .slice A0_2 l0_2.length c0_2, .string a0_3, .slice (some ad211) l0_4.length c0_4, .int .i64 a0_5, .int .i64 a0_6, .slice A0_7 l0_7.length c0_7, .bool a0_8] 50 (0, 0)) (mvB BK195.out) hb)
                    have n3_ := Aside0.mk (blk_below (g := gb218) (o := .cells #[.int .i64 0, .int .i64 0, .slice none 0 0] 40 (0, 0)) (mvB BK218.out) hb)
                    have n4_ := Aside0.mk (below_step (mvL2 HB.out GE195.out GE218.out) hb)
                    clear HO_3
                    clear BK195
                    clear BK218
                    clear HB
                    have HO_3 := n0_
                    have HO216 := n1_
                    have BK195 := n2_
                    have BK218 := n3_
                    have HB := n4_
                    clear n0_ n1_ n2_ n3_ n4_
                    (try clear hb)
                    (try clear hb2)
                    (try clear hk)
                    (try clear hi)
                    (try clear ho0)
                    refine hK.out _ _ ⟨(blk_cell BK195.out 0).trans rfl, (blk_cell BK195.out 1).trans rfl, (blk_cell BK195.out 2).trans rfl, (blk_cell BK195.out 3).trans rfl, (blk_cell BK195.out 4).trans rfl, (blk_cell BK195.out 5).trans rfl, (blk_cell BK195.out 6).trans rfl, (blk_cell BK195.out 7).trans rfl, (blk_cell BK195.out 8).trans rfl, ((HB.out.cell (World.block_lt_of_cell? w _ hw211_0)).trans hw211_0), ((HB.out.cell (World.block_lt_of_cell? w _ hw211_1)).trans hw211_1), ((HB.out.cell (World.block_lt_of_cell? w _ hw211_2)).trans hw211_2), ((HB.out.cell (World.block_lt_of_cell? w _ hw211_3)).trans hw211_3), ((HB.out.cell (World.block_lt_of_cell? w _ hw211_4)).trans hw211_4), ((HB.out.cell (World.block_lt_of_cell? w _ hw211_5)).trans hw211_5), ((HB.out.cell (World.block_lt_of_cell? w _ hw211_6)).trans hw211_6)⟩ (fun hHeld => ?_)
                    clear hK K
                    refine norm_ (a' := ?_) ?_ ?_
                    rotate_left
                    ·show Act.put _ (some 114) _ = _
                     simp only [Act.put, List.setIfInBounds_toArray, List.set_cons_zero, List.set_cons_succ, i64_w, i32_w]
                     rfl
                    refine pure_ (i := 11) (N := some 103) (v := ?_) (a' := ?_) #[true, true, true, true, true, true, true, true, true, true, true, true, false, false, true, false, false] rfl rfl (any_of HT_.out (by kernel_rfl)) (fun _ _ _ h => h) (Or.inl ⟨by rfl, ?_⟩) ?_ ?_
                    rotate_left
                    ·intro w'
                     go_simp
                     with_reducible rfl
                    rotate_left
                    ·simp only [Act.put, List.setIfInBounds_toArray, List.set_cons_zero, List.set_cons_succ, i64_w, i32_w]
                     rfl
                    refine pure_ (i := 12) (N := some 115) (v := ?_) (a' := ?_) #[true, true, true, true, true, true, true, true, true, true, true, true, true, false, true, false, false] rfl rfl (any_of HT_.out (by kernel_rfl)) (fun _ _ _ h => h) (Or.inl ⟨by rfl, ?_⟩) ?_ ?_
                    rotate_left
                    ·intro w'
                     go_simp
                     with_reducible rfl
                    rotate_left
                    ·simp only [Act.put, List.setIfInBounds_toArray, List.set_cons_zero, List.set_cons_succ, i64_w, i32_w]
                     rfl
                    refine pure_ (i := 13) (N := some 116) (v := ?_) (a' := ?_) #[true, true, true, true, true, true, true, true, true, true, true, true, true, true, true, false, false] rfl rfl (any_of HT_.out (by kernel_rfl)) (fun _ _ _ h => h) (Or.inl ⟨by rfl, ?_⟩) ?_ ?_
                    rotate_left
                    ·intro w'
                     go_simp
                     with_reducible rfl
                    rotate_left
                    ·simp only [Act.put, List.setIfInBounds_toArray, List.set_cons_zero, List.set_cons_succ, i64_w, i32_w]
                     rfl
                    exact norm_ (by simp only [putAll, Act.put, List.setIfInBounds_toArray, List.set_cons_zero, List.set_cons_succ]) (hCont (v215, gb218) _ ⟨hHeld, (mvR HO216.out), (by (with_reducible repeat (first | apply Kd.S_alloc | apply Kd.S_drewN | apply Kd.S_drew)); exact Kd.S_mono HO_3.out (fun _ hk => hk.2)), (mvB BK195.out), (mvB BK218.out), GW218.out, GE218.out, NB195_218.out, NB218_195.out, (mvL2 HB.out GE195.out GE218.out)⟩)
                  rintro ⟨v215, gb218⟩ w87 ⟨hS_, h0_, h1_, h2_, h3_, h4_, h5_, h6_, h7_, h8_⟩
                  have n0_ : Aside0 (Kd.R k69 69 w87 w.heap.size (fun _ => True) v215 t214) := ⟨h0_⟩
                  have n1_ : Aside0 (Kd.S k42 42 w87 w.heap.size (fun k_ => some k_ ≠ (v215 : Value).ownBlock) v200 t199) := ⟨h1_⟩
                  have n2_ : Aside0 (w87.heap[gb195]? = some (.cells #[.int .i64 a0_0, .int .i64 a0_1, .slice A0_2 l0_2.length c0_2, .string a0_3, .slice (some ad211) l0_4.length c0_4, .int .i64 a0_5, .int .i64 a0_6, .slice A0_7 l0_7.length c0_7, .bool a0_8] 50 (0, 0))) := ⟨h2_⟩
                  have n3_ : Aside0 (w87.heap[gb218]? = some (.cells #[.int .i64 0, .int .i64 0, .slice none 0 0] 40 (0, 0))) := ⟨h3_⟩
                  have n4_ : Aside0 (w.heap.size ≤ gb218) := ⟨h4_⟩
                  have n5_ : Aside0 (w.heap.size ≤ gb218) := ⟨h5_⟩
                  have n6_ : Aside0 (gb195 ≠ gb218) := ⟨h6_⟩
                  have n7_ : Aside0 (gb218 ≠ gb195) := ⟨h7_⟩
                  have n8_ : Aside0 (Below w.heap.size w w87) := ⟨h8_⟩
                  clear HO_3
                  clear BK195
                  clear HB
                  clear h0_ h1_ h2_ h3_ h4_ h5_ h6_ h7_ h8_
                  have HO216 := n0_
                  have HO_3 := n1_
                  have BK195 := n2_
                  have BK218 := n3_
                  have GW218 := n4_
                  have GE218 := n5_
                  have NB195_218 := n6_
                  have NB218_195 := n7_
                  have HB := n8_
                  clear n0_ n1_ n2_ n3_ n4_ n5_ n6_ n7_ n8_
                  have hHeld : w87.cell? ⟨gb195, 0, none⟩ = some (.int .i64 a0_0) ∧ w87.cell? ⟨gb195, 1, none⟩ = some (.int .i64 a0_1) ∧ w87.cell? ⟨gb195, 2, none⟩ = some (.slice A0_2 l0_2.length c0_2) ∧ w87.cell? ⟨gb195, 3, none⟩ = some (.string a0_3) ∧ w87.cell? ⟨gb195, 4, none⟩ = some (.slice (some ad211) l0_4.length c0_4) ∧ w87.cell? ⟨gb195, 5, none⟩ = some (.int .i64 a0_5) ∧ w87.cell? ⟨gb195, 6, none⟩ = some (.int .i64 a0_6) ∧ w87.cell? ⟨gb195, 7, none⟩ = some (.slice A0_7 l0_7.length c0_7) ∧ w87.cell? ⟨gb195, 8, none⟩ = some (.bool a0_8) ∧ w87.cell? (ad211.add ((t207).toNat * 7)) = some (.int .i64 ((rd_T60 l0_4 t207).f0.f0)) ∧ w87.cell? ⟨(ad211.add ((t207).toNat * 7)).block, (ad211.add ((t207).toNat * 7)).off + 1, none⟩ = some (.string ((rd_T60 l0_4 t207).f0.f1)) ∧ w87.cell? ⟨(ad211.add ((t207).toNat * 7)).block, (ad211.add ((t207).toNat * 7)).off + 2, none⟩ = some (.int .i64 ((rd_T60 l0_4 t207).f0.f2)) ∧ w87.cell? ⟨(ad211.add ((t207).toNat * 7)).block, (ad211.add ((t207).toNat * 7)).off + 3, none⟩ = some (.int .i64 ((rd_T60 l0_4 t207).f1)) ∧ w87.cell? ⟨(ad211.add ((t207).toNat * 7)).block, (ad211.add ((t207).toNat * 7)).off + 4, none⟩ = some (.string ((rd_T60 l0_4 t207).f2)) ∧ w87.cell? ⟨(ad211.add ((t207).toNat * 7)).block, (ad211.add ((t207).toNat * 7)).off + 5, none⟩ = some (.int .i64 ((rd_T60 l0_4 t207).f3)) ∧ w87.cell? ⟨(ad211.add ((t207).toNat * 7)).block, (ad211.add ((t207).toNat * 7)).off + 6, none⟩ = some (.int .i64 ((rd_T60 l0_4 t207).f4)) := hS_
                  obtain ⟨Ao90, co90, eo90⟩ := Kd.R_slice HO216.out
                  (first | subst eo90 | (injection eo90 with f1_ f2_ f3_; have f4_ := f1_.symm; have f5_ := f3_.symm; clear f1_ f2_ f3_; subst f4_; subst f5_))
                  refine norm_ (a' := ?_) ?_ ?_
                  rotate_left
                  ·simp only [putAll, Act.put, List.setIfInBounds_toArray, List.set_cons_zero, List.set_cons_succ]
                   rfl
                  refine one_ (i := 15) (N := none) #[true, true, true, true, true, true, true, true, true, true, true, true, true, true, true, true, false] rfl rfl (one_of HT_.out (by kernel_rfl)) (by decide) (fun K hK => ?_)
                  have hs88 : w87.cell? ⟨gb218, 0, none⟩ = some (.int .i64 0) := (blk_cell BK218.out 0).trans rfl
                  have hfs88 := blk_frozen BK218.out 0
                  have hns88_0 := NB195_218.out
                  have hms88_0 := NB218_195.out
                  have hs89 : w87.cell? ⟨gb218, 1, none⟩ = some (.int .i64 0) := (blk_cell BK218.out 1).trans rfl
                  have hfs89 := blk_frozen BK218.out 1
                  have hns89_0 := NB195_218.out
                  have hms89_0 := NB218_195.out
                  have hs91 : w87.cell? ⟨gb218, 2, none⟩ = some (.slice none 0 0) := (blk_cell BK218.out 2).trans rfl
                  have hfs91 := blk_frozen BK218.out 2
                  have hns91_0 := NB195_218.out
                  have hms91_0 := NB218_195.out
                  refine skip_ (w1 := ?_) (by rfl) rfl ?_ ?_
                  rotate_left
                  ·go_simp
                   rfl
                  refine hK.out _ _ ⟨((cell_far (p := ⟨gb218, _, none⟩) NB195_218.out _).trans (((cell_far (p := ⟨gb218, _, none⟩) NB195_218.out _).trans (((cell_far (p := ⟨gb218, _, none⟩) NB195_218.out _).trans (hHeld.1)))))), ((cell_far (p := ⟨gb218, _, none⟩) NB195_218.out _).trans (((cell_far (p := ⟨gb218, _, none⟩) NB195_218.out _).trans (((cell_far (p := ⟨gb218, _, none⟩) NB195_218.out _).trans (hHeld.2.1)))))), ((cell_far (p := ⟨gb218, _, none⟩) NB195_218.out _).trans (((cell_far (p := ⟨gb218, _, none⟩) NB195_218.out _).trans (((cell_far (p := ⟨gb218, _, none⟩) NB195_218.out _).trans (hHeld.2.2.1)))))), ((cell_far (p := ⟨gb218, _, none⟩) NB195_218.out _).trans (((cell_far (p := ⟨gb218, _, none⟩) NB195_218.out _).trans (((cell_far (p := ⟨gb218, _, none⟩) NB195_218.out _).trans (hHeld.2.2.2.1)))))), ((cell_far (p := ⟨gb218, _, none⟩) NB195_218.out _).trans (((cell_far (p := ⟨gb218, _, none⟩) NB195_218.out _).trans (((cell_far (p := ⟨gb218, _, none⟩) NB195_218.out _).trans (hHeld.2.2.2.2.1)))))), ((cell_far (p := ⟨gb218, _, none⟩) NB195_218.out _).trans (((cell_far (p := ⟨gb218, _, none⟩) NB195_218.out _).trans (((cell_far (p := ⟨gb218, _, none⟩) NB195_218.out _).trans (hHeld.2.2.2.2.2.1)))))), ((cell_far (p := ⟨gb218, _, none⟩) NB195_218.out _).trans (((cell_far (p := ⟨gb218, _, none⟩) NB195_218.out _).trans (((cell_far (p := ⟨gb218, _, none⟩) NB195_218.out _).trans (hHeld.2.2.2.2.2.2.1)))))), ((cell_far (p := ⟨gb218, _, none⟩) NB195_218.out _).trans (((cell_far (p := ⟨gb218, _, none⟩) NB195_218.out _).trans (((cell_far (p := ⟨gb218, _, none⟩) NB195_218.out _).trans (hHeld.2.2.2.2.2.2.2.1)))))), ((cell_far (p := ⟨gb218, _, none⟩) NB195_218.out _).trans (((cell_far (p := ⟨gb218, _, none⟩) NB195_218.out _).trans (((cell_far (p := ⟨gb218, _, none⟩) NB195_218.out _).trans (hHeld.2.2.2.2.2.2.2.2.1)))))), ((cell_far (p := ⟨gb218, _, none⟩) (mvF hw211_0 GW218.out) _).trans (((cell_far (p := ⟨gb218, _, none⟩) (mvF hw211_0 GW218.out) _).trans (((cell_far (p := ⟨gb218, _, none⟩) (mvF hw211_0 GW218.out) _).trans (hHeld.2.2.2.2.2.2.2.2.2.1)))))), ((cell_far (p := ⟨gb218, _, none⟩) (mvF hw211_1 GW218.out) _).trans (((cell_far (p := ⟨gb218, _, none⟩) (mvF hw211_1 GW218.out) _).trans (((cell_far (p := ⟨gb218, _, none⟩) (mvF hw211_1 GW218.out) _).trans (hHeld.2.2.2.2.2.2.2.2.2.2.1)))))), ((cell_far (p := ⟨gb218, _, none⟩) (mvF hw211_2 GW218.out) _).trans (((cell_far (p := ⟨gb218, _, none⟩) (mvF hw211_2 GW218.out) _).trans (((cell_far (p := ⟨gb218, _, none⟩) (mvF hw211_2 GW218.out) _).trans (hHeld.2.2.2.2.2.2.2.2.2.2.2.1)))))), ((cell_far (p := ⟨gb218, _, none⟩) (mvF hw211_3 GW218.out) _).trans (((cell_far (p := ⟨gb218, _, none⟩) (mvF hw211_3 GW218.out) _).trans (((cell_far (p := ⟨gb218, _, none⟩) (mvF hw211_3 GW218.out) _).trans (hHeld.2.2.2.2.2.2.2.2.2.2.2.2.1)))))), ((cell_far (p := ⟨gb218, _, none⟩) (mvF hw211_4 GW218.out) _).trans (((cell_far (p := ⟨gb218, _, none⟩) (mvF hw211_4 GW218.out) _).trans (((cell_far (p := ⟨gb218, _, none⟩) (mvF hw211_4 GW218.out) _).trans (hHeld.2.2.2.2.2.2.2.2.2.2.2.2.2.1)))))), ((cell_far (p := ⟨gb218, _, none⟩) (mvF hw211_5 GW218.out) _).trans (((cell_far (p := ⟨gb218, _, none⟩) (mvF hw211_5 GW218.out) _).trans (((cell_far (p := ⟨gb218, _, none⟩) (mvF hw211_5 GW218.out) _).trans (hHeld.2.2.2.2.2.2.2.2.2.2.2.2.2.2.1)))))), ((cell_far (p := ⟨gb218, _, none⟩) (mvF hw211_6 GW218.out) _).trans (((cell_far (p := ⟨gb218, _, none⟩) (mvF hw211_6 GW218.out) _).trans (((cell_far (p := ⟨gb218, _, none⟩) (mvF hw211_6 GW218.out) _).trans (hHeld.2.2.2.2.2.2.2.2.2.2.2.2.2.2.2))))))⟩ (fun hHeld => ?_)
                  clear hK K
                  refine pure_ (i := 16) (N := some 9) (v := ?_) (a' := ?_) #[true, true, true, true, true, true, true, true, true, true, true, true, true, true, true, true, true] rfl rfl (any_of HT_.out (by kernel_rfl)) (fun _ _ _ h => h) (Or.inl ⟨by rfl, ?_⟩) ?_ ?_
                  rotate_left
                  ·intro w'
                   go_simp
                   with_reducible rfl
                  rotate_left
                  ·simp only [Act.put, List.setIfInBounds_toArray, List.set_cons_zero, List.set_cons_succ, i64_w, i32_w]
                   rfl
                  refine done_ (done_of HT_.out (by kernel_rfl)) ?_
                  try go_wp2_with (first | (go_at_call 6; (with_reducible refine (ententelaw27_awake.calls  t221 _ A83.out).mono ?_); rintro e w92 ⟨rfl, hb⟩; have n0_ := Aside0.mk (Kd.S_below (by (with_reducible repeat (first | apply Kd.S_alloc | apply Kd.S_drewN | apply Kd.S_drew)); exact (Kd.S_mono (Kd.S_far (p := ⟨gb218, 2, none⟩) (Kd.S_far (p := ⟨gb218, 1, none⟩) (Kd.S_far (p := ⟨gb218, 0, none⟩) (Kd.S_types HO_3.out BK218.out (by decide)) (fun _ hk => hk.2) (.int .i64 t212)) (fun _ hk => hk.2) (.int .i64 t213)) (fun _ hk => hk.2) (.slice Ao90 t214.length co90)) (fun _ h_ => h_.1))) hb); have n1_ := Aside0.mk (Kd.R_below (by (with_reducible repeat (first | apply Kd.R_alloc | apply Kd.R_drewN | apply Kd.R_drew)); exact (Kd.R_mono (Kd.R_far (p := ⟨gb218, 2, none⟩) (Kd.R_far (p := ⟨gb218, 1, none⟩) (Kd.R_far (p := ⟨gb218, 0, none⟩) (Kd.R_types HO216.out BK218.out (by decide)) (fun _ hk => hk.2) (.int .i64 t212)) (fun _ hk => hk.2) (.int .i64 t213)) (fun _ hk => hk.2) (.slice Ao90 t214.length co90)) (fun _ h_ => h_.1))) hb); have n2_ := Aside0.mk (blk_below (g := gb195) (o := .cells #[.int .i64 a0_0, .int .i64 a0_1, .slice A0_2 l0_2.length c0_2, .string a0_3, .slice (some ad211) l0_4.length c0_4, .int .i64 a0_5, .int .i64 a0_6, .slice A0_7 l0_7.length c0_7, .bool a0_8] 50 (0, 0)) (by (with_reducible repeat (first | refine blk_drewN ?_ _ | refine blk_drew ?_ | refine blk_alloc ?_ _)); refine blk_far ?_ NB195_218.out _; (with_reducible repeat (first | refine blk_drewN ?_ _ | refine blk_drew ?_ | refine blk_alloc ?_ _)); refine blk_far ?_ NB195_218.out _; (with_reducible repeat (first | refine blk_drewN ?_ _ | refine blk_drew ?_ | refine blk_alloc ?_ _)); refine blk_far ?_ NB195_218.out _; (with_reducible repeat (first | refine blk_drewN ?_ _ | refine blk_drew ?_ | refine blk_alloc ?_ _)); exact BK195.out) hb); have n3_ := Aside0.mk (blk_below (g := gb218) (o := .cells #[.int .i64 t212, .int .i64 t213, .slice Ao90 t214.length co90] 40 (0, 0)) (by (with_reducible repeat (first | refine blk_drewN ?_ _ | refine blk_drew ?_ | refine blk_alloc ?_ _)); refine blk_put (cs := #[.int .i64 t212, .int .i64 t213, .slice none 0 0]) ?_ 2 _ rfl; (with_reducible repeat (first | refine blk_drewN ?_ _ | refine blk_drew ?_ | refine blk_alloc ?_ _)); refine blk_put (cs := #[.int .i64 t212, .int .i64 0, .slice none 0 0]) ?_ 1 _ rfl; (with_reducible repeat (first | refine blk_drewN ?_ _ | refine blk_drew ?_ | refine blk_alloc ?_ _)); refine blk_put (cs := #[.int .i64 0, .int .i64 0, .slice none 0 0]) ?_ 0 _ rfl; (with_reducible repeat (first | refine blk_drewN ?_ _ | refine blk_drew ?_ | refine blk_alloc ?_ _)); exact BK218.out) hb); have n4_ := Aside0.mk (below_step (mvL2 HB.out GE195.out GE218.out) hb); clear HO_3; clear HO216; clear BK195; clear BK218; clear HB; have HO_3 := n0_; have HO216 := n1_; have BK195 := n2_; have BK218 := n3_; have HB := n4_; clear n0_ n1_ n2_ n3_ n4_; (try clear hb); (try clear hb2); (try clear hk); (try clear hi)))
                  go_ret
                  exact ⟨by first | rfl | (simp [errW_none, errW_some] <;> rfl) | (simp [*, errW_none, errW_some] <;> rfl) | (simp only [h_bne_nil, h_beq_nil] <;> rfl), by repeat (first | (with_reducible first | exact HB.out | apply below_alloc | apply pw_below_drewN | apply below_drew1 | refine below_set ?_ GE195.out | refine below_set ?_ GE218.out) | exact HB.out)⟩
                ·rw [if_neg c58] at H
                 exact absurd H (by simp)
               ·rw [if_neg c57] at H
                exact absurd H (by simp)
              ·replace c56 := Bool.eq_false_iff.mpr c56
               subst c56
               have H1 : ((ententelaw27_awake.f).bind fun t222 => (some t222)) = some r := by rw [if_neg (show ¬ (false = true) by decide)] at H; exact H
               clear H
               have H := H1
               clear H1
               replace H := Option.bind_eq_some_iff.mp H
               obtain ⟨t222, A930, H⟩ := H
               replace H : (some t222) = some r := H
               have A93 := Aside0.mk A930
               clear A930
               obtain rfl := Option.some.inj H
               go_wp2_with (first | ((with_reducible refine gate_callee (f := 6) rfl ?_); refine goesL_ (some 102) rfl rfl Tryd.func6 (by kernel_rfl) rfl #[] rfl (by (try simp only [List.map_toArray, List.map_cons, List.map_nil]); first | done | rfl | (simp only [List.length_drop, List.length_take]; rfl)) ?_; (with_reducible refine (ententelaw27_awake.calls  t222 _ A93.out).mono ?_); rintro e w94 ⟨rfl, hb⟩; refine ⟨_, rfl, ?_⟩; have n0_ := Aside0.mk (Kd.S_below (mvS HO_3.out) hb); have n1_ := Aside0.mk (blk_below (g := gb195) (o := .cells #[.int .i64 a0_0, .int .i64 a0_1, .slice A0_2 l0_2.length c0_2, .string a0_3, .slice A0_4 l0_4.length c0_4, .int .i64 a0_5, .int .i64 a0_6, .slice A0_7 l0_7.length c0_7, .bool a0_8] 50 (0, 0)) (mvB BK195.out) hb); have n2_ := Aside0.mk (below_step (mvL1 HB.out GE195.out) hb); clear HO_3; clear BK195; clear HB; have HO_3 := n0_; have BK195 := n1_; have HB := n2_; clear n0_ n1_ n2_; (try clear hb); (try clear hb2); (try clear hk); (try clear hi)))
               go_ret
               exact ⟨by first | rfl | (simp [errW_none, errW_some] <;> rfl) | (simp [*, errW_none, errW_some] <;> rfl) | (simp only [h_bne_nil, h_beq_nil] <;> rfl), by repeat (first | (with_reducible first | exact HB.out | apply below_alloc | apply pw_below_drewN | apply below_drew1 | refine below_set ?_ GE195.out) | exact HB.out)⟩
  ·rw [if_neg c7] at H
   have c7b0 : (t202 == 0) = false := beq_eq_false_iff_ne.mpr c7
   have c7b1 : (t202 != 0) = true := bne_iff_ne.mpr c7
   by_cases c95 : (t199.length : Int) = 0
   ·rw [if_pos c95] at H
    have c95b0 : ((t199.length : Int) == 0) = true := beq_iff_eq.mpr c95
    have c95b1 : ((t199.length : Int) != 0) = false := bne_eq_false_iff_eq.mpr c95
    clear c95
    replace H := Option.bind_eq_some_iff.mp H
    obtain ⟨t203, A960, H⟩ := H
    replace H : (some t203) = some r := H
    have A96 := Aside0.mk A960
    clear A960
    obtain rfl := Option.some.inj H
    go_enter Tryd.func4, Tryd.ntmps4
    try go_wp2_with (first | ((with_reducible refine gate_dst (N := 1) rfl ?_); (try (refine gate_guard (by rfl) ?_; dsimp only)); refine box_event ?hg (N := 1) ?hd (cs := #[.int .i64 a0_0, .int .i64 a0_1, .slice A0_2 l0_2.length c0_2, .string a0_3, .slice A0_4 l0_4.length c0_4, .int .i64 a0_5, .int .i64 a0_6, .slice A0_7 l0_7.length c0_7, .bool a0_8]) (t := 50) ?hr ?_; (case hd => rfl); (case hg => rfl); (case hr => first | (go_simp; done) | (go_simp; rfl)); intro gb195 hg w97 hbox hb; have n0_ := Aside0.mk (below_step (mvL0 HB.out) hb); have n1_ := Aside0.mk (hbox); have n2_ := Aside0.mk ((by rw [hg]; exact (below_size (mvL0 HB.out)) : w.heap.size ≤ gb195)); have n3_ := Aside0.mk ((by rw [hg]; exact (below_size (mvL0 HB.out)) : w.heap.size ≤ gb195)); clear HB; have HB := n0_; have BK195 := n1_; have GW195 := n2_; have GE195 := n3_; clear n0_ n1_ n2_ n3_; clear hb hbox hg; have hcz98_0 : w97.cell? ⟨gb195, 0, none⟩ = some (.int .i64 a0_0) := (blk_cell BK195.out 0).trans rfl; have hcz98_1 : w97.cell? ⟨gb195, 1, none⟩ = some (.int .i64 a0_1) := (blk_cell BK195.out 1).trans rfl; have hcz98_2 : w97.cell? ⟨gb195, 2, none⟩ = some (.slice A0_2 l0_2.length c0_2) := (blk_cell BK195.out 2).trans rfl; have hcz98_3 : w97.cell? ⟨gb195, 3, none⟩ = some (.string a0_3) := (blk_cell BK195.out 3).trans rfl; have hcz98_4 : w97.cell? ⟨gb195, 4, none⟩ = some (.slice A0_4 l0_4.length c0_4) := (blk_cell BK195.out 4).trans rfl; have hcz98_5 : w97.cell? ⟨gb195, 5, none⟩ = some (.int .i64 a0_5) := (blk_cell BK195.out 5).trans rfl; have hcz98_6 : w97.cell? ⟨gb195, 6, none⟩ = some (.int .i64 a0_6) := (blk_cell BK195.out 6).trans rfl; have hcz98_7 : w97.cell? ⟨gb195, 7, none⟩ = some (.slice A0_7 l0_7.length c0_7) := (blk_cell BK195.out 7).trans rfl; have hcz98_8 : w97.cell? ⟨gb195, 8, none⟩ = some (.bool a0_8) := (blk_cell BK195.out 8).trans rfl; have hfz98_0 := blk_frozen BK195.out 0; have hfz98_1 := blk_frozen BK195.out 1; have hfz98_2 := blk_frozen BK195.out 2; have hfz98_3 := blk_frozen BK195.out 3; have hfz98_4 := blk_frozen BK195.out 4; have hfz98_5 := blk_frozen BK195.out 5; have hfz98_6 := blk_frozen BK195.out 6; have hfz98_7 := blk_frozen BK195.out 7; have hfz98_8 := blk_frozen BK195.out 8) | ((with_reducible refine gate_callee (f := 12) rfl ?_); refine goesL_ (some 11) rfl rfl Tryd.func12 (by kernel_rfl) rfl #[.agg #[.int .i64 a0_0, .int .i64 a0_1, .slice A0_2 l0_2.length c0_2, .string a0_3, .slice A0_4 l0_4.length c0_4, .int .i64 a0_5, .int .i64 a0_6, .slice A0_7 l0_7.length c0_7, .bool a0_8]] rfl (by (try simp only [List.map_toArray, List.map_cons, List.map_nil]); first | done | rfl | (simp only [List.length_drop, List.length_take]; rfl)) ?_; (with_reducible refine (ententelaw21_Few.calls a0_0 a0_1 _ _ l0_2 a0_3 _ _ l0_4 a0_5 a0_6 _ _ l0_7 a0_8 true _ ?side1 ?side2 ?side3 ?side4 ?side5 ?side6 A2.out).mono ?_); (case side1 => repeat (first | exact (Kd.C_below HR0_2.out HB.out) | (with_reducible refine Kd.C_alloc ?_ _) | (with_reducible refine Kd.C_drewN ?_ _) | (with_reducible refine Kd.C_drew ?_))); (case side2 => exact HC0_2.out); (case side3 => repeat (first | exact (Kd.C_below HR0_4.out HB.out) | (with_reducible refine Kd.C_alloc ?_ _) | (with_reducible refine Kd.C_drewN ?_ _) | (with_reducible refine Kd.C_drew ?_))); (case side4 => exact HC0_4.out); (case side5 => repeat (first | exact (Kd.C_below HR0_7.out HB.out) | (with_reducible refine Kd.C_alloc ?_ _) | (with_reducible refine Kd.C_drewN ?_ _) | (with_reducible refine Kd.C_drew ?_))); (case side6 => exact HC0_7.out); rintro e w99 ⟨rfl, hb⟩; refine ⟨_, rfl, ?_⟩; have n0_ := Aside0.mk (blk_below (g := gb195) (o := .cells #[.int .i64 a0_0, .int .i64 a0_1, .slice A0_2 l0_2.length c0_2, .string a0_3, .slice A0_4 l0_4.length c0_4, .int .i64 a0_5, .int .i64 a0_6, .slice A0_7 l0_7.length c0_7, .bool a0_8] 50 (0, 0)) (mvB BK195.out) hb); have n1_ := Aside0.mk (below_step (mvL1 HB.out GE195.out) hb); clear BK195; clear HB; have BK195 := n0_; have HB := n1_; clear n0_ n1_; (try clear hb); (try clear hb2); (try clear hk); (try clear hi)))
    have n0_ := Aside0.mk (blk_drew BK195.out)
    have n1_ := Aside0.mk (below_drew1 HB.out)
    clear BK195
    clear HB
    have BK195 := n0_
    have HB := n1_
    clear n0_ n1_
    refine start_ (n := 7) (S := fun w' => w'.cell? ⟨gb195, 0, none⟩ = some (.int .i64 a0_0) ∧ w'.cell? ⟨gb195, 1, none⟩ = some (.int .i64 a0_1) ∧ w'.cell? ⟨gb195, 2, none⟩ = some (.slice A0_2 l0_2.length c0_2) ∧ w'.cell? ⟨gb195, 3, none⟩ = some (.string a0_3) ∧ w'.cell? ⟨gb195, 4, none⟩ = some (.slice A0_4 l0_4.length c0_4) ∧ w'.cell? ⟨gb195, 5, none⟩ = some (.int .i64 a0_5) ∧ w'.cell? ⟨gb195, 6, none⟩ = some (.int .i64 a0_6) ∧ w'.cell? ⟨gb195, 7, none⟩ = some (.slice A0_7 l0_7.length c0_7) ∧ w'.cell? ⟨gb195, 8, none⟩ = some (.bool a0_8)) (ds := []) #[false, false, false, false, false, false, false] (by kernel_rfl) rfl rfl ⟨(blk_cell BK195.out 0).trans rfl, (blk_cell BK195.out 1).trans rfl, (blk_cell BK195.out 2).trans rfl, (blk_cell BK195.out 3).trans rfl, (blk_cell BK195.out 4).trans rfl, (blk_cell BK195.out 5).trans rfl, (blk_cell BK195.out 6).trans rfl, (blk_cell BK195.out 7).trans rfl, (blk_cell BK195.out 8).trans rfl⟩ (fun hHeld => ?_)
    generalize w99.drew = w100 at BK195 HB hHeld ⊢
    refine pure_ (i := 0) (N := some 14) (v := ?_) (a' := ?_) #[true, false, false, false, false, false, false] rfl rfl (by kernel_rfl) (fun _ _ _ h => h) (Or.inl ⟨by rfl, ?_⟩) ?_ ?_
    rotate_left
    ·intro w'
     go_simp
     with_reducible rfl
    rotate_left
    ·simp only [Act.put, List.setIfInBounds_toArray, List.set_cons_zero, List.set_cons_succ, i64_w, i32_w]
     rfl
    refine take_ (i := 1) (N := some 15) (v := ?_) (a' := ?_) #[true, true, false, false, false, false, false] rfl rfl (by kernel_rfl) (fun _ _ _ h => h) (Or.inl ⟨by rfl, ?_⟩) hHeld ?_ ?_
    rotate_left
    ·rintro w' ⟨s0, s1, s2, s3, s4, s5, s6, s7, s8⟩
     go_simp
     with_reducible rfl
    rotate_left
    ·simp only [Act.put, List.setIfInBounds_toArray, List.set_cons_zero, List.set_cons_succ, i64_w, i32_w]
     rfl
    refine take_ (i := 4) (N := some 18) (v := ?_) (a' := ?_) #[true, true, false, false, true, false, false] rfl rfl (by kernel_rfl) (fun _ _ _ h => h) (Or.inl ⟨by rfl, ?_⟩) hHeld ?_ ?_
    rotate_left
    ·rintro w' ⟨s0, s1, s2, s3, s4, s5, s6, s7, s8⟩
     go_simp
     with_reducible rfl
    rotate_left
    ·simp only [Act.put, List.setIfInBounds_toArray, List.set_cons_zero, List.set_cons_succ, i64_w, i32_w]
     rfl
    refine one_ (i := 2) (N := some 16) #[true, true, true, false, true, false, false] rfl rfl (by kernel_rfl) (by decide) (fun K hK => ?_)
    refine goes_ Tryd.func14 (by kernel_rfl) rfl #[.agg #[.int .i64 a0_0, .int .i64 a0_1, .slice A0_2 l0_2.length c0_2]] (by rfl) rfl rfl (by (try simp only [List.map_toArray, List.map_cons, List.map_nil]); first | done | rfl | (simp only [List.length_drop, List.length_take]; rfl)) ?_
    with_reducible refine (ident_Org.calls k a0_0 a0_1 _ _ l0_2 t198 _ ?side1 ?side2 A4.out).mono ?_
    (case side1 => repeat (first | exact (Kd.C_below HR0_2.out HB.out) | (with_reducible refine Kd.C_alloc ?_ _) | (with_reducible refine Kd.C_drewN ?_ _) | (with_reducible refine Kd.C_drew ?_)))
    (case side2 => exact HC0_2.out)
    rintro e w101 ⟨rfl, hb⟩
    refine ⟨_, rfl, ?_⟩
    have n0_ := Aside0.mk (blk_below (g := gb195) (o := .cells #[.int .i64 a0_0, .int .i64 a0_1, .slice A0_2 l0_2.length c0_2, .string a0_3, .slice A0_4 l0_4.length c0_4, .int .i64 a0_5, .int .i64 a0_6, .slice A0_7 l0_7.length c0_7, .bool a0_8] 50 (0, 0)) (mvB BK195.out) hb)
    have n1_ := Aside0.mk (below_step (mvL1 HB.out GE195.out) hb)
    clear BK195
    clear HB
    have BK195 := n0_
    have HB := n1_
    clear n0_ n1_
    (try clear hb)
    (try clear hb2)
    (try clear hk)
    (try clear hi)
    refine hK.out _ _ ⟨(blk_cell BK195.out 0).trans rfl, (blk_cell BK195.out 1).trans rfl, (blk_cell BK195.out 2).trans rfl, (blk_cell BK195.out 3).trans rfl, (blk_cell BK195.out 4).trans rfl, (blk_cell BK195.out 5).trans rfl, (blk_cell BK195.out 6).trans rfl, (blk_cell BK195.out 7).trans rfl, (blk_cell BK195.out 8).trans rfl⟩ (fun hHeld => ?_)
    clear hK K
    refine norm_ (a' := ?_) ?_ ?_
    rotate_left
    ·show Act.put _ (some 16) _ = _
     simp only [Act.put, List.setIfInBounds_toArray, List.set_cons_zero, List.set_cons_succ, i64_w, i32_w]
     rfl
    refine pure_ (i := 3) (N := some 17) (v := ?_) (a' := ?_) #[true, true, true, true, true, false, false] rfl rfl (by kernel_rfl) (fun _ _ _ h => h) (Or.inl ⟨by rfl, ?_⟩) ?_ ?_
    rotate_left
    ·intro w'
     go_simp
     with_reducible rfl
    rotate_left
    ·simp only [Act.put, List.setIfInBounds_toArray, List.set_cons_zero, List.set_cons_succ, i64_w, i32_w]
     rfl
    refine one_ (i := 5) (N := some 19) #[true, true, true, true, true, true, false] rfl rfl (by kernel_rfl) (by decide) (fun K hK => ?_)
    refine goes_ Tryd.func13 (by kernel_rfl) rfl #[.agg #[.int .i64 t198, .int .i64 0, .int .i64 0, .slice none 0 0, .slice none 0 0, .slice none 0 0, .slice none 0 0], .agg #[.int .i64 a0_0, .int .i64 a0_1, .slice A0_2 l0_2.length c0_2, .string a0_3, .slice A0_4 l0_4.length c0_4, .int .i64 a0_5, .int .i64 a0_6, .slice A0_7 l0_7.length c0_7, .bool a0_8]] (by rfl) rfl rfl (by (try simp only [List.map_toArray, List.map_cons, List.map_nil]); first | done | rfl | (simp only [List.length_drop, List.length_take]; rfl)) ?_
    refine (dues_Of.calls k t198 0 0 _ _ ([] : List (S104)) _ _ ([] : List (S67)) _ _ ([] : List (S47)) _ _ ([] : List (S50)) a0_0 a0_1 _ _ l0_2 a0_3 _ _ l0_4 a0_5 a0_6 _ _ l0_7 a0_8 t199 _ ?side1 ?side2 ?side3 ?side4 ?side5 ?side6 ?side7 ?side8 ?side9 ?side10 ?side11 ?side12 ?side13 ?side14 A5.out).mono ?_
    (case side1 => exact Kd.C_nil _ _)
    (case side2 => exact Nat.le_refl _)
    (case side3 => exact Kd.C_nil _ _)
    (case side4 => exact Nat.le_refl _)
    (case side5 => exact Kd.C_nil _ _)
    (case side6 => exact Nat.le_refl _)
    (case side7 => exact Kd.C_nil _ _)
    (case side8 => exact Nat.le_refl _)
    (case side9 => repeat (first | exact (Kd.C_below HR0_2.out HB.out) | (with_reducible refine Kd.C_alloc ?_ _) | (with_reducible refine Kd.C_drewN ?_ _) | (with_reducible refine Kd.C_drew ?_)))
    (case side10 => exact HC0_2.out)
    (case side11 => repeat (first | exact (Kd.C_below HR0_4.out HB.out) | (with_reducible refine Kd.C_alloc ?_ _) | (with_reducible refine Kd.C_drewN ?_ _) | (with_reducible refine Kd.C_drew ?_)))
    (case side12 => exact HC0_4.out)
    (case side13 => repeat (first | exact (Kd.C_below HR0_7.out HB.out) | (with_reducible refine Kd.C_alloc ?_ _) | (with_reducible refine Kd.C_drewN ?_ _) | (with_reducible refine Kd.C_drew ?_)))
    (case side14 => exact HC0_7.out)
    rintro e w102 ⟨v200, rfl, ho0, hb⟩
    refine ⟨_, rfl, ?_⟩
    have n0_ := Aside0.mk (Kd.S_lower ho0 (below_size (mvL1 HB.out GE195.out)))
    have n1_ := Aside0.mk (blk_below (g := gb195) (o := .cells #[.int .i64 a0_0, .int .i64 a0_1, .slice A0_2 l0_2.length c0_2, .string a0_3, .slice A0_4 l0_4.length c0_4, .int .i64 a0_5, .int .i64 a0_6, .slice A0_7 l0_7.length c0_7, .bool a0_8] 50 (0, 0)) (mvB BK195.out) hb)
    have n2_ := Aside0.mk (below_step (mvL1 HB.out GE195.out) hb)
    clear BK195
    clear HB
    have HO201 := n0_
    have BK195 := n1_
    have HB := n2_
    clear n0_ n1_ n2_
    (try clear hb)
    (try clear hb2)
    (try clear hk)
    (try clear hi)
    (try clear ho0)
    refine hK.out _ _ ⟨(blk_cell BK195.out 0).trans rfl, (blk_cell BK195.out 1).trans rfl, (blk_cell BK195.out 2).trans rfl, (blk_cell BK195.out 3).trans rfl, (blk_cell BK195.out 4).trans rfl, (blk_cell BK195.out 5).trans rfl, (blk_cell BK195.out 6).trans rfl, (blk_cell BK195.out 7).trans rfl, (blk_cell BK195.out 8).trans rfl⟩ (fun hHeld => ?_)
    clear hK K
    refine norm_ (a' := ?_) ?_ ?_
    rotate_left
    ·show Act.put _ (some 19) _ = _
     simp only [Act.put, List.setIfInBounds_toArray, List.set_cons_zero, List.set_cons_succ, i64_w, i32_w]
     rfl
    refine pure_ (i := 6) (N := some 3) (v := ?_) (a' := ?_) #[true, true, true, true, true, true, true] rfl rfl (by kernel_rfl) (fun _ _ _ h => h) (Or.inl ⟨by rfl, ?_⟩) ?_ ?_
    rotate_left
    ·intro w'
     go_simp
     with_reducible rfl
    rotate_left
    ·simp only [Act.put, List.setIfInBounds_toArray, List.set_cons_zero, List.set_cons_succ, i64_w, i32_w]
     rfl
    refine done_ (by kernel_rfl) ?_
    have hcz103_0 : w102.cell? ⟨gb195, 0, none⟩ = some (.int .i64 a0_0) := (blk_cell BK195.out 0).trans rfl
    have hcz103_1 : w102.cell? ⟨gb195, 1, none⟩ = some (.int .i64 a0_1) := (blk_cell BK195.out 1).trans rfl
    have hcz103_2 : w102.cell? ⟨gb195, 2, none⟩ = some (.slice A0_2 l0_2.length c0_2) := (blk_cell BK195.out 2).trans rfl
    have hcz103_3 : w102.cell? ⟨gb195, 3, none⟩ = some (.string a0_3) := (blk_cell BK195.out 3).trans rfl
    have hcz103_4 : w102.cell? ⟨gb195, 4, none⟩ = some (.slice A0_4 l0_4.length c0_4) := (blk_cell BK195.out 4).trans rfl
    have hcz103_5 : w102.cell? ⟨gb195, 5, none⟩ = some (.int .i64 a0_5) := (blk_cell BK195.out 5).trans rfl
    have hcz103_6 : w102.cell? ⟨gb195, 6, none⟩ = some (.int .i64 a0_6) := (blk_cell BK195.out 6).trans rfl
    have hcz103_7 : w102.cell? ⟨gb195, 7, none⟩ = some (.slice A0_7 l0_7.length c0_7) := (blk_cell BK195.out 7).trans rfl
    have hcz103_8 : w102.cell? ⟨gb195, 8, none⟩ = some (.bool a0_8) := (blk_cell BK195.out 8).trans rfl
    have hfz103_0 := blk_frozen BK195.out 0
    have hfz103_1 := blk_frozen BK195.out 1
    have hfz103_2 := blk_frozen BK195.out 2
    have hfz103_3 := blk_frozen BK195.out 3
    have hfz103_4 := blk_frozen BK195.out 4
    have hfz103_5 := blk_frozen BK195.out 5
    have hfz103_6 := blk_frozen BK195.out 6
    have hfz103_7 := blk_frozen BK195.out 7
    have hfz103_8 := blk_frozen BK195.out 8
    try go_wp2_with (first | ((with_reducible refine gate_callee (f := 15) rfl ?_); refine goesL_ (some 21) rfl rfl Tryd.func15 (by kernel_rfl) rfl #[.agg #[.int .i64 a0_0, .int .i64 a0_1, .slice A0_2 l0_2.length c0_2, .string a0_3, .slice A0_4 l0_4.length c0_4, .int .i64 a0_5, .int .i64 a0_6, .slice A0_7 l0_7.length c0_7, .bool a0_8]] rfl (by (try simp only [List.map_toArray, List.map_cons, List.map_nil]); first | done | rfl | (simp only [List.length_drop, List.length_take]; rfl)) ?_; (with_reducible refine (saga_May.calls a0_0 a0_1 _ _ l0_2 a0_3 _ _ l0_4 a0_5 a0_6 _ _ l0_7 a0_8 t202 _ ?side1 ?side2 ?side3 ?side4 ?side5 ?side6 A6.out).mono ?_); (case side1 => repeat (first | exact (Kd.C_below HR0_2.out HB.out) | (with_reducible refine Kd.C_alloc ?_ _) | (with_reducible refine Kd.C_drewN ?_ _) | (with_reducible refine Kd.C_drew ?_))); (case side2 => exact HC0_2.out); (case side3 => repeat (first | exact (Kd.C_below HR0_4.out HB.out) | (with_reducible refine Kd.C_alloc ?_ _) | (with_reducible refine Kd.C_drewN ?_ _) | (with_reducible refine Kd.C_drew ?_))); (case side4 => exact HC0_4.out); (case side5 => repeat (first | exact (Kd.C_below HR0_7.out HB.out) | (with_reducible refine Kd.C_alloc ?_ _) | (with_reducible refine Kd.C_drewN ?_ _) | (with_reducible refine Kd.C_drew ?_))); (case side6 => exact HC0_7.out); rintro e w104 ⟨rfl, hb⟩; refine ⟨_, rfl, ?_⟩; have n0_ := Aside0.mk (Kd.S_below (mvS HO201.out) hb); have n1_ := Aside0.mk (blk_below (g := gb195) (o := .cells #[.int .i64 a0_0, .int .i64 a0_1, .slice A0_2 l0_2.length c0_2, .string a0_3, .slice A0_4 l0_4.length c0_4, .int .i64 a0_5, .int .i64 a0_6, .slice A0_7 l0_7.length c0_7, .bool a0_8] 50 (0, 0)) (mvB BK195.out) hb); have n2_ := Aside0.mk (below_step (mvL1 HB.out GE195.out) hb); clear HO201; clear BK195; clear HB; have HO201 := n0_; have BK195 := n1_; have HB := n2_; clear n0_ n1_ n2_; (try clear hb); (try clear hb2); (try clear hk); (try clear hi); obtain ⟨Ao105, co105, eo105⟩ := Kd.S_slice HO201.out; subst eo105) | (go_at_call 6; (with_reducible refine (ententelaw27_awake.calls  t203 _ A96.out).mono ?_); rintro e w106 ⟨rfl, hb⟩; have n0_ := Aside0.mk (Kd.S_below (mvS HO201.out) hb); have n1_ := Aside0.mk (blk_below (g := gb195) (o := .cells #[.int .i64 a0_0, .int .i64 a0_1, .slice A0_2 l0_2.length c0_2, .string a0_3, .slice A0_4 l0_4.length c0_4, .int .i64 a0_5, .int .i64 a0_6, .slice A0_7 l0_7.length c0_7, .bool a0_8] 50 (0, 0)) (mvB BK195.out) hb); have n2_ := Aside0.mk (below_step (mvL1 HB.out GE195.out) hb); clear HO201; clear BK195; clear HB; have HO201 := n0_; have BK195 := n1_; have HB := n2_; clear n0_ n1_ n2_; (try clear hb); (try clear hb2); (try clear hk); (try clear hi)))
    go_ret
    exact ⟨by first | rfl | (simp [errW_none, errW_some] <;> rfl) | (simp [*, errW_none, errW_some] <;> rfl) | (simp only [h_bne_nil, h_beq_nil] <;> rfl), by repeat (first | (with_reducible first | exact HB.out | apply below_alloc | apply pw_below_drewN | apply below_drew1 | refine below_set ?_ GE195.out) | exact HB.out)⟩
   ·rw [if_neg c95] at H
    have c95b0 : ((t199.length : Int) == 0) = false := beq_eq_false_iff_ne.mpr c95
    have c95b1 : ((t199.length : Int) != 0) = true := bne_iff_ne.mpr c95
    have c95b2 : ¬ (t199 = []) := fun h_ => c95 (by rw [h_]; rfl)
    obtain rfl := Option.some.inj H
    go_enter Tryd.func4, Tryd.ntmps4
    try go_wp2_with (first | ((with_reducible refine gate_dst (N := 1) rfl ?_); (try (refine gate_guard (by rfl) ?_; dsimp only)); refine box_event ?hg (N := 1) ?hd (cs := #[.int .i64 a0_0, .int .i64 a0_1, .slice A0_2 l0_2.length c0_2, .string a0_3, .slice A0_4 l0_4.length c0_4, .int .i64 a0_5, .int .i64 a0_6, .slice A0_7 l0_7.length c0_7, .bool a0_8]) (t := 50) ?hr ?_; (case hd => rfl); (case hg => rfl); (case hr => first | (go_simp; done) | (go_simp; rfl)); intro gb195 hg w107 hbox hb; have n0_ := Aside0.mk (below_step (mvL0 HB.out) hb); have n1_ := Aside0.mk (hbox); have n2_ := Aside0.mk ((by rw [hg]; exact (below_size (mvL0 HB.out)) : w.heap.size ≤ gb195)); have n3_ := Aside0.mk ((by rw [hg]; exact (below_size (mvL0 HB.out)) : w.heap.size ≤ gb195)); clear HB; have HB := n0_; have BK195 := n1_; have GW195 := n2_; have GE195 := n3_; clear n0_ n1_ n2_ n3_; clear hb hbox hg; have hcz108_0 : w107.cell? ⟨gb195, 0, none⟩ = some (.int .i64 a0_0) := (blk_cell BK195.out 0).trans rfl; have hcz108_1 : w107.cell? ⟨gb195, 1, none⟩ = some (.int .i64 a0_1) := (blk_cell BK195.out 1).trans rfl; have hcz108_2 : w107.cell? ⟨gb195, 2, none⟩ = some (.slice A0_2 l0_2.length c0_2) := (blk_cell BK195.out 2).trans rfl; have hcz108_3 : w107.cell? ⟨gb195, 3, none⟩ = some (.string a0_3) := (blk_cell BK195.out 3).trans rfl; have hcz108_4 : w107.cell? ⟨gb195, 4, none⟩ = some (.slice A0_4 l0_4.length c0_4) := (blk_cell BK195.out 4).trans rfl; have hcz108_5 : w107.cell? ⟨gb195, 5, none⟩ = some (.int .i64 a0_5) := (blk_cell BK195.out 5).trans rfl; have hcz108_6 : w107.cell? ⟨gb195, 6, none⟩ = some (.int .i64 a0_6) := (blk_cell BK195.out 6).trans rfl; have hcz108_7 : w107.cell? ⟨gb195, 7, none⟩ = some (.slice A0_7 l0_7.length c0_7) := (blk_cell BK195.out 7).trans rfl; have hcz108_8 : w107.cell? ⟨gb195, 8, none⟩ = some (.bool a0_8) := (blk_cell BK195.out 8).trans rfl; have hfz108_0 := blk_frozen BK195.out 0; have hfz108_1 := blk_frozen BK195.out 1; have hfz108_2 := blk_frozen BK195.out 2; have hfz108_3 := blk_frozen BK195.out 3; have hfz108_4 := blk_frozen BK195.out 4; have hfz108_5 := blk_frozen BK195.out 5; have hfz108_6 := blk_frozen BK195.out 6; have hfz108_7 := blk_frozen BK195.out 7; have hfz108_8 := blk_frozen BK195.out 8) | ((with_reducible refine gate_callee (f := 12) rfl ?_); refine goesL_ (some 11) rfl rfl Tryd.func12 (by kernel_rfl) rfl #[.agg #[.int .i64 a0_0, .int .i64 a0_1, .slice A0_2 l0_2.length c0_2, .string a0_3, .slice A0_4 l0_4.length c0_4, .int .i64 a0_5, .int .i64 a0_6, .slice A0_7 l0_7.length c0_7, .bool a0_8]] rfl (by (try simp only [List.map_toArray, List.map_cons, List.map_nil]); first | done | rfl | (simp only [List.length_drop, List.length_take]; rfl)) ?_; (with_reducible refine (ententelaw21_Few.calls a0_0 a0_1 _ _ l0_2 a0_3 _ _ l0_4 a0_5 a0_6 _ _ l0_7 a0_8 true _ ?side1 ?side2 ?side3 ?side4 ?side5 ?side6 A2.out).mono ?_); (case side1 => repeat (first | exact (Kd.C_below HR0_2.out HB.out) | (with_reducible refine Kd.C_alloc ?_ _) | (with_reducible refine Kd.C_drewN ?_ _) | (with_reducible refine Kd.C_drew ?_))); (case side2 => exact HC0_2.out); (case side3 => repeat (first | exact (Kd.C_below HR0_4.out HB.out) | (with_reducible refine Kd.C_alloc ?_ _) | (with_reducible refine Kd.C_drewN ?_ _) | (with_reducible refine Kd.C_drew ?_))); (case side4 => exact HC0_4.out); (case side5 => repeat (first | exact (Kd.C_below HR0_7.out HB.out) | (with_reducible refine Kd.C_alloc ?_ _) | (with_reducible refine Kd.C_drewN ?_ _) | (with_reducible refine Kd.C_drew ?_))); (case side6 => exact HC0_7.out); rintro e w109 ⟨rfl, hb⟩; refine ⟨_, rfl, ?_⟩; have n0_ := Aside0.mk (blk_below (g := gb195) (o := .cells #[.int .i64 a0_0, .int .i64 a0_1, .slice A0_2 l0_2.length c0_2, .string a0_3, .slice A0_4 l0_4.length c0_4, .int .i64 a0_5, .int .i64 a0_6, .slice A0_7 l0_7.length c0_7, .bool a0_8] 50 (0, 0)) (mvB BK195.out) hb); have n1_ := Aside0.mk (below_step (mvL1 HB.out GE195.out) hb); clear BK195; clear HB; have BK195 := n0_; have HB := n1_; clear n0_ n1_; (try clear hb); (try clear hb2); (try clear hk); (try clear hi)))
    have n0_ := Aside0.mk (blk_drew BK195.out)
    have n1_ := Aside0.mk (below_drew1 HB.out)
    clear BK195
    clear HB
    have BK195 := n0_
    have HB := n1_
    clear n0_ n1_
    refine start_ (n := 7) (S := fun w' => w'.cell? ⟨gb195, 0, none⟩ = some (.int .i64 a0_0) ∧ w'.cell? ⟨gb195, 1, none⟩ = some (.int .i64 a0_1) ∧ w'.cell? ⟨gb195, 2, none⟩ = some (.slice A0_2 l0_2.length c0_2) ∧ w'.cell? ⟨gb195, 3, none⟩ = some (.string a0_3) ∧ w'.cell? ⟨gb195, 4, none⟩ = some (.slice A0_4 l0_4.length c0_4) ∧ w'.cell? ⟨gb195, 5, none⟩ = some (.int .i64 a0_5) ∧ w'.cell? ⟨gb195, 6, none⟩ = some (.int .i64 a0_6) ∧ w'.cell? ⟨gb195, 7, none⟩ = some (.slice A0_7 l0_7.length c0_7) ∧ w'.cell? ⟨gb195, 8, none⟩ = some (.bool a0_8)) (ds := []) #[false, false, false, false, false, false, false] (by kernel_rfl) rfl rfl ⟨(blk_cell BK195.out 0).trans rfl, (blk_cell BK195.out 1).trans rfl, (blk_cell BK195.out 2).trans rfl, (blk_cell BK195.out 3).trans rfl, (blk_cell BK195.out 4).trans rfl, (blk_cell BK195.out 5).trans rfl, (blk_cell BK195.out 6).trans rfl, (blk_cell BK195.out 7).trans rfl, (blk_cell BK195.out 8).trans rfl⟩ (fun hHeld => ?_)
    generalize w109.drew = w110 at BK195 HB hHeld ⊢
    refine pure_ (i := 0) (N := some 14) (v := ?_) (a' := ?_) #[true, false, false, false, false, false, false] rfl rfl (by kernel_rfl) (fun _ _ _ h => h) (Or.inl ⟨by rfl, ?_⟩) ?_ ?_
    rotate_left
    ·intro w'
     go_simp
     with_reducible rfl
    rotate_left
    ·simp only [Act.put, List.setIfInBounds_toArray, List.set_cons_zero, List.set_cons_succ, i64_w, i32_w]
     rfl
    refine take_ (i := 1) (N := some 15) (v := ?_) (a' := ?_) #[true, true, false, false, false, false, false] rfl rfl (by kernel_rfl) (fun _ _ _ h => h) (Or.inl ⟨by rfl, ?_⟩) hHeld ?_ ?_
    rotate_left
    ·rintro w' ⟨s0, s1, s2, s3, s4, s5, s6, s7, s8⟩
     go_simp
     with_reducible rfl
    rotate_left
    ·simp only [Act.put, List.setIfInBounds_toArray, List.set_cons_zero, List.set_cons_succ, i64_w, i32_w]
     rfl
    refine take_ (i := 4) (N := some 18) (v := ?_) (a' := ?_) #[true, true, false, false, true, false, false] rfl rfl (by kernel_rfl) (fun _ _ _ h => h) (Or.inl ⟨by rfl, ?_⟩) hHeld ?_ ?_
    rotate_left
    ·rintro w' ⟨s0, s1, s2, s3, s4, s5, s6, s7, s8⟩
     go_simp
     with_reducible rfl
    rotate_left
    ·simp only [Act.put, List.setIfInBounds_toArray, List.set_cons_zero, List.set_cons_succ, i64_w, i32_w]
     rfl
    refine one_ (i := 2) (N := some 16) #[true, true, true, false, true, false, false] rfl rfl (by kernel_rfl) (by decide) (fun K hK => ?_)
    refine goes_ Tryd.func14 (by kernel_rfl) rfl #[.agg #[.int .i64 a0_0, .int .i64 a0_1, .slice A0_2 l0_2.length c0_2]] (by rfl) rfl rfl (by (try simp only [List.map_toArray, List.map_cons, List.map_nil]); first | done | rfl | (simp only [List.length_drop, List.length_take]; rfl)) ?_
    with_reducible refine (ident_Org.calls k a0_0 a0_1 _ _ l0_2 t198 _ ?side1 ?side2 A4.out).mono ?_
    (case side1 => repeat (first | exact (Kd.C_below HR0_2.out HB.out) | (with_reducible refine Kd.C_alloc ?_ _) | (with_reducible refine Kd.C_drewN ?_ _) | (with_reducible refine Kd.C_drew ?_)))
    (case side2 => exact HC0_2.out)
    rintro e w111 ⟨rfl, hb⟩
    refine ⟨_, rfl, ?_⟩
    have n0_ := Aside0.mk (blk_below (g := gb195) (o := .cells #[.int .i64 a0_0, .int .i64 a0_1, .slice A0_2 l0_2.length c0_2, .string a0_3, .slice A0_4 l0_4.length c0_4, .int .i64 a0_5, .int .i64 a0_6, .slice A0_7 l0_7.length c0_7, .bool a0_8] 50 (0, 0)) (mvB BK195.out) hb)
    have n1_ := Aside0.mk (below_step (mvL1 HB.out GE195.out) hb)
    clear BK195
    clear HB
    have BK195 := n0_
    have HB := n1_
    clear n0_ n1_
    (try clear hb)
    (try clear hb2)
    (try clear hk)
    (try clear hi)
    refine hK.out _ _ ⟨(blk_cell BK195.out 0).trans rfl, (blk_cell BK195.out 1).trans rfl, (blk_cell BK195.out 2).trans rfl, (blk_cell BK195.out 3).trans rfl, (blk_cell BK195.out 4).trans rfl, (blk_cell BK195.out 5).trans rfl, (blk_cell BK195.out 6).trans rfl, (blk_cell BK195.out 7).trans rfl, (blk_cell BK195.out 8).trans rfl⟩ (fun hHeld => ?_)
    clear hK K
    refine norm_ (a' := ?_) ?_ ?_
    rotate_left
    ·show Act.put _ (some 16) _ = _
     simp only [Act.put, List.setIfInBounds_toArray, List.set_cons_zero, List.set_cons_succ, i64_w, i32_w]
     rfl
    refine pure_ (i := 3) (N := some 17) (v := ?_) (a' := ?_) #[true, true, true, true, true, false, false] rfl rfl (by kernel_rfl) (fun _ _ _ h => h) (Or.inl ⟨by rfl, ?_⟩) ?_ ?_
    rotate_left
    ·intro w'
     go_simp
     with_reducible rfl
    rotate_left
    ·simp only [Act.put, List.setIfInBounds_toArray, List.set_cons_zero, List.set_cons_succ, i64_w, i32_w]
     rfl
    refine one_ (i := 5) (N := some 19) #[true, true, true, true, true, true, false] rfl rfl (by kernel_rfl) (by decide) (fun K hK => ?_)
    refine goes_ Tryd.func13 (by kernel_rfl) rfl #[.agg #[.int .i64 t198, .int .i64 0, .int .i64 0, .slice none 0 0, .slice none 0 0, .slice none 0 0, .slice none 0 0], .agg #[.int .i64 a0_0, .int .i64 a0_1, .slice A0_2 l0_2.length c0_2, .string a0_3, .slice A0_4 l0_4.length c0_4, .int .i64 a0_5, .int .i64 a0_6, .slice A0_7 l0_7.length c0_7, .bool a0_8]] (by rfl) rfl rfl (by (try simp only [List.map_toArray, List.map_cons, List.map_nil]); first | done | rfl | (simp only [List.length_drop, List.length_take]; rfl)) ?_
    refine (dues_Of.calls k t198 0 0 _ _ ([] : List (S104)) _ _ ([] : List (S67)) _ _ ([] : List (S47)) _ _ ([] : List (S50)) a0_0 a0_1 _ _ l0_2 a0_3 _ _ l0_4 a0_5 a0_6 _ _ l0_7 a0_8 t199 _ ?side1 ?side2 ?side3 ?side4 ?side5 ?side6 ?side7 ?side8 ?side9 ?side10 ?side11 ?side12 ?side13 ?side14 A5.out).mono ?_
    (case side1 => exact Kd.C_nil _ _)
    (case side2 => exact Nat.le_refl _)
    (case side3 => exact Kd.C_nil _ _)
    (case side4 => exact Nat.le_refl _)
    (case side5 => exact Kd.C_nil _ _)
    (case side6 => exact Nat.le_refl _)
    (case side7 => exact Kd.C_nil _ _)
    (case side8 => exact Nat.le_refl _)
    (case side9 => repeat (first | exact (Kd.C_below HR0_2.out HB.out) | (with_reducible refine Kd.C_alloc ?_ _) | (with_reducible refine Kd.C_drewN ?_ _) | (with_reducible refine Kd.C_drew ?_)))
    (case side10 => exact HC0_2.out)
    (case side11 => repeat (first | exact (Kd.C_below HR0_4.out HB.out) | (with_reducible refine Kd.C_alloc ?_ _) | (with_reducible refine Kd.C_drewN ?_ _) | (with_reducible refine Kd.C_drew ?_)))
    (case side12 => exact HC0_4.out)
    (case side13 => repeat (first | exact (Kd.C_below HR0_7.out HB.out) | (with_reducible refine Kd.C_alloc ?_ _) | (with_reducible refine Kd.C_drewN ?_ _) | (with_reducible refine Kd.C_drew ?_)))
    (case side14 => exact HC0_7.out)
    rintro e w112 ⟨v200, rfl, ho0, hb⟩
    refine ⟨_, rfl, ?_⟩
    have n0_ := Aside0.mk (Kd.S_lower ho0 (below_size (mvL1 HB.out GE195.out)))
    have n1_ := Aside0.mk (blk_below (g := gb195) (o := .cells #[.int .i64 a0_0, .int .i64 a0_1, .slice A0_2 l0_2.length c0_2, .string a0_3, .slice A0_4 l0_4.length c0_4, .int .i64 a0_5, .int .i64 a0_6, .slice A0_7 l0_7.length c0_7, .bool a0_8] 50 (0, 0)) (mvB BK195.out) hb)
    have n2_ := Aside0.mk (below_step (mvL1 HB.out GE195.out) hb)
    clear BK195
    clear HB
    have HO201 := n0_
    have BK195 := n1_
    have HB := n2_
    clear n0_ n1_ n2_
    (try clear hb)
    (try clear hb2)
    (try clear hk)
    (try clear hi)
    (try clear ho0)
    refine hK.out _ _ ⟨(blk_cell BK195.out 0).trans rfl, (blk_cell BK195.out 1).trans rfl, (blk_cell BK195.out 2).trans rfl, (blk_cell BK195.out 3).trans rfl, (blk_cell BK195.out 4).trans rfl, (blk_cell BK195.out 5).trans rfl, (blk_cell BK195.out 6).trans rfl, (blk_cell BK195.out 7).trans rfl, (blk_cell BK195.out 8).trans rfl⟩ (fun hHeld => ?_)
    clear hK K
    refine norm_ (a' := ?_) ?_ ?_
    rotate_left
    ·show Act.put _ (some 19) _ = _
     simp only [Act.put, List.setIfInBounds_toArray, List.set_cons_zero, List.set_cons_succ, i64_w, i32_w]
     rfl
    refine pure_ (i := 6) (N := some 3) (v := ?_) (a' := ?_) #[true, true, true, true, true, true, true] rfl rfl (by kernel_rfl) (fun _ _ _ h => h) (Or.inl ⟨by rfl, ?_⟩) ?_ ?_
    rotate_left
    ·intro w'
     go_simp
     with_reducible rfl
    rotate_left
    ·simp only [Act.put, List.setIfInBounds_toArray, List.set_cons_zero, List.set_cons_succ, i64_w, i32_w]
     rfl
    refine done_ (by kernel_rfl) ?_
    have hcz113_0 : w112.cell? ⟨gb195, 0, none⟩ = some (.int .i64 a0_0) := (blk_cell BK195.out 0).trans rfl
    have hcz113_1 : w112.cell? ⟨gb195, 1, none⟩ = some (.int .i64 a0_1) := (blk_cell BK195.out 1).trans rfl
    have hcz113_2 : w112.cell? ⟨gb195, 2, none⟩ = some (.slice A0_2 l0_2.length c0_2) := (blk_cell BK195.out 2).trans rfl
    have hcz113_3 : w112.cell? ⟨gb195, 3, none⟩ = some (.string a0_3) := (blk_cell BK195.out 3).trans rfl
    have hcz113_4 : w112.cell? ⟨gb195, 4, none⟩ = some (.slice A0_4 l0_4.length c0_4) := (blk_cell BK195.out 4).trans rfl
    have hcz113_5 : w112.cell? ⟨gb195, 5, none⟩ = some (.int .i64 a0_5) := (blk_cell BK195.out 5).trans rfl
    have hcz113_6 : w112.cell? ⟨gb195, 6, none⟩ = some (.int .i64 a0_6) := (blk_cell BK195.out 6).trans rfl
    have hcz113_7 : w112.cell? ⟨gb195, 7, none⟩ = some (.slice A0_7 l0_7.length c0_7) := (blk_cell BK195.out 7).trans rfl
    have hcz113_8 : w112.cell? ⟨gb195, 8, none⟩ = some (.bool a0_8) := (blk_cell BK195.out 8).trans rfl
    have hfz113_0 := blk_frozen BK195.out 0
    have hfz113_1 := blk_frozen BK195.out 1
    have hfz113_2 := blk_frozen BK195.out 2
    have hfz113_3 := blk_frozen BK195.out 3
    have hfz113_4 := blk_frozen BK195.out 4
    have hfz113_5 := blk_frozen BK195.out 5
    have hfz113_6 := blk_frozen BK195.out 6
    have hfz113_7 := blk_frozen BK195.out 7
    have hfz113_8 := blk_frozen BK195.out 8
    try go_wp2_with (first | ((with_reducible refine gate_callee (f := 15) rfl ?_); refine goesL_ (some 21) rfl rfl Tryd.func15 (by kernel_rfl) rfl #[.agg #[.int .i64 a0_0, .int .i64 a0_1, .slice A0_2 l0_2.length c0_2, .string a0_3, .slice A0_4 l0_4.length c0_4, .int .i64 a0_5, .int .i64 a0_6, .slice A0_7 l0_7.length c0_7, .bool a0_8]] rfl (by (try simp only [List.map_toArray, List.map_cons, List.map_nil]); first | done | rfl | (simp only [List.length_drop, List.length_take]; rfl)) ?_; (with_reducible refine (saga_May.calls a0_0 a0_1 _ _ l0_2 a0_3 _ _ l0_4 a0_5 a0_6 _ _ l0_7 a0_8 t202 _ ?side1 ?side2 ?side3 ?side4 ?side5 ?side6 A6.out).mono ?_); (case side1 => repeat (first | exact (Kd.C_below HR0_2.out HB.out) | (with_reducible refine Kd.C_alloc ?_ _) | (with_reducible refine Kd.C_drewN ?_ _) | (with_reducible refine Kd.C_drew ?_))); (case side2 => exact HC0_2.out); (case side3 => repeat (first | exact (Kd.C_below HR0_4.out HB.out) | (with_reducible refine Kd.C_alloc ?_ _) | (with_reducible refine Kd.C_drewN ?_ _) | (with_reducible refine Kd.C_drew ?_))); (case side4 => exact HC0_4.out); (case side5 => repeat (first | exact (Kd.C_below HR0_7.out HB.out) | (with_reducible refine Kd.C_alloc ?_ _) | (with_reducible refine Kd.C_drewN ?_ _) | (with_reducible refine Kd.C_drew ?_))); (case side6 => exact HC0_7.out); rintro e w114 ⟨rfl, hb⟩; refine ⟨_, rfl, ?_⟩; have n0_ := Aside0.mk (Kd.S_below (mvS HO201.out) hb); have n1_ := Aside0.mk (blk_below (g := gb195) (o := .cells #[.int .i64 a0_0, .int .i64 a0_1, .slice A0_2 l0_2.length c0_2, .string a0_3, .slice A0_4 l0_4.length c0_4, .int .i64 a0_5, .int .i64 a0_6, .slice A0_7 l0_7.length c0_7, .bool a0_8] 50 (0, 0)) (mvB BK195.out) hb); have n2_ := Aside0.mk (below_step (mvL1 HB.out GE195.out) hb); clear HO201; clear BK195; clear HB; have HO201 := n0_; have BK195 := n1_; have HB := n2_; clear n0_ n1_ n2_; (try clear hb); (try clear hb2); (try clear hk); (try clear hi); obtain ⟨Ao115, co115, eo115⟩ := Kd.S_slice HO201.out; subst eo115))
    go_ret
    exact ⟨by first | rfl | (simp [errW_none, errW_some] <;> rfl) | (simp [*, errW_none, errW_some] <;> rfl) | (simp only [h_bne_nil, h_beq_nil] <;> rfl), by repeat (first | (with_reducible first | exact HB.out | apply below_alloc | apply pw_below_drewN | apply below_drew1 | refine below_set ?_ GE195.out) | exact HB.out)⟩
 ·replace c3 := Bool.eq_false_iff.mpr c3
  subst c3
  have H1 : ((ententelaw27_awake.f).bind fun t197 => (some t197)) = some r := by rw [if_neg (show ¬ (false = true) by decide)] at H; exact H
  clear H
  have H := H1
  clear H1
  replace H := Option.bind_eq_some_iff.mp H
  obtain ⟨t197, A1160, H⟩ := H
  replace H : (some t197) = some r := H
  have A116 := Aside0.mk A1160
  clear A1160
  obtain rfl := Option.some.inj H
  go_enter Tryd.func4, Tryd.ntmps4
  go_wp2_with (first | ((with_reducible refine gate_dst (N := 1) rfl ?_); (try (refine gate_guard (by rfl) ?_; dsimp only)); refine box_event ?hg (N := 1) ?hd (cs := #[.int .i64 a0_0, .int .i64 a0_1, .slice A0_2 l0_2.length c0_2, .string a0_3, .slice A0_4 l0_4.length c0_4, .int .i64 a0_5, .int .i64 a0_6, .slice A0_7 l0_7.length c0_7, .bool a0_8]) (t := 50) ?hr ?_; (case hd => rfl); (case hg => rfl); (case hr => first | (go_simp; done) | (go_simp; rfl)); intro gb195 hg w117 hbox hb; have n0_ := Aside0.mk (below_step (mvL0 HB.out) hb); have n1_ := Aside0.mk (hbox); have n2_ := Aside0.mk ((by rw [hg]; exact (below_size (mvL0 HB.out)) : w.heap.size ≤ gb195)); have n3_ := Aside0.mk ((by rw [hg]; exact (below_size (mvL0 HB.out)) : w.heap.size ≤ gb195)); clear HB; have HB := n0_; have BK195 := n1_; have GW195 := n2_; have GE195 := n3_; clear n0_ n1_ n2_ n3_; clear hb hbox hg; have hcz118_0 : w117.cell? ⟨gb195, 0, none⟩ = some (.int .i64 a0_0) := (blk_cell BK195.out 0).trans rfl; have hcz118_1 : w117.cell? ⟨gb195, 1, none⟩ = some (.int .i64 a0_1) := (blk_cell BK195.out 1).trans rfl; have hcz118_2 : w117.cell? ⟨gb195, 2, none⟩ = some (.slice A0_2 l0_2.length c0_2) := (blk_cell BK195.out 2).trans rfl; have hcz118_3 : w117.cell? ⟨gb195, 3, none⟩ = some (.string a0_3) := (blk_cell BK195.out 3).trans rfl; have hcz118_4 : w117.cell? ⟨gb195, 4, none⟩ = some (.slice A0_4 l0_4.length c0_4) := (blk_cell BK195.out 4).trans rfl; have hcz118_5 : w117.cell? ⟨gb195, 5, none⟩ = some (.int .i64 a0_5) := (blk_cell BK195.out 5).trans rfl; have hcz118_6 : w117.cell? ⟨gb195, 6, none⟩ = some (.int .i64 a0_6) := (blk_cell BK195.out 6).trans rfl; have hcz118_7 : w117.cell? ⟨gb195, 7, none⟩ = some (.slice A0_7 l0_7.length c0_7) := (blk_cell BK195.out 7).trans rfl; have hcz118_8 : w117.cell? ⟨gb195, 8, none⟩ = some (.bool a0_8) := (blk_cell BK195.out 8).trans rfl; have hfz118_0 := blk_frozen BK195.out 0; have hfz118_1 := blk_frozen BK195.out 1; have hfz118_2 := blk_frozen BK195.out 2; have hfz118_3 := blk_frozen BK195.out 3; have hfz118_4 := blk_frozen BK195.out 4; have hfz118_5 := blk_frozen BK195.out 5; have hfz118_6 := blk_frozen BK195.out 6; have hfz118_7 := blk_frozen BK195.out 7; have hfz118_8 := blk_frozen BK195.out 8) | ((with_reducible refine gate_callee (f := 12) rfl ?_); refine goesL_ (some 11) rfl rfl Tryd.func12 (by kernel_rfl) rfl #[.agg #[.int .i64 a0_0, .int .i64 a0_1, .slice A0_2 l0_2.length c0_2, .string a0_3, .slice A0_4 l0_4.length c0_4, .int .i64 a0_5, .int .i64 a0_6, .slice A0_7 l0_7.length c0_7, .bool a0_8]] rfl (by (try simp only [List.map_toArray, List.map_cons, List.map_nil]); first | done | rfl | (simp only [List.length_drop, List.length_take]; rfl)) ?_; (with_reducible refine (ententelaw21_Few.calls a0_0 a0_1 _ _ l0_2 a0_3 _ _ l0_4 a0_5 a0_6 _ _ l0_7 a0_8 false _ ?side1 ?side2 ?side3 ?side4 ?side5 ?side6 A2.out).mono ?_); (case side1 => repeat (first | exact (Kd.C_below HR0_2.out HB.out) | (with_reducible refine Kd.C_alloc ?_ _) | (with_reducible refine Kd.C_drewN ?_ _) | (with_reducible refine Kd.C_drew ?_))); (case side2 => exact HC0_2.out); (case side3 => repeat (first | exact (Kd.C_below HR0_4.out HB.out) | (with_reducible refine Kd.C_alloc ?_ _) | (with_reducible refine Kd.C_drewN ?_ _) | (with_reducible refine Kd.C_drew ?_))); (case side4 => exact HC0_4.out); (case side5 => repeat (first | exact (Kd.C_below HR0_7.out HB.out) | (with_reducible refine Kd.C_alloc ?_ _) | (with_reducible refine Kd.C_drewN ?_ _) | (with_reducible refine Kd.C_drew ?_))); (case side6 => exact HC0_7.out); rintro e w119 ⟨rfl, hb⟩; refine ⟨_, rfl, ?_⟩; have n0_ := Aside0.mk (blk_below (g := gb195) (o := .cells #[.int .i64 a0_0, .int .i64 a0_1, .slice A0_2 l0_2.length c0_2, .string a0_3, .slice A0_4 l0_4.length c0_4, .int .i64 a0_5, .int .i64 a0_6, .slice A0_7 l0_7.length c0_7, .bool a0_8] 50 (0, 0)) (mvB BK195.out) hb); have n1_ := Aside0.mk (below_step (mvL1 HB.out GE195.out) hb); clear BK195; clear HB; have BK195 := n0_; have HB := n1_; clear n0_ n1_; (try clear hb); (try clear hb2); (try clear hk); (try clear hi)) | ((with_reducible refine gate_callee (f := 6) rfl ?_); refine goesL_ (some 13) rfl rfl Tryd.func6 (by kernel_rfl) rfl #[] rfl (by (try simp only [List.map_toArray, List.map_cons, List.map_nil]); first | done | rfl | (simp only [List.length_drop, List.length_take]; rfl)) ?_; (with_reducible refine (ententelaw27_awake.calls  t197 _ A116.out).mono ?_); rintro e w120 ⟨rfl, hb⟩; refine ⟨_, rfl, ?_⟩; have n0_ := Aside0.mk (blk_below (g := gb195) (o := .cells #[.int .i64 a0_0, .int .i64 a0_1, .slice A0_2 l0_2.length c0_2, .string a0_3, .slice A0_4 l0_4.length c0_4, .int .i64 a0_5, .int .i64 a0_6, .slice A0_7 l0_7.length c0_7, .bool a0_8] 50 (0, 0)) (mvB BK195.out) hb); have n1_ := Aside0.mk (below_step (mvL1 HB.out GE195.out) hb); clear BK195; clear HB; have BK195 := n0_; have HB := n1_; clear n0_ n1_; (try clear hb); (try clear hb2); (try clear hk); (try clear hi)))
  go_ret
  exact ⟨by first | rfl | (simp [errW_none, errW_some] <;> rfl) | (simp [*, errW_none, errW_some] <;> rfl) | (simp only [h_bne_nil, h_beq_nil] <;> rfl), by repeat (first | (with_reducible first | exact HB.out | apply below_alloc | apply pw_below_drewN | apply below_drew1 | refine below_set ?_ GE195.out) | exact HB.out)⟩

end Go.Proofs.YtidobdhkncaljaaDoorK
