-- made by hprint.py out of the translation and the hand texts
import Derived.Test.YtidobdhkncaljaaDoorK0
import Derived.Test.YtidobdhkncaljaaDoorK2
import Derived.Test.YtidobdhkncaljaaDoorK3
import Derived.Test.YtidobdhkncaljaaDoorK4
import Derived.Test.YtidobdhkncaljaaDoorK6
import Derived.Test.YtidobdhkncaljaaDoorK9
import Derived.Test.YtidobdhkncaljaaDoorK11
import Derived.Test.YtidobdhkncaljaaDoorK12
import Derived.Test.YtidobdhkncaljaaDoorK13
import Derived.Test.YtidobdhkncaljaaDoorK14
import Derived.Test.YtidobdhkncaljaaDoorK15
import Derived.Test.YtidobdhkncaljaaDoorKXdues_needed
namespace Go.Proofs.YtidobdhkncaljaaDoorK
open Go.RowKit Go.Proofs.YtidobdhkncaljaaDoorW.PrintWords Go.Proofs.YtidobdhkncaljaaDoorW.PrintLast Go.Proofs.YtidobdhkncaljaaDoorW.PrintMore
attribute [local go_sem] max2_int min2_int max_two min_two max_three min_three max_four min_four   -- for this text's walks alone
set_option linter.unusedVariables false
set_option linter.unusedSimpArgs false

theorem toList_nil_size (s : ByteArray) : (s.toList = ([] : List UInt8)) ↔ s.size = 0 := str_nil_iff s
theorem Needed_j4 (x : S50) (k c : Nat) (wt : Bool) (hk : 60 < k) (haw : ententelaw27_awake.f = some true) (hl : (notesOf x).length ≤ 51) (hlt : wt = true → c < x.f1.f1.length)
  (hw : wt = true → idOk x.f0.f0 x.f0.f1 x.f0.f2 = true → idOk x.f0.f0 x.f0.f1 (x.f0.f2 ++ [⟨(c : Int), (x.f1.f1.getD c z60).f1⟩]) = true → 0 < (kidNotes x).length) :
  ententelaw27_DuesNeeded.j4 k (notesOf x) (c : Int) wt x.f0.f0 x.f0.f1 x.f0.f2 x.f1.f0 x.f1.f1 x.f2 x.f3 x.f4 x.f5 = some true := by
 obtain ⟨k, rfl⟩ : ∃ m, k = m + 1 := ⟨k - 1, by omega⟩
 simp only [ententelaw27_DuesNeeded.j4]
 have ha := haw
 cases wt with
 | false => simp [ha]
 | true =>
  have hlt' := hlt rfl
  have e : (rd_T60 x.f1.f1 (c : Int)).f1 = (x.f1.f1.getD c z60).f1 := by unfold rd_T60; rw [Int.toNat_natCast]
  simp only [if_true]
  rw [if_pos (by omega), if_pos (by omega), e, ident_Child_f]
  simp only [Option.bind_some]
  rw [count_f k (notesOf x) false (by omega) (by omega), count_down]
  by_cases hc : (idOk x.f0.f0 x.f0.f1 x.f0.f2 && idOk x.f0.f0 x.f0.f1 (x.f0.f2 ++ [⟨(c : Int), (x.f1.f1.getD c z60).f1⟩])) = true
  ·rw [if_pos hc]
   simp only [Bool.and_eq_true] at hc
   have hp := hw rfl hc.1 hc.2
   simp only [if_true, Option.bind_some, ha]
   rw [if_pos (by omega)]
  ·rw [if_neg hc]
   simp [ha]
theorem sagaOk_lens {x : S50} (hs : sagaOk x = true) (h1 : x.f1.f1.length ≤ 50) (h2 : x.f4.length ≤ 200) : x.f4.length = x.f1.f1.length ∧ x.f1.f1.length ≤ 8 := by
 by_cases h7 : x.f2 = 7
 ·unfold sagaOk at hs
  simp only [Bool.and_eq_true] at hs
  have h3 := hs.2
  rw [if_pos h7] at h3
  unfold refOk at h3
  simp only [Bool.and_eq_true, Bool.not_eq_true', decide_eq_false_iff_not] at h3
  have h4 := h3.1.1.1.2
  rw [show wrap64 ((x.f1.f1.length : Int) + (x.f4.length : Int)) = (x.f1.f1.length : Int) + (x.f4.length : Int) by unfold wrap64; omega] at h4
  omega
 ·exact sagaOk_len hs h7
theorem Needed_j3 (x : S50) (k : Nat) (hs : sagaOk x = true) (hk : 61 < k) (haw : ententelaw27_awake.f = some true) (hl : (notesOf x).length ≤ 51) (h1 : x.f1.f1.length ≤ 50) (h2 : x.f4.length ≤ 200) :
  ententelaw27_DuesNeeded.j3 k (notesOf x) false x.f0.f0 x.f0.f1 x.f0.f2 x.f1.f0 x.f1.f1 x.f2 x.f3 x.f4 x.f5 = some true := by
 obtain ⟨k, rfl⟩ : ∃ m, k = m + 1 := ⟨k - 1, by omega⟩
 simp only [ententelaw27_DuesNeeded.j3]
 have hlen := sagaOk_lens hs h1 h2
 have hc : saga_Current.f x.f0.f0 x.f0.f1 x.f0.f2 x.f1.f0 x.f1.f1 x.f2 x.f3 x.f4 x.f5 = some (curOf x) := by unfold saga_Current.f; rw [if_pos (by omega)]; rw [if_pos hs]
 rw [hc]
 simp only [Bool.false_eq_true, if_false, Option.bind_some]
 have hlt := curOf_lt2 x
 by_cases h0 : curOf x ≥ 0
 ·obtain ⟨c, hcc⟩ : ∃ c : Nat, curOf x = (c : Int) := ⟨(curOf x).toNat, by omega⟩
  have hst := curOf_status (x := x) h0
  rw [hcc] at hlt ⊢
  rw [if_pos (by omega), if_pos (by omega), if_pos (by omega)]
  have e2 : (rd_T60 x.f1.f1 (c : Int)).f2 = (x.f1.f1.getD c z60).f2 := by unfold rd_T60; rw [Int.toNat_natCast]
  have e0 : (rd_T62 x.f4 (c : Int)).f0 = stAt x c := rfl
  have ea : askAt x c = !((x.f1.f1.getD c z60).f2.toList.isEmpty) := rfl
  rw [e2, e0]
  by_cases hsub : (x.f1.f1.getD c z60).f2.toList = ([] : List UInt8)
  ·rw [if_pos hsub]
   exact Needed_j4 x k c false (by omega) haw hl (fun h => by cases h) (fun h => by cases h)
  ·rw [if_neg hsub, if_pos (by omega)]
   have hask : askAt x c = true := by
    rw [ea]
    cases hq : (x.f1.f1.getD c z60).f2.toList with
    | nil => exact absurd hq hsub
    | cons _ _ => rfl
   by_cases hs1 : stAt x c = 1
   ·rw [if_pos hs1]
    exact Needed_j4 x k c true (by omega) haw hl (fun _ => by omega) (fun _ _ h => waits_some hs c hcc (by omega) hask (.inl hs1) h)
   ·rw [if_neg hs1]
    by_cases h4 : x.f2 = 4
    ·rw [if_pos h4]
     by_cases hs2 : stAt x c = 2
     ·rw [show (stAt x c == 2) = true by simp [hs2]]
      exact Needed_j4 x k c true (by omega) haw hl (fun _ => by omega) (fun _ _ h => waits_some hs c hcc (by omega) hask (.inr ⟨h4, hs2⟩) h)
     ·rw [show (stAt x c == 2) = false by simp [hs2]]
      exact Needed_j4 x k c false (by omega) haw hl (fun h => by cases h) (fun h => by cases h)
    ·rw [if_neg h4]
     exact Needed_j4 x k c false (by omega) haw hl (fun h => by cases h) (fun h => by cases h)
 ·rw [if_neg h0]
  obtain ⟨k, rfl⟩ : ∃ m, k = m + 1 := ⟨k - 1, by omega⟩
  simp only [ententelaw27_DuesNeeded.j4]
  simp [haw]
theorem Needed_j1 (x : S50) (k : Nat) (b : Bool) (hs : sagaOk x = true) (hk : 63 < k) (haw : ententelaw27_awake.f = some true) (hl : (notesOf x).length ≤ 51) (h1 : x.f1.f1.length ≤ 50) (h2 : x.f4.length ≤ 200) (hb : (b = true) ↔ ((x.f2 ≠ 1 ∧ x.f2 ≠ 4 ∧ x.f2 ≠ 5) ∧ 0 < x.f0.f2.length)) :
  ententelaw27_DuesNeeded.j1 k (notesOf x) 0 b x.f0.f0 x.f0.f1 x.f0.f2 x.f1.f0 x.f1.f1 x.f2 x.f3 x.f4 x.f5 = some true := by
 obtain ⟨k, rfl⟩ : ∃ m, k = m + 2 := ⟨k - 2, by omega⟩
 have hlen := sagaOk_lens hs h1 h2
 have hu := up_len hs
 have he : saga_Ended.f x.f0.f0 x.f0.f1 x.f0.f2 x.f1.f0 x.f1.f1 x.f2 x.f3 x.f4 x.f5 = some (endedOk x) := by unfold saga_Ended.f; rw [if_pos (by omega)]
 have h3 := Needed_j3 x k hs (by omega) haw hl h1 h2
 have key : ∀ u : Int, u = ((upNotes x).length : Int) → ententelaw27_DuesNeeded.j2 (k + 1) (notesOf x) u x.f0.f0 x.f0.f1 x.f0.f2 x.f1.f0 x.f1.f1 x.f2 x.f3 x.f4 x.f5 = some true := by
  intro u hu
  simp only [ententelaw27_DuesNeeded.j2]
  rw [count_f k (notesOf x) true (by omega) (by omega), count_up, he]
  simp only [Option.bind_some]
  rw [if_pos hu.symm]
  by_cases hend : endedOk x = true
  ·rw [if_pos hend, count_f k (notesOf x) false (by omega) (by omega), count_down, ended_none hend]
   exact h3
  ·rw [if_neg hend]
   exact h3
 simp only [ententelaw27_DuesNeeded.j1]
 by_cases hbb : b = true
 ·rw [if_pos hbb]
  exact key 1 (by rw [hu, if_pos (hb.1 hbb)]; rfl)
 ·rw [if_neg hbb]
  exact key 0 (by rw [hu, if_neg (fun h => hbb (hb.2 h))]; rfl)
theorem Needed_f (x : S50) (k : Nat) (hk : 70 < k) (haw : ententelaw27_awake.f = some true) : ententelaw27_DuesNeeded.f k x.f0.f0 x.f0.f1 x.f0.f2 x.f1.f0 x.f1.f1 x.f2 x.f3 x.f4 x.f5 = some true := by
 unfold ententelaw27_DuesNeeded.f ententelaw21_Few.f
 by_cases hF : x.f0.f2.length ≤ 50 ∧ x.f1.f1.length ≤ 50 ∧ x.f4.length ≤ 200
 ·obtain ⟨hF0, h1, h2⟩ := hF
  rw [if_pos (by omega), if_pos (by omega), show decide ((x.f4.length : Int) ≤ 200) = true by simp; omega]
  simp only [Option.bind_some, if_true]
  rw [Org_f k _ _ _ (by omega)]
  simp only [Option.bind_some]
  unfold dues_Of.f
  rw [show saga_May.f x.f0.f0 x.f0.f1 x.f0.f2 x.f1.f0 x.f1.f1 x.f2 x.f3 x.f4 x.f5 = some (if sagaOk x = true then 0 else 230) from rfl]
  simp only [Option.bind_some]
  by_cases hs : sagaOk x = true
  ·have hlen := sagaOk_lens hs h1 h2
   have hd : dues_of.f x.f0.f0 x.f0.f1 x.f0.f2 x.f1.f0 x.f1.f1 x.f2 x.f3 x.f4 x.f5 = some (notesOf x) := by unfold dues_of.f; rw [if_pos ⟨by omega, by omega⟩]
   rw [if_pos hs, if_pos rfl, Org_f k _ _ _ (by omega)]
   simp only [Option.bind_some]
   rw [hd]
   simp only [if_true, Option.bind_some]
   have hl : (notesOf x).length ≤ 51 := by
    have a := kidNotes_le x
    have b := upNotes_le x
    rw [notesOf_eq, List.length_append]
    omega
   obtain ⟨k, rfl⟩ : ∃ m, k = m + 1 := ⟨k - 1, by omega⟩
   have hj : ∀ D : Bool, (D = true ↔ (x.f2 ≠ 1 ∧ x.f2 ≠ 4 ∧ x.f2 ≠ 5)) → ententelaw27_DuesNeeded.j0 (k + 1) (notesOf x) D x.f0.f0 x.f0.f1 x.f0.f2 x.f1.f0 x.f1.f1 x.f2 x.f3 x.f4 x.f5 = some true := by
    intro D hD
    simp only [ententelaw27_DuesNeeded.j0]
    by_cases hDD : D = true
    ·rw [if_pos hDD]
     exact Needed_j1 x k _ hs (by omega) haw hl h1 h2 (by rw [decide_eq_true_eq]; have := hD.1 hDD; constructor <;> intro h <;> omega)
    ·rw [if_neg hDD]
     exact Needed_j1 x k _ hs (by omega) haw hl h1 h2 (by have := fun h => hDD (hD.2 h); constructor <;> intro h; cases h; exact absurd h.1 this)
   by_cases a : x.f2 = 1
   ·rw [if_pos a]; exact hj false (by simp [a])
   ·rw [if_neg a]
    by_cases b : x.f2 = 4
    ·rw [if_pos b]; exact hj false (by simp [b])
    ·rw [if_neg b]; exact hj (x.f2 != 5) (by simp [a, b])
  ·rw [if_neg hs, if_neg (by omega)]
   simp only [Option.bind_some]
   rw [if_neg (by omega)]
   simp [haw]
 ·by_cases a : (x.f0.f2.length : Int) ≤ 50
  ·rw [if_pos a]
   by_cases b : (x.f1.f1.length : Int) ≤ 50
   ·rw [if_pos b, show decide ((x.f4.length : Int) ≤ 200) = false by simp; omega]
    simp [haw]
   ·rw [if_neg b]
    simp [haw]
  ·rw [if_neg a]
   simp [haw]

end Go.Proofs.YtidobdhkncaljaaDoorK
