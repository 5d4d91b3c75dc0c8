-- made by hprint.py out of the translation and the hand texts
import Derived.Test.YtidobdhkncaljaaDoorK0
import Derived.Test.YtidobdhkncaljaaDoorK2
import Derived.Test.YtidobdhkncaljaaDoorK3
import Derived.Test.YtidobdhkncaljaaDoorK4
import Derived.Test.YtidobdhkncaljaaDoorK5
import Derived.Test.YtidobdhkncaljaaDoorK6
import Derived.Test.YtidobdhkncaljaaDoorK8
import Derived.Test.YtidobdhkncaljaaDoorK9
import Derived.Test.YtidobdhkncaljaaDoorK10
import Derived.Test.YtidobdhkncaljaaDoorK11
import Derived.Test.YtidobdhkncaljaaDoorK13
import Derived.Test.YtidobdhkncaljaaDoorK14
namespace Go.Proofs.YtidobdhkncaljaaDoorK
open Go.RowKit Go.Proofs.YtidobdhkncaljaaDoorW.PrintWords Go.Proofs.YtidobdhkncaljaaDoorW.PrintLast Go.Proofs.YtidobdhkncaljaaDoorW.PrintMore
attribute [local go_sem] max2_int min2_int max_two min_two max_three min_three max_four min_four   -- for this text's walks alone
set_option linter.unusedVariables false
set_option linter.unusedSimpArgs false

theorem count_l0 (l : List S42) (u : Bool) (hl : l.length ≤ 100000) : ∀ (d k c i : Nat), i + d = l.length → d < k → c ≤ i → ententelaw27_count.l0 k l u (c : Int) (i : Int) = some (((c + (l.drop i).countP (fun n => decide (n.f0 ≥ 5) == u) : Nat) : Int)) := by
 intro d
 induction d with
 | zero =>
  intro k c i hi hk hc
  obtain ⟨k, rfl⟩ : ∃ m, k = m + 1 := ⟨k - 1, by omega⟩
  simp only [ententelaw27_count.l0]
  rw [if_neg (by omega), List.drop_of_length_le (by omega)]
  simp
 | succ d ih =>
  intro k c i hi hk hc
  obtain ⟨k, rfl⟩ : ∃ m, k = m + 1 := ⟨k - 1, by omega⟩
  have hlt : i < l.length := by omega
  have e : rd_T42 l (i : Int) = l[i] := by unfold rd_T42; rw [Int.toNat_natCast, List.getD_eq_getElem?_getD, List.getElem?_eq_getElem hlt]; rfl
  simp only [ententelaw27_count.l0]
  rw [if_pos (by omega), if_pos (by omega), e, wrap_up (i := (i : Int)) (by omega) (by omega), wrap_up (i := (c : Int)) (by omega) (by omega), show ((i : Int) + 1) = ((i + 1 : Nat) : Int) by omega, show ((c : Int) + 1) = ((c + 1 : Nat) : Int) by omega,
   ih k (c + 1) (i + 1) (by omega) (by omega) (by omega), ih k c (i + 1) (by omega) (by omega) (by omega), List.drop_eq_getElem_cons hlt, List.countP_cons]
  by_cases h : (decide (l[i].f0 ≥ 5) == u) = true
  ·rw [if_pos h]; simp only [h, if_true]; congr 1; omega
  ·rw [if_neg h]; simp only [h]; simp
theorem count_f (k : Nat) (l : List S42) (u : Bool) (hl : l.length ≤ 1000) (hk : l.length < k) : ententelaw27_count.f k l u = some ((l.countP (fun n => decide (n.f0 ≥ 5) == u) : Nat) : Int) := by
 unfold ententelaw27_count.f
 have h := count_l0 l u (by omega) l.length k 0 0 (by omega) hk (by omega)
 rw [List.drop_zero, Nat.zero_add] at h
 exact h
theorem owedAt_lt (x : S50) (i : Nat) : owedAt x i < 5 := by
 unfold owedAt
 repeat' split
 all_goals omega
theorem dueKids_le (x : S50) (n : Nat) : (dueKids x n).length ≤ n := by
 unfold dueKids
 refine Nat.le_trans (List.length_filterMap_le _ _) ?_
 rw [List.length_range]
 exact Nat.le_refl _
/-- The notes to children. -/
def kidNotes (x : S50) : List S42 := (dueKids x x.f1.f1.length).flatMap (dueNote x (owedAt x))
def upNotes (x : S50) : List S42 := if (tellOf x).2.2.2.2.2.2 = true then [⟨(tellOf x).1, ⟨(tellOf x).2.1, (tellOf x).2.2.1, (tellOf x).2.2.2.1⟩, (tellOf x).2.2.2.2.1, (tellOf x).2.2.2.2.2.1⟩] else []
theorem notesOf_eq (x : S50) : notesOf x = kidNotes x ++ upNotes x := rfl
theorem kidNotes_kind (x : S50) : ∀ n ∈ kidNotes x, n.f0 < 5 := by
 intro n hn
 obtain ⟨y, _, hy⟩ := List.mem_flatMap.1 hn
 unfold dueNote at hy
 split at hy
 ·simp at hy
 ·rw [List.mem_singleton.1 hy]; exact owedAt_lt x y.1
theorem kidNotes_le (x : S50) : (kidNotes x).length ≤ x.f1.f1.length := by
 have h : ∀ l : List (Nat × Int × Int × List S69), (l.flatMap (dueNote x (owedAt x))).length ≤ l.length := by
  intro l
  induction l with
  | nil => simp
  | cons y l ih =>
   have h1 : (dueNote x (owedAt x) y).length ≤ 1 := by unfold dueNote; split <;> simp
   simp only [List.flatMap_cons, List.length_append, List.length_cons]
   omega
 exact Nat.le_trans (h _) (dueKids_le x _)
theorem upNotes_le (x : S50) : (upNotes x).length ≤ 1 := by unfold upNotes; split <;> simp
theorem tellOf_kind (x : S50) (h : (tellOf x).2.2.2.2.2.2 = true) : 5 ≤ (tellOf x).1 := by
 unfold tellOf at h ⊢
 repeat' split at h
 all_goals first | (simp at h; done) | simp_all
theorem count_up (x : S50) : (notesOf x).countP (fun n => decide (n.f0 ≥ 5) == true) = (upNotes x).length := by
 rw [notesOf_eq, List.countP_append]
 have h1 : (kidNotes x).countP (fun n => decide (n.f0 ≥ 5) == true) = 0 := by
  rw [List.countP_eq_zero]
  intro n hn
  have := kidNotes_kind x n hn
  simp; omega
 have h2 : (upNotes x).countP (fun n => decide (n.f0 ≥ 5) == true) = (upNotes x).length := by
  rw [List.countP_eq_length]
  intro n hn
  unfold upNotes at hn
  split at hn
  ·rename_i h
   rw [List.mem_singleton.1 hn]
   simpa using tellOf_kind x h
  ·simp at hn
 omega
theorem count_down (x : S50) : (notesOf x).countP (fun n => decide (n.f0 ≥ 5) == false) = (kidNotes x).length := by
 rw [notesOf_eq, List.countP_append]
 have h1 : (kidNotes x).countP (fun n => decide (n.f0 ≥ 5) == false) = (kidNotes x).length := by
  rw [List.countP_eq_length]
  intro n hn
  have := kidNotes_kind x n hn
  simp; omega
 have h2 : (upNotes x).countP (fun n => decide (n.f0 ≥ 5) == false) = 0 := by
  rw [List.countP_eq_zero]
  intro n hn
  unfold upNotes at hn
  split at hn
  ·rename_i h
   have := tellOf_kind x h
   rw [List.mem_singleton.1 hn]
   simp; omega
  ·simp at hn
 omega
theorem sagaOk_status {x : S50} (h : sagaOk x = true) : 1 ≤ x.f2 ∧ x.f2 ≤ 7 := by
 unfold sagaOk at h
 simp only [Bool.and_eq_true] at h
 have h2 := h.2
 split at h2
 ·omega
 ·simp only [Bool.and_eq_true] at h2
  have h3 := h2.2
  unfold fitsOk at h3
  repeat' split at h3
  all_goals first | omega | (simp at h3; done)
theorem sagaOk_len {x : S50} (h : sagaOk x = true) (h7 : x.f2 ≠ 7) : x.f4.length = x.f1.f1.length ∧ x.f1.f1.length ≤ 8 := by
 unfold sagaOk at h
 simp only [Bool.and_eq_true] at h
 have h2 := h.2
 rw [if_neg h7] at h2
 simp only [Bool.and_eq_true, decide_eq_true_eq] at h2
 refine ⟨h2.1.1.2, ?_⟩
 have h3 := h2.1.1.1
 unfold defOk at h3
 simp only [Bool.and_eq_true, decide_eq_true_eq] at h3
 exact h3.1.2
theorem sagaOk_id {x : S50} (h : sagaOk x = true) : idOk x.f0.f0 x.f0.f1 x.f0.f2 = true := by
 unfold sagaOk at h
 simp only [Bool.and_eq_true] at h
 exact h.1
theorem up_len {x : S50} (h : sagaOk x = true) : (upNotes x).length = if (x.f2 ≠ 1 ∧ x.f2 ≠ 4 ∧ x.f2 ≠ 5) ∧ 0 < x.f0.f2.length then 1 else 0 := by
 have hs := sagaOk_status h
 unfold upNotes tellOf
 simp only [h, Bool.true_and, decide_eq_true_eq]
 by_cases h0 : 0 < x.f0.f2.length
 ·simp only [h0, if_true, and_true]
  by_cases a : x.f2 = 2
  ·simp [a]
  ·by_cases b : x.f2 = 3
   ·simp [b]
   ·by_cases c : x.f2 = 6 ∨ x.f2 = 7
    ·have hD : (x.f2 ≠ 1 ∧ x.f2 ≠ 4 ∧ x.f2 ≠ 5) := by omega
     rw [if_pos hD]
     simp [a, b, c]
    ·have hD : ¬ (x.f2 ≠ 1 ∧ x.f2 ≠ 4 ∧ x.f2 ≠ 5) := by omega
     rw [if_neg hD]
     simp [a, b, c]
 ·simp [h0]
theorem kidNotes_nil {x : S50} (h : ∀ i, i < x.f1.f1.length → owedAt x i = 0) : kidNotes x = [] := by
 unfold kidNotes
 rw [List.flatMap_eq_nil_iff]
 intro y hy
 unfold dueKids at hy
 obtain ⟨i, hi, he⟩ := List.mem_filterMap.1 hy
 unfold dueKid at he
 split at he
 ·injection he with he
  subst he
  unfold dueNote
  rw [if_pos (h i (by simpa using hi))]
 ·cases he
theorem someOf_false {x : S50} {l : List Int} (h : someOf x l = false) (i : Nat) (hi : i < x.f4.length) : ∀ y ∈ l, stAt x i ≠ y := by
 intro y hy
 unfold someOf at h
 simp only [Bool.not_eq_false', List.all_eq_true, List.mem_range] at h
 have h1 := h i hi
 unfold stIn at h1
 simp at h1
 exact fun e => h1 y hy e
theorem ended_none {x : S50} (h : endedOk x = true) : kidNotes x = [] := by
 unfold endedOk at h
 simp only [Bool.and_eq_true] at h
 obtain ⟨hs, h⟩ := h
 refine kidNotes_nil fun i hi => ?_
 unfold owedAt
 by_cases h7 : x.f2 = 7
 ·simp [h7]
 ·have hl := sagaOk_len hs h7
  rw [if_neg h7] at h
  by_cases h6 : x.f2 = 6
  ·rw [if_pos h6] at h
   have hh := someOf_false (by simpa using h) i (by omega)
   have a := hh 1 (by simp)
   have b := hh 2 (by simp)
   simp [h6, a, b]
  ·rw [if_neg h6] at h
   by_cases h3 : x.f2 = 3
   ·rw [if_pos h3] at h
    simp only [Bool.and_eq_true, Bool.not_eq_true'] at h
    have b := someOf_false h.1 i (by omega) 2 (by simp)
    have a : ¬ (stAt x i = 1 ∧ x.f5 = true) := by
     rintro ⟨a, c⟩
     have h2 := h.2
     rw [c, Bool.true_and] at h2
     exact someOf_false h2 i (by omega) 1 (by simp) a
    simp only [h3, b, a, if_false]
    simp
   ·rw [if_neg h3] at h
    cases h
theorem idxF_lt2 {α : Type} (p : α → Bool) (l : List α) : idxF p l < (l.length : Int) ∨ idxF p l = -1 := by
 unfold idxF
 cases h : l.findIdx? p with
 | none => exact .inr rfl
 | some i =>
  have := (List.findIdx?_eq_some_iff_getElem.1 h).1
  exact .inl (by show (i : Int) < _; omega)
theorem backN_lt2 (x : S50) : ∀ n : Nat, backN x n < (n : Int)
 | 0 => by unfold backN; omega
 | n + 1 => by
  have := backN_lt2 x n
  unfold backN
  split <;> omega
theorem curOf_lt2 (x : S50) : curOf x < (x.f4.length : Int) := by
 unfold curOf
 split
 ·rcases idxF_lt2 (fun p : S62 => decide (¬ p.f0 = 2)) x.f4 with h | h <;> omega
 ·split
  ·exact backN_lt2 x _
  ·omega
theorem curOf_status {x : S50} (h : 0 ≤ curOf x) : x.f2 = 1 ∨ x.f2 = 4 ∨ x.f2 = 5 := by
 unfold curOf at h
 split at h
 ·exact .inl ‹_›
 ·split at h
  ·exact .inr ‹_›
  ·omega
/-- A child that is waited for is owed a note. -/
theorem waits_some {x : S50} (hs : sagaOk x = true) (i : Nat) (hi : curOf x = (i : Int)) (hlt : i < x.f1.f1.length) (ha : askAt x i = true) (hw : stAt x i = 1 ∨ (x.f2 = 4 ∧ stAt x i = 2)) (hc : idOk x.f0.f0 x.f0.f1 (x.f0.f2 ++ [⟨(i : Int), (x.f1.f1.getD i z60).f1⟩]) = true) : 0 < (kidNotes x).length := by
 have hst := curOf_status (x := x) (by omega)
 have hk : dueKid x i = some (i, x.f0.f0, x.f0.f1, dueHops x i) := by
  unfold dueKid
  rw [if_pos]
  unfold dueKidOk dueHops
  rw [ha, sagaOk_id hs, hc]
  rfl
 have ho : owedAt x i ≠ 0 := by
  unfold owedAt
  rw [hs, hi]
  rcases hst with h | h | h
  ·rw [if_pos h]
   rcases hw with h2 | h2
   ·rw [if_pos h2]; omega
   ·omega
  ·rw [if_neg (by omega), if_pos (.inl h)]
   simp only [if_true]
   rw [if_pos ⟨trivial, by rcases hw with h2 | h2; exact .inl h2; exact .inr h2.2⟩]
   omega
  ·rw [if_neg (by omega), if_pos (.inr h)]
   simp only [if_true]
   rw [if_pos ⟨trivial, by rcases hw with h2 | h2; exact .inl h2; omega⟩]
   omega
 have hm : (i, x.f0.f0, x.f0.f1, dueHops x i) ∈ dueKids x x.f1.f1.length := by
  unfold dueKids
  exact List.mem_filterMap.2 ⟨i, by simpa using hlt, hk⟩
 have hn : (⟨owedAt x i, ⟨x.f0.f0, x.f0.f1, dueHops x i⟩, if owedAt x i = 1 then (x.f1.f1.getD i z60).f2 else ⟨#[]⟩, 0⟩ : S42) ∈ kidNotes x := by
  unfold kidNotes
  refine List.mem_flatMap.2 ⟨_, hm, ?_⟩
  unfold dueNote
  rw [if_neg ho]
  exact List.mem_singleton.2 rfl
 exact List.length_pos_of_mem hn

end Go.Proofs.YtidobdhkncaljaaDoorK
