-- made by hprint.py out of the translation and the hand texts
import Derived.Test.YtidobdhkncaljaaDoorK0
import Derived.Test.YtidobdhkncaljaaDoorK2
import Derived.Test.YtidobdhkncaljaaDoorK6
namespace Go.Proofs.YtidobdhkncaljaaDoorK
open Go.RowKit Go.Proofs.YtidobdhkncaljaaDoorW.PrintWords Go.Proofs.YtidobdhkncaljaaDoorW.PrintLast Go.Proofs.YtidobdhkncaljaaDoorW.PrintMore
attribute [local go_sem] max2_int min2_int max_two min_two max_three min_three max_four min_four   -- for this text's walks alone
set_option linter.unusedVariables false
set_option linter.unusedSimpArgs false

/-! ### saga_holder_running: function 58, by hand -/
def gotN (x : S50) : Nat → Nat → Nat
 | 0, n => n
 | d + 1, n => if gotAt x n = true then gotN x d (n + 1) else n
/-- How many parts from the first on are got. -/
def gotLen (x : S50) : Nat := gotN x x.f4.length 0
def runOk (x : S50) : Bool := tailOk x (gotLen x)
theorem gotN_step (x : S50) (k : Nat) (hk : k < x.f4.length) (hg : gotAt x k = true) : gotN x (x.f4.length - k) k = gotN x (x.f4.length - (k + 1)) (k + 1) := by
 rw [show x.f4.length - k = (x.f4.length - (k + 1)) + 1 by omega]
 simp [gotN, hg]
set_option maxHeartbeats 2000000 in
set_option maxRecDepth 100000 in
theorem saga_holder_running.at (g : Nat) (x : S50) (W : World) (hH : HH W g x) (hlen : x.f4.length ≤ x.f1.f1.length) (hl : x.f4.length ≤ 1000) :
  Calls Tryd.prog 58 #[.pointer (some ⟨g, 0, none⟩)] W (fun e W' => e = .returned (.bool (runOk x)) ∧ Below W.heap.size W W') := by
 have HHH := Aside0.mk hH
 have HB := Aside0.mk (Below.refl W.heap.size W)
 clear hH
 obtain ⟨R, hR⟩ : ∃ R, R = runOk x := ⟨_, rfl⟩
 rw [← hR]
 have HRR := Aside0.mk hR
 clear hR
 go_enter Tryd.func58, Tryd.ntmps58
 go_wp2_with (fail)
 go_loopw [3] (fun v wr => ∃ k : Nat, v = .int .i64 k ∧ k ≤ x.f4.length ∧ Aside0 (gotN x (x.f4.length - k) k = gotLen x) ∧ Aside0 (Below W.heap.size W wr)) (fun v _ => x.f4.length - (intOf v).toNat)
 case atStart => exact ⟨0, rfl, Nat.zero_le _, ⟨rfl⟩, HB⟩
 case round =>
  obtain ⟨k, rfl, hk, hgn, HBk⟩ := hrel
  have HHk := Aside0.mk (HHH.out.below HBk.out)
  obtain ⟨A2, c2, A4, c4, A7, c7, h0, h1, h2, h3, h4, h5, h6, h7, h8, r2, r4, r7⟩ := HHk.out.cells
  clear r2 r4 r7 h0 h1 h2 h3 h4 h5 h6 h8
  have HLEN := Aside0.mk hlen
  by_cases hlt : k < x.f4.length
  ·obtain ⟨bg, hbg⟩ : ∃ b, b = gotAt x k := ⟨_, rfl⟩
   have EG := Aside0.mk hbg
   clear hbg hlen
   go_wp2_with (fail)
   refine (saga_holder_got.at g x k _ HHk.out hlt (by have := HLEN.out; omega)).mono ?_
   rintro e w1 ⟨rfl, hb1⟩
   have HB1 := Aside0.mk (below_step HBk.out hb1)
   clear hb1
   rw [← EG.out]
   cases bg with
   | true =>
    go_wp2
    go_roundw
    case rel => exact ⟨k + 1, by go_num, by omega, ⟨by rw [← gotN_step x k hlt EG.out.symm]; exact hgn.out⟩, HB1⟩
    case measure => simp [intOf]; omega
   | false =>
    have hkk : k = gotLen x := by
     rw [← hgn.out, show x.f4.length - k = (x.f4.length - (k + 1)) + 1 by omega]
     simp [gotN, ← EG.out]
    have HKK := Aside0.mk hkk
    clear hkk
    go_wp2_with (fail)
    refine (saga_holder_tail.at g x k _ (HHH.out.below HB1.out) (by omega) HLEN.out hl).mono ?_
    rintro e w2 ⟨rfl, hb2⟩
    have HB2 := Aside0.mk (below_step HB1.out hb2)
    clear hb2
    go_wp2
    go_ret
    refine ⟨(show Ending.returned (.bool (tailOk x k)) = Ending.returned (.bool R) from ?_), HB2.out⟩
    rw [HRR.out, HKK.out]
    rfl
  ·have hkk : k = gotLen x := by
    rw [← hgn.out, show x.f4.length - k = 0 by omega]
    rfl
   have HKK := Aside0.mk hkk
   clear hkk
   go_wp2_with (fail)
   refine (saga_holder_tail.at g x k _ HHk.out (by omega) HLEN.out hl).mono ?_
   rintro e w2 ⟨rfl, hb2⟩
   have HB2 := Aside0.mk (below_step HBk.out hb2)
   clear hb2
   go_wp2
   go_ret
   refine ⟨(show Ending.returned (.bool (tailOk x k)) = Ending.returned (.bool R) from ?_), HB2.out⟩
   rw [HRR.out, HKK.out]
   rfl

end Go.Proofs.YtidobdhkncaljaaDoorK
