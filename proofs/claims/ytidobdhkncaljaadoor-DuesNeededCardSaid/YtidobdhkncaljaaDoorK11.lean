-- made by hprint.py out of the translation and the hand texts
import Derived.Test.YtidobdhkncaljaaDoorK0
import Derived.Test.YtidobdhkncaljaaDoorK2
import Derived.Test.YtidobdhkncaljaaDoorK4
import Derived.Test.YtidobdhkncaljaaDoorK9
import Derived.Test.YtidobdhkncaljaaDoorK10
namespace Go.Proofs.YtidobdhkncaljaaDoorK
open Go.RowKit Go.Proofs.YtidobdhkncaljaaDoorW.PrintWords Go.Proofs.YtidobdhkncaljaaDoorW.PrintLast Go.Proofs.YtidobdhkncaljaaDoorW.PrintMore
attribute [local go_sem] max2_int min2_int max_two min_two max_three min_three max_four min_four   -- for this text's walks alone
set_option linter.unusedVariables false
set_option linter.unusedSimpArgs false

/-! ### dues_of: function 22, by hand -/
attribute [local go_sem] Oper.semAt_some
theorem owedAt_f (x : S50) (i : Nat) (hi : i < x.f4.length) (hx : x.f4.length ≤ 1000) : dues_owed.f x.f0.f0 x.f0.f1 x.f0.f2 x.f1.f0 x.f1.f1 x.f2 x.f3 x.f4 x.f5 (i : Int) = some (owedAt x i) := by
 unfold dues_owed.f
 rw [if_pos hx, if_pos (by omega), Int.toNat_natCast, if_pos hi]
/-- What a child is owed, as a note; none. -/
def dueNote (x : S50) (ow : Nat → Int) (y : Nat × Int × Int × List S69) : List S42 := if ow y.1 = 0 then [] else [⟨ow y.1, ⟨y.2.1, y.2.2.1, y.2.2.2⟩, if ow y.1 = 1 then (x.f1.f1.getD y.1 z60).f2 else ⟨#[]⟩, 0⟩]
def dueOuts (x : S50) (ow : Nat → Int) (pre : List YC) : List S42 := (pre.map YC.strip).flatMap (dueNote x ow)
def DueInv (x : S50) (ow : Nat → Int) (A2 : Option Addr) (c2 : Nat) (A4 : Option Addr) (c4 : Nat) (A7 : Option Addr) (c7 : Nat) (w : World) (pre : List YC) (W : World) : Prop :=
 Below w.heap.size w W ∧ W.heap[w.heap.size]? = some (.cells #[.int .i64 x.f0.f0, .int .i64 x.f0.f1, .slice A2 x.f0.f2.length c2, .string x.f1.f0, .slice A4 x.f1.f1.length c4, .int .i64 x.f2, .int .i64 x.f3, .slice A7 x.f4.length c7, .bool x.f5] 50 (0, 0)) ∧ W.heap[w.heap.size + 2]? = some (.cells #[.int .i64 x.f0.f0, .int .i64 x.f0.f1, .slice A2 x.f0.f2.length c2, .string x.f1.f0, .slice A4 x.f1.f1.length c4, .int .i64 x.f2, .int .i64 x.f3, .slice A7 x.f4.length c7, .bool x.f5] 50 (0, 0)) ∧ ∃ v, W.heap[w.heap.size + 1]? = some (.cells #[v] 32 (0, 0)) ∧ Kd.S k42 42 W w.heap.size (fun k => k ≠ w.heap.size + 3 ∧ k ≠ w.heap.size + 4) v (dueOuts x ow pre) ∧ (dueOuts x ow pre).length ≤ pre.length
theorem dues_new_cells (W : World) (l : List Value) (t : Nat) : ∀ j u, l[j]? = some u → (W.alloc (.cells l.toArray t)).cell? ((⟨W.heap.size, 0, none⟩ : Addr).add j) = some u := by
 intro j u hj
 have h := blk_cell (blk_new W (.cells l.toArray t)) j
 rw [show (⟨W.heap.size, 0, none⟩ : Addr).add j = ⟨W.heap.size, j, none⟩ from by (simp [Addr.add]; try (intro h0; exact h0.symm))]
 exact h.trans (by simpa using hj)
/-- All that the append asks, of the world V in which the note lies. -/
theorem dues_app {x : S50} {ow : Nat → Int} {w W0 W2 V : World} {pre : List YC} {v : Value} {q ya yb : Int} {yh : List S69} {Ao : Option Addr} {co : Nat} (sub : ByteArray)
  (hw0 : w.heap.size + 4 < W0.heap.size) (h02 : W0.heap.size ≤ W2.heap.size) (hv0 : ∀ k, v.ownBlock = some k → k < W0.heap.size) (hS : Kd.S k42 42 W2 w.heap.size (fun k => (k ≠ w.heap.size + 3 ∧ k ≠ w.heap.size + 4) ∧ k < W0.heap.size) v (dueOuts x ow pre)) (hR : Kd.R k69 69 W2 W0.heap.size (fun _ => True) (.slice Ao yh.length co) yh) (hb : Below W2.heap.size W2 V) :
  Kd.S k42 42 (V.alloc (.cells #[.int .i64 q, .int .i64 ya, .int .i64 yb, .slice Ao yh.length co, .string sub, .int .i64 0] 42)) w.heap.size (fun k => (k ≠ w.heap.size + 3 ∧ k ≠ w.heap.size + 4) ∧ ¬ W0.heap.size ≤ k) v (dueOuts x ow pre) ∧
  (k42).M (V.alloc (.cells #[.int .i64 q, .int .i64 ya, .int .i64 yb, .slice Ao yh.length co, .string sub, .int .i64 0] 42)) w.heap.size (fun k => W0.heap.size ≤ k) (⟨q, ⟨ya, yb, yh⟩, sub, 0⟩ : S42) [.int .i64 q, .int .i64 ya, .int .i64 yb, .slice Ao yh.length co, .string sub, .int .i64 0] ∧
  (∀ k, W0.heap.size ≤ k → (k ≠ w.heap.size + 3 ∧ k ≠ w.heap.size + 4) ∧ some k ≠ v.ownBlock) ∧
  (∀ k, (V.alloc (.cells #[.int .i64 q, .int .i64 ya, .int .i64 yb, .slice Ao yh.length co, .string sub, .int .i64 0] 42)).heap.size ≤ k → k ≠ w.heap.size + 3 ∧ k ≠ w.heap.size + 4) ∧
  w.heap.size ≤ (V.alloc (.cells #[.int .i64 q, .int .i64 ya, .int .i64 yb, .slice Ao yh.length co, .string sub, .int .i64 0] 42)).heap.size := by
 have hA := below_alloc hb (.cells #[.int .i64 q, .int .i64 ya, .int .i64 yb, .slice Ao yh.length co, .string sub, .int .i64 0] 42)
 have hsz := hA.size
 refine ⟨Kd.S_mono (Kd.S_below hS hA) (fun k hk => ⟨hk.1, by omega⟩), k42_mkM _ _ _ (⟨q, ⟨ya, yb, yh⟩, sub, 0⟩ : S42) ?_, fun k hk => ⟨by omega, fun e => by have := hv0 k e.symm; omega⟩, fun k hk => by omega, by omega⟩
 exact Kd.R_mono (Kd.R_lower (Kd.R_bound (Kd.R_below hR hA)) (by omega)) (fun k hk => hk.2.1)
theorem dueOuts_snoc (x : S50) (ow : Nat → Int) (pre : List YC) (y : YC) : dueOuts x ow (pre ++ [y]) = dueOuts x ow pre ++ dueNote x ow y.strip := by simp [dueOuts]
theorem dues_same {x : S50} {ow : Nat → Int} {A2 : Option Addr} {c2 : Nat} {A4 : Option Addr} {c4 : Nat} {A7 : Option Addr} {c7 : Nat} {w W0 W2 V : World} {pre : List YC} {y : YC} {v : Value} (hz : w.heap.size + 4 < W2.heap.size) (hb2 : Below w.heap.size w W2)
  (bx : W2.heap[w.heap.size]? = some (.cells #[.int .i64 x.f0.f0, .int .i64 x.f0.f1, .slice A2 x.f0.f2.length c2, .string x.f1.f0, .slice A4 x.f1.f1.length c4, .int .i64 x.f2, .int .i64 x.f3, .slice A7 x.f4.length c7, .bool x.f5] 50 (0, 0))) (bg : W2.heap[w.heap.size + 2]? = some (.cells #[.int .i64 x.f0.f0, .int .i64 x.f0.f1, .slice A2 x.f0.f2.length c2, .string x.f1.f0, .slice A4 x.f1.f1.length c4, .int .i64 x.f2, .int .i64 x.f3, .slice A7 x.f4.length c7, .bool x.f5] 50 (0, 0))) (b3 : W2.heap[w.heap.size + 1]? = some (.cells #[v] 32 (0, 0))) (hS : Kd.S k42 42 W2 w.heap.size (fun k => (k ≠ w.heap.size + 3 ∧ k ≠ w.heap.size + 4) ∧ k < W0.heap.size) v (dueOuts x ow pre)) (hl : (dueOuts x ow pre).length ≤ pre.length)
  (hV : Below W2.heap.size W2 V) (hy : dueNote x ow y.strip = []) :
  LoopStays (w.heap.size + 3) W2 V ∧ DueInv x ow A2 c2 A4 c4 A7 c7 w (pre ++ [y]) V ∧ W2.heap.size ≤ V.heap.size := by
 have e := dueOuts_snoc x ow pre y
 rw [hy, List.append_nil] at e
 refine ⟨⟨hV.block _ (by omega), hV.block _ (by omega)⟩, ⟨below_step hb2 hV, blk_below bx hV, blk_below bg hV, v, blk_below b3 hV, ?_, ?_⟩, hV.size⟩
 ·rw [e]
  exact Kd.S_mono (Kd.S_below hS hV) (fun _ h => h.1)
 ·rw [e, List.length_append]
  omega
theorem dues_fin {x : S50} {ow : Nat → Int} {A2 : Option Addr} {c2 : Nat} {A4 : Option Addr} {c4 : Nat} {A7 : Option Addr} {c7 : Nat} {w W2 V wA : World} {pre : List YC} {y : YC} {v : Value} {p : S42} {l : Array Value} {Aq : Option Addr} {cq : Nat} {okv : Nat → Prop} (hz : w.heap.size + 4 < W2.heap.size) (hb2 : Below w.heap.size w W2)
  (bx : W2.heap[w.heap.size]? = some (.cells #[.int .i64 x.f0.f0, .int .i64 x.f0.f1, .slice A2 x.f0.f2.length c2, .string x.f1.f0, .slice A4 x.f1.f1.length c4, .int .i64 x.f2, .int .i64 x.f3, .slice A7 x.f4.length c7, .bool x.f5] 50 (0, 0))) (bg : W2.heap[w.heap.size + 2]? = some (.cells #[.int .i64 x.f0.f0, .int .i64 x.f0.f1, .slice A2 x.f0.f2.length c2, .string x.f1.f0, .slice A4 x.f1.f1.length c4, .int .i64 x.f2, .int .i64 x.f3, .slice A7 x.f4.length c7, .bool x.f5] 50 (0, 0))) (hl : (dueOuts x ow pre).length ≤ pre.length)
  (hV : Below W2.heap.size W2 V) (hS : Kd.S k42 42 (V.alloc (.cells l 42)) w.heap.size (fun k => (k ≠ w.heap.size + 3 ∧ k ≠ w.heap.size + 4) ∧ okv k) v (dueOuts x ow pre)) (hg : (V.alloc (.cells l 42)).grownBy wA v.ownBlock) (bo : wA.heap[w.heap.size + 1]? = some (.cells #[v] 32 (0, 0)))
  (hSA : Kd.S k42 42 wA w.heap.size (fun k => k ≠ w.heap.size + 3 ∧ k ≠ w.heap.size + 4) (.slice Aq (dueOuts x ow pre ++ [p]).length cq) (dueOuts x ow pre ++ [p])) (hy : dueNote x ow y.strip = [p]) :
  LoopStays (w.heap.size + 3) W2 (wA.setCell ⟨w.heap.size + 1, 0, none⟩ (.slice Aq ((dueOuts x ow pre).length + 1) cq)) ∧ DueInv x ow A2 c2 A4 c4 A7 c7 w (pre ++ [y]) (wA.setCell ⟨w.heap.size + 1, 0, none⟩ (.slice Aq ((dueOuts x ow pre).length + 1) cq)) ∧ W2.heap.size ≤ (wA.setCell ⟨w.heap.size + 1, 0, none⟩ (.slice Aq ((dueOuts x ow pre).length + 1) cq)).heap.size := by
 have e := dueOuts_snoc x ow pre y
 rw [hy] at e
 have hA := below_alloc hV (.cells l 42)
 have hv : ∀ k, v.ownBlock = some k → k ≠ w.heap.size + 3 ∧ k ≠ w.heap.size + 4 := fun k hk => ((Kd.S_R hS).1 k hk).1
 have hne3 : some (w.heap.size + 3) ≠ v.ownBlock := fun h => (hv _ h.symm).1 rfl
 have hne4 : some (w.heap.size + 4) ≠ v.ownBlock := fun h => (hv _ h.symm).2 rfl
 have kept : ∀ k, k < W2.heap.size → some k ≠ v.ownBlock → k ≠ w.heap.size + 1 → (wA.setCell ⟨w.heap.size + 1, 0, none⟩ (.slice Aq ((dueOuts x ow pre).length + 1) cq)).heap[k]? = W2.heap[k]? := fun k hk hkv hk1 =>
  ((Below.heap_setCell wA ⟨w.heap.size + 1, 0, none⟩ _ k hk1).trans (hg.block k (Nat.lt_of_lt_of_le hk hA.size) hkv)).trans (hA.block k hk)
 have bx1 := blk_below bx hA
 have bg1 := blk_below bg hA
 refine ⟨⟨kept _ (by omega) hne3 (by omega), kept _ (by omega) hne4 (by omega)⟩, ⟨?_, (kept _ (by omega) (Kd.S_ne hS bx1 (by decide)) (by omega)).trans bx, (kept _ (by omega) (Kd.S_ne hS bg1 (by decide)) (by omega)).trans bg, (.slice Aq ((dueOuts x ow pre).length + 1) cq), blk_put bo 0 _ rfl, ?_, ?_⟩, ?_⟩
 ·exact ((below_step hb2 hA).grown hg (Nat.le_trans hb2.size hA.size) (Kd.S_base hS)).setCell (by simp) _
 ·rw [e, show (dueOuts x ow pre).length + 1 = (dueOuts x ow pre ++ [p]).length from by simp]
  exact Kd.S_set hSA bo (by decide) 0 _
 ·rw [e]
  simp only [List.length_append, List.length_cons, List.length_nil]
  omega
 ·rw [World.size_setCell]
  exact Nat.le_trans hA.size hg.size
set_option maxHeartbeats 2000000 in
set_option maxRecDepth 100000 in
theorem dues_of.at (x : S50) (ow : Nat → Int) (A2 : Option Addr) (c2 : Nat) (A4 : Option Addr) (c4 : Nat) (A7 : Option Addr) (c7 : Nat) (w : World) (r2 : Kd.C k69 w A2 x.f0.f2.length x.f0.f2) (q2 : x.f0.f2.length ≤ c2) (r4 : Kd.C k60 w A4 x.f1.f1.length x.f1.f1) (q4 : x.f1.f1.length ≤ c4) (r7 : Kd.C k62 w A7 x.f4.length x.f4) (q7 : x.f4.length ≤ c7) (hxl : x.f1.f1.length ≤ 1000) (t1 t2 t3 : Int) (t4 : List S69) (t5 : ByteArray) (t6 : Int) (t7 : Bool) (ht : child_Tell.f x.f0.f0 x.f0.f1 x.f0.f2 x.f1.f0 x.f1.f1 x.f2 x.f3 x.f4 x.f5 = some (t1, t2, t3, t4, t5, t6, t7))
  (how : ∀ i : Nat, i < x.f1.f1.length → dues_owed.f x.f0.f0 x.f0.f1 x.f0.f2 x.f1.f0 x.f1.f1 x.f2 x.f3 x.f4 x.f5 (i : Int) = some (ow i)) :
  Calls Tryd.prog 22 #[.agg #[.int .i64 x.f0.f0, .int .i64 x.f0.f1, .slice A2 x.f0.f2.length c2, .string x.f1.f0, .slice A4 x.f1.f1.length c4, .int .i64 x.f2, .int .i64 x.f3, .slice A7 x.f4.length c7, .bool x.f5]] w (fun e w' => ∃ v0_ : Value, e = .returned (v0_) ∧ Kd.S k42 42 w' w.heap.size (fun _ => True) v0_ ((dueKids x x.f1.f1.length).flatMap (dueNote x ow) ++ if t7 = true then [⟨t1, ⟨t2, t3, t4⟩, t5, t6⟩] else []) ∧ Below w.heap.size w w') := by
 have HR2 := Aside0.mk r2
 have HR4 := Aside0.mk r4
 have HR7 := Aside0.mk r7
 have HQ2 := Aside0.mk q2
 have HQ4 := Aside0.mk q4
 have HQ7 := Aside0.mk q7
 have HOW := Aside0.mk how
 have HT := Aside0.mk ht
 have HXL := Aside0.mk hxl
 clear r2 r4 r7 q2 q4 q7 how hxl ht
 obtain ⟨W3, hW3⟩ : ∃ W3, W3 = ((w.alloc (.cells #[.int .i64 x.f0.f0, .int .i64 x.f0.f1, .slice A2 x.f0.f2.length c2, .string x.f1.f0, .slice A4 x.f1.f1.length c4, .int .i64 x.f2, .int .i64 x.f3, .slice A7 x.f4.length c7, .bool x.f5] 50)).alloc (.cells #[.slice none 0 0] 32)).alloc (.cells #[.int .i64 x.f0.f0, .int .i64 x.f0.f1, .slice A2 x.f0.f2.length c2, .string x.f1.f0, .slice A4 x.f1.f1.length c4, .int .i64 x.f2, .int .i64 x.f3, .slice A7 x.f4.length c7, .bool x.f5] 50) := ⟨_, rfl⟩
 have hb3 : Below w.heap.size w W3 := by rw [hW3]; exact below_alloc (below_alloc (below_alloc (Below.refl _ _) _) _) _
 have hsz : W3.heap.size = w.heap.size + 3 := by rw [hW3, World.size_alloc, World.size_alloc, World.size_alloc]
 have hgs : W3.heap[w.heap.size]? = some (.cells #[.int .i64 x.f0.f0, .int .i64 x.f0.f1, .slice A2 x.f0.f2.length c2, .string x.f1.f0, .slice A4 x.f1.f1.length c4, .int .i64 x.f2, .int .i64 x.f3, .slice A7 x.f4.length c7, .bool x.f5] 50 (0, 0)) := by rw [hW3]; exact blk_alloc (blk_alloc (blk_new w _) _) _
 have hgo : W3.heap[w.heap.size + 1]? = some (.cells #[.slice none 0 0] 32 (0, 0)) := by
  rw [hW3]
  have h := blk_new (w.alloc (.cells #[.int .i64 x.f0.f0, .int .i64 x.f0.f1, .slice A2 x.f0.f2.length c2, .string x.f1.f0, .slice A4 x.f1.f1.length c4, .int .i64 x.f2, .int .i64 x.f3, .slice A7 x.f4.length c7, .bool x.f5] 50)) (.cells #[.slice none 0 0] 32)
  rw [World.size_alloc] at h
  exact blk_alloc h _
 have hgc : W3.heap[w.heap.size + 2]? = some (.cells #[.int .i64 x.f0.f0, .int .i64 x.f0.f1, .slice A2 x.f0.f2.length c2, .string x.f1.f0, .slice A4 x.f1.f1.length c4, .int .i64 x.f2, .int .i64 x.f3, .slice A7 x.f4.length c7, .bool x.f5] 50 (0, 0)) := by
  rw [hW3]
  have h := blk_new ((w.alloc (.cells #[.int .i64 x.f0.f0, .int .i64 x.f0.f1, .slice A2 x.f0.f2.length c2, .string x.f1.f0, .slice A4 x.f1.f1.length c4, .int .i64 x.f2, .int .i64 x.f3, .slice A7 x.f4.length c7, .bool x.f5] 50)).alloc (.cells #[.slice none 0 0] 32)) (.cells #[.int .i64 x.f0.f0, .int .i64 x.f0.f1, .slice A2 x.f0.f2.length c2, .string x.f1.f0, .slice A4 x.f1.f1.length c4, .int .i64 x.f2, .int .i64 x.f3, .slice A7 x.f4.length c7, .bool x.f5] 50)
  rw [World.size_alloc, World.size_alloc] at h
  exact h
 have HB3 := Aside0.mk hb3
 have HSZ := Aside0.mk hsz
 have HGS := Aside0.mk hgs
 have HGO := Aside0.mk hgo
 have HGC := Aside0.mk hgc
 have HW3 := Aside0.mk hW3
 clear hb3 hsz hgs hgo hgc hW3
 obtain ⟨RES, hres⟩ : ∃ RES, RES = (dueKids x x.f1.f1.length).flatMap (dueNote x ow) ++ (if t7 = true then [(⟨t1, ⟨t2, t3, t4⟩, t5, t6⟩ : S42)] else []) := ⟨_, rfl⟩
 rw [← hres]
 have HRES := Aside0.mk hres
 clear hres
 refine callsIn_wide.1 (callsIn_of_wp_marks (n := 0) Tryd.func22 rfl trivial (wpIn_wide.2 ?_) rfl)
 simp only [Tryd.ntmps22, List.size_toArray, List.length_cons, List.length_nil, Nat.reduceAdd, Nat.reduceSub, Array.replicate_succ, Array.replicate_zero, List.push_toArray, List.append_toArray, List.nil_append, List.cons_append]
 go_wp2_with (fail)
 refine (children_calls _ _ _ _ _ _ _ _ _ _).mono ?_
 rintro e w1 ⟨rfl, hw1⟩
 obtain rfl : w1 = W3 := hw1.trans HW3.out.symm
 clear hw1
 go_wp2_with (fail)
 refine wp_rangeP (gf := 67) (lb := #[.pointer (some ⟨w.heap.size + 1 + 1, 0, none⟩)]) rfl (entersH Tryd.func67 (by kernel_rfl) rfl) YC.enc (fun _ => rfl) (YP x.f1.f1.length) (fun xs => xs.map YC.strip = dueKids x x.f1.f1.length) (DueInv x ow A2 c2 A4 c4 A7 c7 w) (fun A B => Below w.heap.size A B ∧ B.heap[w.heap.size + 2]? = A.heap[w.heap.size + 2]?) ?hKp ?hI ?hIp ?hseq ?h0 ?hround ?hdone
 case hKp =>
  rintro A B l o o' ⟨h1, h2⟩ hl ho hc
  have hlt := (Array.getElem?_eq_some_iff.1 ho).1
  have hsz := HSZ.out
  exact ⟨h1.trans ((Below.refl _ B).grown (grownBy_putObj' B l o') (by omega) (fun k e => by cases e; omega)), (World.putObj_heap_other (by omega)).trans h2⟩
 case hI =>
  rintro pre A B ⟨i1, i2, ig, v, i3, i4, i5⟩ hb
  exact ⟨below_step i1 hb, blk_below i2 hb, blk_below ig hb, v, blk_below i3 hb, Kd.S_below i4 hb, i5⟩
 case hIp =>
  rintro pre A l o o' ⟨i1, i2, ig, v, i3, i4, i5⟩ hl ho hc
  have hlt := (Array.getElem?_eq_some_iff.1 ho).1
  have hne : ∀ (k : Nat) (cs : Array Value) (t : Nat), A.heap[k]? = some (.cells cs t (0, 0)) → k ≠ l := fun k cs t hk e => by
   subst e
   rw [hk] at ho
   injection ho with ho
   subst ho
   cases hc
  have hsz := HSZ.out
  refine ⟨i1.trans ((Below.refl _ A).grown (grownBy_putObj' A l o') (by omega) (fun k e => by cases e; omega)), (World.putObj_heap_other (hne _ _ _ i2)).trans i2, (World.putObj_heap_other (hne _ _ _ ig)).trans ig, v, (World.putObj_heap_other (hne _ _ _ i3)).trans i3, ?_, i5⟩
  refine Kd.S_mono (Kd.S_move (Kd.S_bound i4) ?_) (fun _ hk => hk.1)
  rintro k ⟨_, _, _, q, _, cells, hk⟩
  exact World.putObj_heap_other (hne _ _ _ hk)
 case hseq =>
  intro l J W hW hJ hY hJ0
  exact children_1_in x (w.heap.size + 2) w A2 c2 A4 c4 #[.int .i64 x.f0.f0, .int .i64 x.f0.f1, .slice A2 x.f0.f2.length c2, .string x.f1.f0, .slice A4 x.f1.f1.length c4, .int .i64 x.f2, .int .i64 x.f3, .slice A7 x.f4.length c7, .bool x.f5] 50 rfl rfl rfl rfl HR2.out HQ2.out HR4.out l J W (below_step HB3.out hW) (blk_below HGC.out hW) hJ hY hJ0
 case h0 => exact ⟨HB3.out, HGS.out, HGC.out, _, HGO.out, Kd.S_nil _ _ _ _ _, Nat.le_refl _⟩
 case hround =>
  rintro pre ⟨yi, ya, yb, yv, yh⟩ W0 W1 hB1 ⟨rc, hrc⟩ ⟨i1, i2, ig, v, i3, i4, i5⟩ hb ⟨y1, y2, y3⟩
  dsimp only at y1 y2 y3
  obtain ⟨Ao, co, eo⟩ := Kd.R_slice y3
  subst eo
  have HI1 := Aside0.mk i1
  have HI2 := Aside0.mk i2
  have HG1 := Aside0.mk (blk_below ig hb)
  have HB7 := Aside0.mk (below_step i1 hb)
  clear ig
  have HI3 := Aside0.mk i3
  have HI4 := Aside0.mk i4
  have HI5 := Aside0.mk i5
  have HY1 := Aside0.mk y1
  have HY2 := Aside0.mk y2
  have HY3 := Aside0.mk y3
  have HBB := Aside0.mk hb
  have HB1 := Aside0.mk hB1
  clear i1 i2 i3 i4 i5 y1 y2 y3 hb hB1
  have hsz := HSZ.out
  have hw1 : w1.heap.size + 1 < W1.heap.size := Nat.lt_of_lt_of_le HB1.out HBB.out.size
  have a2 := blk_below HI2.out HBB.out
  have a3 := blk_below HI3.out HBB.out
  have a4 := Kd.S_below HI4.out HBB.out
  have ab : Below w.heap.size w W1 := below_step HI1.out HBB.out
  have key : ∀ o', ∃ W2, W2 = (W1.alloc (Obj.cells #[Value.int IntKind.i64 ya, Value.int IntKind.i64 yb, Value.slice Ao yh.length co] 40)).putObj (w1.heap.size + 1) o' ∧ W2.heap.size = W1.heap.size + 1 ∧
    W2.heap[w.heap.size]? = some (.cells #[.int .i64 x.f0.f0, .int .i64 x.f0.f1, .slice A2 x.f0.f2.length c2, .string x.f1.f0, .slice A4 x.f1.f1.length c4, .int .i64 x.f2, .int .i64 x.f3, .slice A7 x.f4.length c7, .bool x.f5] 50 (0, 0)) ∧
    W2.heap[w.heap.size + 1]? = some (.cells #[v] 32 (0, 0)) ∧ W2.heap[W1.heap.size]? = some (.cells #[.int .i64 ya, .int .i64 yb, .slice Ao yh.length co] 40 (0, 0)) ∧
    W2.heap[w.heap.size + 2]? = some (.cells #[.int .i64 x.f0.f0, .int .i64 x.f0.f1, .slice A2 x.f0.f2.length c2, .string x.f1.f0, .slice A4 x.f1.f1.length c4, .int .i64 x.f2, .int .i64 x.f3, .slice A7 x.f4.length c7, .bool x.f5] 50 (0, 0)) ∧ Kd.S k42 42 W2 w.heap.size (fun k => (k ≠ w.heap.size + 3 ∧ k ≠ w.heap.size + 4) ∧ k < W0.heap.size) v (dueOuts x ow pre) ∧ Kd.R k69 69 W2 W0.heap.size (fun _ => True) (.slice Ao yh.length co) yh ∧ Below w.heap.size w W2 := by
   intro o'
   have hne : ∀ (k : Nat) (cs : Array Value) (t : Nat), (W1.alloc (Obj.cells #[Value.int IntKind.i64 ya, Value.int IntKind.i64 yb, Value.slice Ao yh.length co] 40)).heap[k]? = some (.cells cs t (0, 0)) → k ≠ w1.heap.size + 1 := fun k cs t hk e => by
    subst e
    rw [blk_alloc hrc _] at hk
    cases hk
   refine ⟨_, rfl, by rw [World.putObj_size, World.size_alloc], ?_, ?_, ?_, ?_, ?_, ?_, ?_⟩
   ·exact (World.putObj_heap_other (by omega)).trans (blk_alloc a2 _)
   ·exact (World.putObj_heap_other (by omega)).trans (blk_alloc a3 _)
   ·exact (World.putObj_heap_other (by omega)).trans (blk_new W1 _)
   ·exact (World.putObj_heap_other (by omega)).trans (blk_alloc HG1.out _)
   ·refine Kd.S_mono (Kd.S_move (Kd.S_bound (Kd.S_alloc (Kd.S_old HI4.out HBB.out) (Obj.cells #[Value.int IntKind.i64 ya, Value.int IntKind.i64 yb, Value.slice Ao yh.length co] 40))) ?_) (fun _ hk => hk.1)
    rintro k ⟨_, _, _, q, _, cells, hk⟩
    exact World.putObj_heap_other (hne _ _ _ hk)
   ·refine Kd.R_mono (Kd.R_move (Kd.R_bound (Kd.R_alloc HY3.out (Obj.cells #[Value.int IntKind.i64 ya, Value.int IntKind.i64 yb, Value.slice Ao yh.length co] 40))) ?_) (fun _ hk => hk.1)
    rintro k ⟨_, _, _, q, _, cells, hk⟩
    exact World.putObj_heap_other (hne _ _ _ hk)
   ·refine (below_alloc ab _).trans ((Below.refl _ _).grown (grownBy_putObj' _ _ o') (by rw [World.size_alloc]; omega) (fun k e => by cases e; omega))
  have KEY := Aside0.mk key
  have HSZ1 := Aside0.mk hw1
  clear a2 a3 a4 ab key
  dsimp only [YC.enc]
  gi_wp2
  refine ⟨⟨(Below.heap_alloc _ _ _ (by omega)), (Below.heap_alloc _ _ _ (by omega))⟩, fun o' => ?_⟩
  obtain ⟨W2, e2, z2, b2, b3, b4, bg, b5, b6, b7⟩ := KEY.out o'
  rw [← e2]
  have c0 : W2.cell? ⟨w.heap.size, 0, none⟩ = some (.int .i64 x.f0.f0) := (blk_cell b2 0).trans rfl
  have c1 : W2.cell? ⟨w.heap.size, 1, none⟩ = some (.int .i64 x.f0.f1) := (blk_cell b2 1).trans rfl
  have c2' : W2.cell? ⟨w.heap.size, 2, none⟩ = some (.slice A2 x.f0.f2.length c2) := (blk_cell b2 2).trans rfl
  have c3 : W2.cell? ⟨w.heap.size, 3, none⟩ = some (.string x.f1.f0) := (blk_cell b2 3).trans rfl
  have c4' : W2.cell? ⟨w.heap.size, 4, none⟩ = some (.slice A4 x.f1.f1.length c4) := (blk_cell b2 4).trans rfl
  have c5 : W2.cell? ⟨w.heap.size, 5, none⟩ = some (.int .i64 x.f2) := (blk_cell b2 5).trans rfl
  have c6 : W2.cell? ⟨w.heap.size, 6, none⟩ = some (.int .i64 x.f3) := (blk_cell b2 6).trans rfl
  have c7' : W2.cell? ⟨w.heap.size, 7, none⟩ = some (.slice A7 x.f4.length c7) := (blk_cell b2 7).trans rfl
  have c8 : W2.cell? ⟨w.heap.size, 8, none⟩ = some (.bool x.f5) := (blk_cell b2 8).trans rfl
  have d0 : W2.cell? ⟨W1.heap.size, 0, none⟩ = some (.int .i64 ya) := (blk_cell b4 0).trans rfl
  have d1 : W2.cell? ⟨W1.heap.size, 1, none⟩ = some (.int .i64 yb) := (blk_cell b4 1).trans rfl
  have d2 : W2.cell? ⟨W1.heap.size, 2, none⟩ = some (.slice Ao yh.length co) := (blk_cell b4 2).trans rfl
  have E2 := Aside0.mk e2
  have Z2 := Aside0.mk z2
  have B2 := Aside0.mk b2
  have BG := Aside0.mk bg
  have HW12 := Aside0.mk (show W1.heap.size ≤ W2.heap.size by omega)
  have B3 := Aside0.mk b3
  have B4 := Aside0.mk b4
  have B5 := Aside0.mk b5
  have B6 := Aside0.mk b6
  have B7 := Aside0.mk b7
  clear e2 z2 b2 b3 b4 bg b5 b6 b7 hrc hsz hw1
  gi_wp2_with (fail)
  refine wpIn_round_region (by kernel_rfl) ?hnd ?hq ?hany
  case hnd => intro i o ho c; rcases i with _ | _ | _ | _ | _ | _ | _ | i <;> simp at ho <;> subst ho <;> simp
  case hq => rintro ⟨a9, w9, h9⟩; have h8 := h9.1; cases h8
  case hany =>
   have hS0 : Below W2.heap.size W2 W2.drew := below_drew (Below.refl _ _)
   refine wpAny_of_held (S := fun W => Below W2.heap.size W2 W) _ _ _ _ ?_
   change wpAnyH _ _ _ _ _ 7 #[false, false, false, false, false, false, false] _ _
   refine wpAnyH_take (i := 0) (oi := ⟨some 13, _, _, _, _, _⟩) (v := ?_) rfl (by kernel_rfl) (by kernel_rfl) (by kernel_rfl) (fun _ _ _ h => h) (Or.inl ⟨by rfl, ?_⟩) (by assumption) ?_
   rotate_left
   ·intro w7 hSw; have g0 := pw_cell_below hSw c0; have g1 := pw_cell_below hSw c1; have g2 := pw_cell_below hSw c2'; have g3 := pw_cell_below hSw c3; have g4 := pw_cell_below hSw c4'; have g5 := pw_cell_below hSw c5; have g6 := pw_cell_below hSw c6; have g7 := pw_cell_below hSw c7'; have g8 := pw_cell_below hSw c8; go_simp
    all_goals (with_reducible rfl)
   simp only [Act.put, List.setIfInBounds_toArray, List.set_cons_zero, List.set_cons_succ]
   refine wpAnyH_take (i := 1) (oi := ⟨some 14, _, _, _, _, _⟩) (v := ?_) rfl (by kernel_rfl) (by kernel_rfl) (by kernel_rfl) (fun _ _ _ h => h) (Or.inl ⟨by rfl, ?_⟩) (by assumption) ?_
   rotate_left
   ·intro w7 hSw; go_simp
    all_goals (with_reducible rfl)
   simp only [Act.put, List.setIfInBounds_toArray, List.set_cons_zero, List.set_cons_succ]
   refine wpAnyH_take (i := 3) (oi := ⟨some 16, _, _, _, _, _⟩) (v := ?_) rfl (by kernel_rfl) (by kernel_rfl) (by kernel_rfl) (fun _ _ _ h => h) (Or.inl ⟨by rfl, ?_⟩) (by assumption) ?_
   rotate_left
   ·intro w7 hSw; have g0 := pw_cell_below hSw d0; have g1 := pw_cell_below hSw d1; have g2 := pw_cell_below hSw d2; go_simp
    all_goals (with_reducible rfl)
   simp only [Act.put, List.setIfInBounds_toArray, List.set_cons_zero, List.set_cons_succ]
   refine wpAnyH_ready (rs := [2, 5]) (by kernel_rfl) (by simp) ?_
   obtain ⟨q, hq⟩ : ∃ q, q = ow yi := ⟨_, rfl⟩
   have HOWQ := Aside0.mk (show dues_owed.f x.f0.f0 x.f0.f1 x.f0.f2 x.f1.f0 x.f1.f1 x.f2 x.f3 x.f4 x.f5 (yi : Int) = some q by rw [hq]; exact HOW.out yi HY2.out)
   have HQQ := Aside0.mk hq
   clear hq
   obtain ⟨q, hq⟩ : ∃ q, q = ow yi := ⟨_, rfl⟩
   have HOWQ := Aside0.mk (show dues_owed.f x.f0.f0 x.f0.f1 x.f0.f2 x.f1.f0 x.f1.f1 x.f2 x.f3 x.f4 x.f5 (yi : Int) = some q by rw [hq]; exact HOW.out yi HY2.out)
   have HQQ := Aside0.mk hq
   clear hq
   refine AllReadyH.cons (o := ⟨some 15, _, _, _, _, _⟩) rfl (fun K9 hK => ?_) ?_
   ·go_simp
    refine (dues_owed.calls x.f0.f0 x.f0.f1 A2 c2 x.f0.f2 x.f1.f0 A4 c4 x.f1.f1 x.f2 x.f3 A7 c7 x.f4 x.f5 (yi : Int) q _ (Kd.C_below HR2.out (below_step B7.out hS0)) HQ2.out (Kd.C_below HR4.out (below_step B7.out hS0)) HQ4.out (Kd.C_below HR7.out (below_step B7.out hS0)) HQ7.out HOWQ.out).mono ?_
    rintro e w' ⟨rfl, hbo⟩
    have hS1 : Below W2.heap.size W2 w' := below_step hS0 hbo
    refine hK.out _ _ hS1 (fun _ => ?_)
    clear hK K9
    change wpAnyH _ _ _ _ _ 3 #[true, true, true, true, false, false, false] _ _
    refine wpAnyH_take (i := 4) (oi := ⟨some 17, _, _, _, _, _⟩) (v := ?_) rfl (by kernel_rfl) (by kernel_rfl) (by kernel_rfl) (fun _ _ _ h => h) (Or.inl ⟨by rfl, ?_⟩) (by assumption) ?_
    rotate_left
    ·intro w7 hSw; go_simp
     all_goals (with_reducible rfl)
    simp only [Act.put, List.setIfInBounds_toArray, List.set_cons_zero, List.set_cons_succ]
    refine wpAnyH_ready (rs := [5]) (by kernel_rfl) (by simp) (AllReadyH.cons (o := ⟨some 6, _, _, _, _, _⟩) rfl (fun K9 hK => ?_) AllReadyH.nil)
    go_simp
    have hS2 := below_alloc hS1 (Obj.cells #[.int .i64 0, .int .i64 0, .int .i64 0, .slice none 0 0, .string (⟨#[]⟩ : ByteArray), .int .i64 0] 42)
    have hnb := blk_new w' (Obj.cells #[.int .i64 0, .int .i64 0, .int .i64 0, .slice none 0 0, .string (⟨#[]⟩ : ByteArray), .int .i64 0] 42)
    obtain ⟨V, hV⟩ : ∃ V, V = w'.alloc (Obj.cells #[.int .i64 0, .int .i64 0, .int .i64 0, .slice none 0 0, .string (⟨#[]⟩ : ByteArray), .int .i64 0] 42) := ⟨_, rfl⟩
    rw [← hV] at hS2 hnb
    refine hK.out _ _ (by rw [← hV]; exact hS2) (fun _ => ?_)
    rw [← hV]
    obtain ⟨nb, hn⟩ : ∃ nb, nb = w'.heap.size := ⟨_, rfl⟩
    have hnbs : W2.heap.size ≤ nb := by rw [hn]; exact hS1.size
    rw [← hn] at hnb ⊢
    clear hK K9 hn hV hS1
    change wpAnyH _ _ _ _ _ 1 #[true, true, true, true, true, true, false] _ _
    refine wpAnyH_ready (rs := [6]) (by kernel_rfl) (by simp) (AllReadyH.cons (o := ⟨none, _, _, _, _, _⟩) rfl (fun K9 hK => ?_) AllReadyH.nil)
    have n0x : V.cell? ⟨nb, 0, none⟩ = some (.int .i64 0) := (blk_cell hnb 0).trans rfl
    have f0x := blk_frozen hnb 0
    have n1x : V.cell? ⟨nb, 1, none⟩ = some (.int .i64 0) := (blk_cell hnb 1).trans rfl
    have f1x := blk_frozen hnb 1
    have n2x : V.cell? ⟨nb, 2, none⟩ = some (.int .i64 0) := (blk_cell hnb 2).trans rfl
    have f2x := blk_frozen hnb 2
    have n3x : V.cell? ⟨nb, 3, none⟩ = some (.slice none 0 0) := (blk_cell hnb 3).trans rfl
    have f3x := blk_frozen hnb 3
    have n4x : V.cell? ⟨nb, 4, none⟩ = some (.string (⟨#[]⟩ : ByteArray)) := (blk_cell hnb 4).trans rfl
    have f4x := blk_frozen hnb 4
    have n5x : V.cell? ⟨nb, 5, none⟩ = some (.int .i64 0) := (blk_cell hnb 5).trans rfl
    have f5x := blk_frozen hnb 5
    have hN5 := blk_put (blk_put (blk_put (blk_put (blk_put (blk_put hnb 0 (.int .i64 q) rfl) 1 (.int .i64 ya) rfl) 2 (.int .i64 yb) rfl) 3 (.slice Ao yh.length co) rfl) 4 (.string (⟨#[]⟩ : ByteArray)) rfl) 5 (.int .i64 0) rfl
    have hS5 := below_set (j := 5) (v := .int .i64 0) (below_set (j := 4) (v := .string (⟨#[]⟩ : ByteArray)) (below_set (j := 3) (v := .slice Ao yh.length co) (below_set (j := 2) (v := .int .i64 yb) (below_set (j := 1) (v := .int .i64 ya) (below_set (j := 0) (v := .int .i64 q) hS2 hnbs) hnbs) hnbs) hnbs) hnbs) hnbs
    clear hnb hS2
    go_simp
    generalize ((((((V.setCell ⟨nb, 0, none⟩ (.int .i64 q)).setCell ⟨nb, 1, none⟩ (.int .i64 ya)).setCell ⟨nb, 2, none⟩ (.int .i64 yb)).setCell ⟨nb, 3, none⟩ (.slice Ao yh.length co)).setCell ⟨nb, 4, none⟩ (.string (⟨#[]⟩ : ByteArray))).setCell ⟨nb, 5, none⟩ (.int .i64 0)) = W5 at hN5 hS5 ⊢
    refine hK.out _ _ hS5 (fun _ => ?_)
    clear hK K9 n0x n1x n2x n3x n4x n5x f0x f1x f2x f3x f4x f5x
    refine wpAnyH_done (by kernel_rfl) ?_ _
    have p4 := pw_cell_below hS5 c4'
    have hbo5 := blk_below B3.out hS5
    have hbb := below_step B7.out hS5
    have HS5 := Aside0.mk hS5
    have HBO := Aside0.mk hbo5
    have HBB5 := Aside0.mk hbb
    have HN5 := Aside0.mk hN5
    have HNBS := Aside0.mk hnbs
    have o0 := (blk_cell hbo5 0).trans rfl
    have fo := blk_frozen hbo5 0
    clear c0 c1 c2' c3 c4' c5 c6 c7' c8 d0 d1 d2 hS5 hbb hN5 hbo5 hnbs
    have HLL := Aside0.mk (show ((dueOuts x ow pre).length + 1) * 72 ≤ 140737488355328 by have := HI5.out; have := HY1.out; have := HY2.out; have := HXL.out; omega)
    have m0 : W5.cell? ⟨nb, 0, none⟩ = some (.int .i64 q) := (blk_cell HN5.out 0).trans rfl
    have m1 : W5.cell? ⟨nb, 1, none⟩ = some (.int .i64 ya) := (blk_cell HN5.out 1).trans rfl
    have m2 : W5.cell? ⟨nb, 2, none⟩ = some (.int .i64 yb) := (blk_cell HN5.out 2).trans rfl
    have m3 : W5.cell? ⟨nb, 3, none⟩ = some (.slice Ao yh.length co) := (blk_cell HN5.out 3).trans rfl
    have m4 : W5.cell? ⟨nb, 4, none⟩ = some (.string (⟨#[]⟩ : ByteArray)) := (blk_cell HN5.out 4).trans rfl
    have m5 : W5.cell? ⟨nb, 5, none⟩ = some (.int .i64 0) := (blk_cell HN5.out 5).trans rfl
    have fm4 := blk_frozen HN5.out 4
    obtain ⟨ad, he, _, _, _, _, hx4, _, _⟩ := at_T60 (Kd.C_below HR4.out HBB5.out) (yi : Int) (by omega) (by have := HY2.out; omega)
    subst he
    simp only [Int.toNat_natCast] at hx4
    obtain ⟨sub, hsub⟩ : ∃ s, s = (x.f1.f1.getD yi z60).f2 := ⟨_, rfl⟩
    rw [show (rd_T60 x.f1.f1 (yi : Int)).f2 = sub from hsub.symm] at hx4
    have HSUB := Aside0.mk hsub
    have hlt : yi < x.f1.f1.length := HY2.out
    clear hsub
    by_cases q1 : q = 1
    ·subst q1
     have HNO : nb ≠ w.heap.size + 1 := by have := HNBS.out; have := Z2.out; have := HSZ.out; have := HSZ1.out; omega
     have k0 : ∀ u, (W5.setCell ⟨nb, 4, none⟩ u).cell? ⟨w.heap.size + 1, 0, none⟩ = some v := fun u => (blk_cell (blk_far HBO.out (p := ⟨nb, 4, none⟩) (Ne.symm HNO) u) 0).trans rfl
     clear HNO
     have hV6 : Below W2.heap.size W2 (W5.setCell ⟨nb, 4, none⟩ (.string sub)) := below_set HS5.out HNBS.out
     have HAP := Aside0.mk (dues_app (V := W5.setCell ⟨nb, 4, none⟩ (.string sub)) (q := 1) (ya := ya) (yb := yb) sub (by have := HSZ.out; have := HB1.out; omega) (by have := Z2.out; have := HBB.out.size; omega) (Kd.S_lt HI4.out) B5.out B6.out hV6)
     have HCS := Aside0.mk (dues_new_cells (W5.setCell ⟨nb, 4, none⟩ (.string sub)) [.int .i64 1, .int .i64 ya, .int .i64 yb, .slice Ao yh.length co, .string sub, .int .i64 0] 42)
     rw [World.size_setCell] at HCS
     have hbA := blk_alloc (blk_below B3.out hV6) (.cells #[.int .i64 1, .int .i64 ya, .int .i64 yb, .slice Ao yh.length co, .string sub, .int .i64 0] 42)
     have HNE := Aside0.mk (Kd.S_ne HAP.out.1 hbA (by decide))
     have HBOA := Aside0.mk hbA
     have HV6 := Aside0.mk hV6
     clear hV6 hbA
     gi_wp2_with (first | (gi_at_builtin; refine wpListIn_append_S k42 rfl _ _ 32 42 _ 72 rfl Tryd.underlying32 info42 rfl (by decide) (by decide) w.heap.size v (dueOuts x ow pre) (⟨1, ⟨ya, yb, yh⟩, sub, 0⟩ : S42) _ _ _ rfl ⟨W5.heap.size, 0, none⟩ 1 rfl HAP.out.2.1 HAP.out.2.2.1 HAP.out.2.2.2.1 HCS.out HAP.out.1 HAP.out.2.2.2.2 HLL.out ?_; intro v1 wA hSA hgA hatA; obtain ⟨Aq, cq, eqq⟩ := Kd.S_slice hSA; subst eqq; have boA := blk_grown HBOA.out hgA HNE.out; have oA := (blk_cell boA 0).trans rfl; have fA := blk_frozen boA 0))
     have hend := dues_fin (y := ⟨yi, ya, yb, .slice Ao yh.length co, yh⟩) (by have := HSZ.out; have := HSZ1.out; have := Z2.out; omega) B7.out B2.out BG.out HI5.out HV6.out HAP.out.1 hgA boA hSA (by have h := HQQ.out; simp only [dueNote, YC.strip, ← h]; simp [HSUB.out])
     exact ⟨by rw [HSZ.out]; exact hend.1, hend.2.1, below_two HB7.out hend.2.1.1 (Nat.le_trans HW12.out hend.2.2), hend.2.1.2.2.1.trans HG1.out.symm⟩
    ·by_cases q0 : q = 0
     ·subst q0
      gi_wp2
      have hend := dues_same (y := ⟨yi, ya, yb, .slice Ao yh.length co, yh⟩) (by have := HSZ.out; have := HSZ1.out; have := Z2.out; omega) B7.out B2.out BG.out B3.out B5.out HI5.out HS5.out (by have h := HQQ.out; simp only [dueNote, YC.strip, ← h]; simp)
      exact ⟨by rw [HSZ.out]; exact hend.1, hend.2.1, below_two HB7.out hend.2.1.1 (Nat.le_trans HW12.out hend.2.2), hend.2.1.2.2.1.trans HG1.out.symm⟩
     ·have Q0 := Aside0.mk q0
      have Q1 := Aside0.mk q1
      have hV6 : Below W2.heap.size W2 (W5) := HS5.out
      have HAP := Aside0.mk (dues_app (V := W5) (q := q) (ya := ya) (yb := yb) (⟨#[]⟩ : ByteArray) (by have := HSZ.out; have := HB1.out; omega) (by have := Z2.out; have := HBB.out.size; omega) (Kd.S_lt HI4.out) B5.out B6.out hV6)
      have HCS := Aside0.mk (dues_new_cells (W5) [.int .i64 q, .int .i64 ya, .int .i64 yb, .slice Ao yh.length co, .string (⟨#[]⟩ : ByteArray), .int .i64 0] 42)
      skip
      have hbA := blk_alloc (blk_below B3.out hV6) (.cells #[.int .i64 q, .int .i64 ya, .int .i64 yb, .slice Ao yh.length co, .string (⟨#[]⟩ : ByteArray), .int .i64 0] 42)
      have HNE := Aside0.mk (Kd.S_ne HAP.out.1 hbA (by decide))
      have HBOA := Aside0.mk hbA
      have HV6 := Aside0.mk hV6
      clear hV6 hbA
      gi_wp2_with (first | (gi_at_builtin; refine wpListIn_append_S k42 rfl _ _ 32 42 _ 72 rfl Tryd.underlying32 info42 rfl (by decide) (by decide) w.heap.size v (dueOuts x ow pre) (⟨q, ⟨ya, yb, yh⟩, (⟨#[]⟩ : ByteArray), 0⟩ : S42) _ _ _ rfl ⟨W5.heap.size, 0, none⟩ 1 rfl HAP.out.2.1 HAP.out.2.2.1 HAP.out.2.2.2.1 HCS.out HAP.out.1 HAP.out.2.2.2.2 HLL.out ?_; intro v1 wA hSA hgA hatA; obtain ⟨Aq, cq, eqq⟩ := Kd.S_slice hSA; subst eqq; have boA := blk_grown HBOA.out hgA HNE.out; have oA := (blk_cell boA 0).trans rfl; have fA := blk_frozen boA 0))
      have hend := dues_fin (y := ⟨yi, ya, yb, .slice Ao yh.length co, yh⟩) (by have := HSZ.out; have := HSZ1.out; have := Z2.out; omega) B7.out B2.out BG.out HI5.out HV6.out HAP.out.1 hgA boA hSA (by have h := HQQ.out; simp only [dueNote, YC.strip, ← h]; rw [if_neg Q0.out, if_neg Q1.out])
      exact ⟨by rw [HSZ.out]; exact hend.1, hend.2.1, below_two HB7.out hend.2.1.1 (Nat.le_trans HW12.out hend.2.2), hend.2.1.2.2.1.trans HG1.out.symm⟩
   ·refine AllReadyH.cons (o := ⟨some 6, _, _, _, _, _⟩) rfl (fun K9 hK => ?_) AllReadyH.nil
    go_simp
    have hS1 : Below W2.heap.size W2 (W2.alloc (Obj.cells #[.int .i64 0, .int .i64 0, .int .i64 0, .slice none 0 0, .string (⟨#[]⟩ : ByteArray), .int .i64 0] 42)).drew := below_drew (below_alloc (Below.refl _ _) _)
    have hnb : (W2.alloc (Obj.cells #[.int .i64 0, .int .i64 0, .int .i64 0, .slice none 0 0, .string (⟨#[]⟩ : ByteArray), .int .i64 0] 42)).drew.heap[W2.heap.size]? = some (Obj.cells #[.int .i64 0, .int .i64 0, .int .i64 0, .slice none 0 0, .string (⟨#[]⟩ : ByteArray), .int .i64 0] 42) := blk_new W2 _
    obtain ⟨V0, hV⟩ : ∃ V0, V0 = (W2.alloc (Obj.cells #[.int .i64 0, .int .i64 0, .int .i64 0, .slice none 0 0, .string (⟨#[]⟩ : ByteArray), .int .i64 0] 42)).drew := ⟨_, rfl⟩
    rw [← hV] at hS1 hnb
    refine hK.out _ _ (by rw [← hV]; exact hS1) (fun _ => ?_)
    rw [← hV]
    clear hK K9 hV
    change wpAnyH _ _ _ _ _ 3 #[true, true, false, true, false, true, false] _ _
    refine wpAnyH_ready (rs := [2]) (by kernel_rfl) (by simp) (AllReadyH.cons (o := ⟨some 15, _, _, _, _, _⟩) rfl (fun K9 hK => ?_) AllReadyH.nil)
    go_simp
    refine (dues_owed.calls x.f0.f0 x.f0.f1 A2 c2 x.f0.f2 x.f1.f0 A4 c4 x.f1.f1 x.f2 x.f3 A7 c7 x.f4 x.f5 (yi : Int) q _ (Kd.C_below HR2.out (below_step B7.out hS1)) HQ2.out (Kd.C_below HR4.out (below_step B7.out hS1)) HQ4.out (Kd.C_below HR7.out (below_step B7.out hS1)) HQ7.out HOWQ.out).mono ?_
    rintro e V ⟨rfl, hbo⟩
    have hS2 : Below W2.heap.size W2 V := below_step hS1 hbo
    replace hnb := blk_below hnb hbo
    refine hK.out _ _ hS2 (fun _ => ?_)
    have hnbs : W2.heap.size ≤ W2.heap.size := Nat.le_refl _
    clear hK K9 hS1 hbo
    change wpAnyH _ _ _ _ _ 2 #[true, true, true, true, false, true, false] _ _
    refine wpAnyH_take (i := 4) (oi := ⟨some 17, _, _, _, _, _⟩) (v := ?_) rfl (by kernel_rfl) (by kernel_rfl) (by kernel_rfl) (fun _ _ _ h => h) (Or.inl ⟨by rfl, ?_⟩) (by assumption) ?_
    rotate_left
    ·intro w7 hSw; go_simp
     all_goals (with_reducible rfl)
    simp only [Act.put, List.setIfInBounds_toArray, List.set_cons_zero, List.set_cons_succ]
    refine wpAnyH_ready (rs := [6]) (by kernel_rfl) (by simp) (AllReadyH.cons (o := ⟨none, _, _, _, _, _⟩) rfl (fun K9 hK => ?_) AllReadyH.nil)
    have n0x : V.cell? ⟨W2.heap.size, 0, none⟩ = some (.int .i64 0) := (blk_cell hnb 0).trans rfl
    have f0x := blk_frozen hnb 0
    have n1x : V.cell? ⟨W2.heap.size, 1, none⟩ = some (.int .i64 0) := (blk_cell hnb 1).trans rfl
    have f1x := blk_frozen hnb 1
    have n2x : V.cell? ⟨W2.heap.size, 2, none⟩ = some (.int .i64 0) := (blk_cell hnb 2).trans rfl
    have f2x := blk_frozen hnb 2
    have n3x : V.cell? ⟨W2.heap.size, 3, none⟩ = some (.slice none 0 0) := (blk_cell hnb 3).trans rfl
    have f3x := blk_frozen hnb 3
    have n4x : V.cell? ⟨W2.heap.size, 4, none⟩ = some (.string (⟨#[]⟩ : ByteArray)) := (blk_cell hnb 4).trans rfl
    have f4x := blk_frozen hnb 4
    have n5x : V.cell? ⟨W2.heap.size, 5, none⟩ = some (.int .i64 0) := (blk_cell hnb 5).trans rfl
    have f5x := blk_frozen hnb 5
    have hN5 := blk_put (blk_put (blk_put (blk_put (blk_put (blk_put hnb 0 (.int .i64 q) rfl) 1 (.int .i64 ya) rfl) 2 (.int .i64 yb) rfl) 3 (.slice Ao yh.length co) rfl) 4 (.string (⟨#[]⟩ : ByteArray)) rfl) 5 (.int .i64 0) rfl
    have hS5 := below_set (j := 5) (v := .int .i64 0) (below_set (j := 4) (v := .string (⟨#[]⟩ : ByteArray)) (below_set (j := 3) (v := .slice Ao yh.length co) (below_set (j := 2) (v := .int .i64 yb) (below_set (j := 1) (v := .int .i64 ya) (below_set (j := 0) (v := .int .i64 q) hS2 hnbs) hnbs) hnbs) hnbs) hnbs) hnbs
    clear hnb hS2
    go_simp
    generalize ((((((V.setCell ⟨W2.heap.size, 0, none⟩ (.int .i64 q)).setCell ⟨W2.heap.size, 1, none⟩ (.int .i64 ya)).setCell ⟨W2.heap.size, 2, none⟩ (.int .i64 yb)).setCell ⟨W2.heap.size, 3, none⟩ (.slice Ao yh.length co)).setCell ⟨W2.heap.size, 4, none⟩ (.string (⟨#[]⟩ : ByteArray))).setCell ⟨W2.heap.size, 5, none⟩ (.int .i64 0)) = W5 at hN5 hS5 ⊢
    refine hK.out _ _ hS5 (fun _ => ?_)
    clear hK K9 n0x n1x n2x n3x n4x n5x f0x f1x f2x f3x f4x f5x
    refine wpAnyH_done (by kernel_rfl) ?_ _
    have p4 := pw_cell_below hS5 c4'
    have hbo5 := blk_below B3.out hS5
    have hbb := below_step B7.out hS5
    have HS5 := Aside0.mk hS5
    have HBO := Aside0.mk hbo5
    have HBB5 := Aside0.mk hbb
    have HN5 := Aside0.mk hN5
    have HNBS := Aside0.mk hnbs
    have o0 := (blk_cell hbo5 0).trans rfl
    have fo := blk_frozen hbo5 0
    clear c0 c1 c2' c3 c4' c5 c6 c7' c8 d0 d1 d2 hS5 hbb hN5 hbo5 hnbs
    have HLL := Aside0.mk (show ((dueOuts x ow pre).length + 1) * 72 ≤ 140737488355328 by have := HI5.out; have := HY1.out; have := HY2.out; have := HXL.out; omega)
    have m0 : W5.cell? ⟨W2.heap.size, 0, none⟩ = some (.int .i64 q) := (blk_cell HN5.out 0).trans rfl
    have m1 : W5.cell? ⟨W2.heap.size, 1, none⟩ = some (.int .i64 ya) := (blk_cell HN5.out 1).trans rfl
    have m2 : W5.cell? ⟨W2.heap.size, 2, none⟩ = some (.int .i64 yb) := (blk_cell HN5.out 2).trans rfl
    have m3 : W5.cell? ⟨W2.heap.size, 3, none⟩ = some (.slice Ao yh.length co) := (blk_cell HN5.out 3).trans rfl
    have m4 : W5.cell? ⟨W2.heap.size, 4, none⟩ = some (.string (⟨#[]⟩ : ByteArray)) := (blk_cell HN5.out 4).trans rfl
    have m5 : W5.cell? ⟨W2.heap.size, 5, none⟩ = some (.int .i64 0) := (blk_cell HN5.out 5).trans rfl
    have fm4 := blk_frozen HN5.out 4
    obtain ⟨ad, he, _, _, _, _, hx4, _, _⟩ := at_T60 (Kd.C_below HR4.out HBB5.out) (yi : Int) (by omega) (by have := HY2.out; omega)
    subst he
    simp only [Int.toNat_natCast] at hx4
    obtain ⟨sub, hsub⟩ : ∃ s, s = (x.f1.f1.getD yi z60).f2 := ⟨_, rfl⟩
    rw [show (rd_T60 x.f1.f1 (yi : Int)).f2 = sub from hsub.symm] at hx4
    have HSUB := Aside0.mk hsub
    have hlt : yi < x.f1.f1.length := HY2.out
    clear hsub
    by_cases q1 : q = 1
    ·subst q1
     have HNO : W2.heap.size ≠ w.heap.size + 1 := by have := HNBS.out; have := Z2.out; have := HSZ.out; have := HSZ1.out; omega
     have k0 : ∀ u, (W5.setCell ⟨W2.heap.size, 4, none⟩ u).cell? ⟨w.heap.size + 1, 0, none⟩ = some v := fun u => (blk_cell (blk_far HBO.out (p := ⟨W2.heap.size, 4, none⟩) (Ne.symm HNO) u) 0).trans rfl
     clear HNO
     have hV6 : Below W2.heap.size W2 (W5.setCell ⟨W2.heap.size, 4, none⟩ (.string sub)) := below_set HS5.out HNBS.out
     have HAP := Aside0.mk (dues_app (V := W5.setCell ⟨W2.heap.size, 4, none⟩ (.string sub)) (q := 1) (ya := ya) (yb := yb) sub (by have := HSZ.out; have := HB1.out; omega) (by have := Z2.out; have := HBB.out.size; omega) (Kd.S_lt HI4.out) B5.out B6.out hV6)
     have HCS := Aside0.mk (dues_new_cells (W5.setCell ⟨W2.heap.size, 4, none⟩ (.string sub)) [.int .i64 1, .int .i64 ya, .int .i64 yb, .slice Ao yh.length co, .string sub, .int .i64 0] 42)
     rw [World.size_setCell] at HCS
     have hbA := blk_alloc (blk_below B3.out hV6) (.cells #[.int .i64 1, .int .i64 ya, .int .i64 yb, .slice Ao yh.length co, .string sub, .int .i64 0] 42)
     have HNE := Aside0.mk (Kd.S_ne HAP.out.1 hbA (by decide))
     have HBOA := Aside0.mk hbA
     have HV6 := Aside0.mk hV6
     clear hV6 hbA
     gi_wp2_with (first | (gi_at_builtin; refine wpListIn_append_S k42 rfl _ _ 32 42 _ 72 rfl Tryd.underlying32 info42 rfl (by decide) (by decide) w.heap.size v (dueOuts x ow pre) (⟨1, ⟨ya, yb, yh⟩, sub, 0⟩ : S42) _ _ _ rfl ⟨W5.heap.size, 0, none⟩ 1 rfl HAP.out.2.1 HAP.out.2.2.1 HAP.out.2.2.2.1 HCS.out HAP.out.1 HAP.out.2.2.2.2 HLL.out ?_; intro v1 wA hSA hgA hatA; obtain ⟨Aq, cq, eqq⟩ := Kd.S_slice hSA; subst eqq; have boA := blk_grown HBOA.out hgA HNE.out; have oA := (blk_cell boA 0).trans rfl; have fA := blk_frozen boA 0))
     have hend := dues_fin (y := ⟨yi, ya, yb, .slice Ao yh.length co, yh⟩) (by have := HSZ.out; have := HSZ1.out; have := Z2.out; omega) B7.out B2.out BG.out HI5.out HV6.out HAP.out.1 hgA boA hSA (by have h := HQQ.out; simp only [dueNote, YC.strip, ← h]; simp [HSUB.out])
     exact ⟨by rw [HSZ.out]; exact hend.1, hend.2.1, below_two HB7.out hend.2.1.1 (Nat.le_trans HW12.out hend.2.2), hend.2.1.2.2.1.trans HG1.out.symm⟩
    ·by_cases q0 : q = 0
     ·subst q0
      gi_wp2
      have hend := dues_same (y := ⟨yi, ya, yb, .slice Ao yh.length co, yh⟩) (by have := HSZ.out; have := HSZ1.out; have := Z2.out; omega) B7.out B2.out BG.out B3.out B5.out HI5.out HS5.out (by have h := HQQ.out; simp only [dueNote, YC.strip, ← h]; simp)
      exact ⟨by rw [HSZ.out]; exact hend.1, hend.2.1, below_two HB7.out hend.2.1.1 (Nat.le_trans HW12.out hend.2.2), hend.2.1.2.2.1.trans HG1.out.symm⟩
     ·have Q0 := Aside0.mk q0
      have Q1 := Aside0.mk q1
      have hV6 : Below W2.heap.size W2 (W5) := HS5.out
      have HAP := Aside0.mk (dues_app (V := W5) (q := q) (ya := ya) (yb := yb) (⟨#[]⟩ : ByteArray) (by have := HSZ.out; have := HB1.out; omega) (by have := Z2.out; have := HBB.out.size; omega) (Kd.S_lt HI4.out) B5.out B6.out hV6)
      have HCS := Aside0.mk (dues_new_cells (W5) [.int .i64 q, .int .i64 ya, .int .i64 yb, .slice Ao yh.length co, .string (⟨#[]⟩ : ByteArray), .int .i64 0] 42)
      skip
      have hbA := blk_alloc (blk_below B3.out hV6) (.cells #[.int .i64 q, .int .i64 ya, .int .i64 yb, .slice Ao yh.length co, .string (⟨#[]⟩ : ByteArray), .int .i64 0] 42)
      have HNE := Aside0.mk (Kd.S_ne HAP.out.1 hbA (by decide))
      have HBOA := Aside0.mk hbA
      have HV6 := Aside0.mk hV6
      clear hV6 hbA
      gi_wp2_with (first | (gi_at_builtin; refine wpListIn_append_S k42 rfl _ _ 32 42 _ 72 rfl Tryd.underlying32 info42 rfl (by decide) (by decide) w.heap.size v (dueOuts x ow pre) (⟨q, ⟨ya, yb, yh⟩, (⟨#[]⟩ : ByteArray), 0⟩ : S42) _ _ _ rfl ⟨W5.heap.size, 0, none⟩ 1 rfl HAP.out.2.1 HAP.out.2.2.1 HAP.out.2.2.2.1 HCS.out HAP.out.1 HAP.out.2.2.2.2 HLL.out ?_; intro v1 wA hSA hgA hatA; obtain ⟨Aq, cq, eqq⟩ := Kd.S_slice hSA; subst eqq; have boA := blk_grown HBOA.out hgA HNE.out; have oA := (blk_cell boA 0).trans rfl; have fA := blk_frozen boA 0))
      have hend := dues_fin (y := ⟨yi, ya, yb, .slice Ao yh.length co, yh⟩) (by have := HSZ.out; have := HSZ1.out; have := Z2.out; omega) B7.out B2.out BG.out HI5.out HV6.out HAP.out.1 hgA boA hSA (by have h := HQQ.out; simp only [dueNote, YC.strip, ← h]; rw [if_neg Q0.out, if_neg Q1.out])
      exact ⟨by rw [HSZ.out]; exact hend.1, hend.2.1, below_two HB7.out hend.2.1.1 (Nat.le_trans HW12.out hend.2.2), hend.2.1.2.2.1.trans HG1.out.symm⟩

 case hdone =>
  rintro xs W hxs ⟨i1, i2, ig, v, i3, i4, i5⟩ hWs hK
  have hout : dueOuts x ow xs = (dueKids x x.f1.f1.length).flatMap (dueNote x ow) := by unfold dueOuts; rw [hxs]
  have hxsl : xs.length ≤ x.f1.f1.length := by
   have h1 := congrArg List.length hxs
   rw [List.length_map] at h1
   have h2 : (dueKids x x.f1.f1.length).length ≤ (List.range x.f1.f1.length).length := List.length_filterMap_le _ _
   rw [List.length_range] at h2
   omega
  have HLL := Aside0.mk (show ((dueOuts x ow xs).length + 1) * 72 ≤ 140737488355328 by have := HXL.out; omega)
  have hr := HRES.out
  rw [← hout] at hr
  have HR := Aside0.mk hr
  clear hr
  generalize dueOuts x ow xs = OUT at i4 HLL HR
  clear i5 hxsl ig hxs hout
  have c0 : W.cell? ⟨w.heap.size, 0, none⟩ = some (.int .i64 x.f0.f0) := (blk_cell i2 0).trans rfl
  have c1 : W.cell? ⟨w.heap.size, 1, none⟩ = some (.int .i64 x.f0.f1) := (blk_cell i2 1).trans rfl
  have x2 : W.cell? ⟨w.heap.size, 2, none⟩ = some (.slice A2 x.f0.f2.length c2) := (blk_cell i2 2).trans rfl
  have c3 : W.cell? ⟨w.heap.size, 3, none⟩ = some (.string x.f1.f0) := (blk_cell i2 3).trans rfl
  have x4 : W.cell? ⟨w.heap.size, 4, none⟩ = some (.slice A4 x.f1.f1.length c4) := (blk_cell i2 4).trans rfl
  have c5 : W.cell? ⟨w.heap.size, 5, none⟩ = some (.int .i64 x.f2) := (blk_cell i2 5).trans rfl
  have c6 : W.cell? ⟨w.heap.size, 6, none⟩ = some (.int .i64 x.f3) := (blk_cell i2 6).trans rfl
  have x7 : W.cell? ⟨w.heap.size, 7, none⟩ = some (.slice A7 x.f4.length c7) := (blk_cell i2 7).trans rfl
  have c8 : W.cell? ⟨w.heap.size, 8, none⟩ = some (.bool x.f5) := (blk_cell i2 8).trans rfl
  have I1 := Aside0.mk i1
  have I3 := Aside0.mk i3
  have I4 := Aside0.mk i4
  have HK := Aside0.mk hK
  clear i1 i2 i3 i4 hK hWs
  go_wp2_with (fail)
  refine (child_Tell.calls x.f0.f0 x.f0.f1 A2 c2 x.f0.f2 x.f1.f0 A4 c4 x.f1.f1 x.f2 x.f3 A7 c7 x.f4 x.f5 t1 t2 t3 t4 t5 t6 t7 _ (Kd.C_below HR2.out I1.out) HQ2.out (Kd.C_below HR4.out I1.out) HQ4.out (Kd.C_below HR7.out I1.out) HQ7.out HT.out).mono ?_
  rintro e w5 ⟨tv, rfl, tR, tb⟩
  obtain ⟨At, ct, et⟩ := Kd.R_slice tR
  subst et
  have TR := Aside0.mk tR
  have TB := Aside0.mk tb
  clear c0 c1 x2 c3 x4 c5 c6 x7 c8 tR tb
  go_upto_region 11 with (fail)
  have hD : w1.heap.size = w.heap.size + 3 := HSZ.out
  have HKW := Aside0.mk (show w.heap.size + 3 < W.heap.size by have := (Array.getElem?_eq_some_iff.1 HK.out).1; omega)
  have hV := below_alloc TB.out (.cells #[.int .i64 t1, .int .i64 t2, .int .i64 t3, .slice At t4.length ct, .string t5, .int .i64 t6] 42)
  have hnb := blk_new w5 (.cells #[.int .i64 t1, .int .i64 t2, .int .i64 t3, .slice At t4.length ct, .string t5, .int .i64 t6] 42)
  have hR5 := Kd.R_alloc TR.out (.cells #[.int .i64 t1, .int .i64 t2, .int .i64 t3, .slice At t4.length ct, .string t5, .int .i64 t6] 42)
  generalize w5.alloc (.cells #[.int .i64 t1, .int .i64 t2, .int .i64 t3, .slice At t4.length ct, .string t5, .int .i64 t6] 42) = V at hV hnb hR5 ⊢
  have hbo := blk_below I3.out hV
  have o0 : V.cell? ⟨w.heap.size + 1, 0, none⟩ = some v := (blk_cell hbo 0).trans rfl
  have of := blk_frozen hbo 0
  have m0 : V.cell? ⟨w5.heap.size, 0, none⟩ = some (.int .i64 t1) := (blk_cell hnb 0).trans rfl
  have m1 : V.cell? ⟨w5.heap.size, 1, none⟩ = some (.int .i64 t2) := (blk_cell hnb 1).trans rfl
  have m2 : V.cell? ⟨w5.heap.size, 2, none⟩ = some (.int .i64 t3) := (blk_cell hnb 2).trans rfl
  have m3 : V.cell? ⟨w5.heap.size, 3, none⟩ = some (.slice At t4.length ct) := (blk_cell hnb 3).trans rfl
  have m4 : V.cell? ⟨w5.heap.size, 4, none⟩ = some (.string t5) := (blk_cell hnb 4).trans rfl
  have m5 : V.cell? ⟨w5.heap.size, 5, none⟩ = some (.int .i64 t6) := (blk_cell hnb 5).trans rfl
  have HBO := Aside0.mk hbo
  have HV := Aside0.mk hV
  have HD := Aside0.mk hD
  have HKV := Aside0.mk (blk_below HK.out hV)
  have HSV := Aside0.mk (Kd.S_old I4.out hV)
  have HRV := Aside0.mk hR5
  have HBW := Aside0.mk (below_step I1.out hV)
  clear hbo hV hnb hR5 hD
  cases t7 with
  | false =>
   obtain ⟨Av, cv, ev⟩ := Kd.S_slice I4.out
   subst ev
   go_wp2
   refine ⟨by simp, .inl ⟨_, _, rfl, run_takeDeferred HKV.out, ?_⟩⟩
   refine ⟨_, results_tmp rfl _ _ _, _, rfl, ?_, ?_⟩
   ·rw [HR.out, if_neg (by simp), List.append_nil]
    exact Kd.S_mono (Kd.S_move HSV.out (fun k hk => World.putObj_heap_other (by have := HD.out; omega))) (fun _ _ => trivial)
   ·exact HBW.out.trans ((Below.refl _ V).grown (grownBy_putObj' V _ _) HBW.out.size (fun k e => by cases e; have := HD.out; omega))
  | true =>
   have HP := Aside0.mk (k42_mkM V w.heap.size (fun k => W.heap.size ≤ k) (⟨t1, ⟨t2, t3, t4⟩, t5, t6⟩ : S42) (Kd.R_mono (Kd.R_lower (Kd.R_bound HRV.out) I1.out.size) (fun k hk => hk.2.1)))
   have HO := Aside0.mk (Kd.S_mono (ok' := fun k => k ≠ w.heap.size + 3 ∧ ¬ W.heap.size ≤ k) HSV.out (fun k hk => ⟨hk.1.1, by omega⟩))
   have HVO := Aside0.mk (show ∀ k, v.ownBlock = some k → k < W.heap.size from Kd.S_lt I4.out)
   have HNE := Aside0.mk (Kd.S_ne HO.out HBO.out (by decide))
   have HN3 := Aside0.mk (show some (w.heap.size + 3) ≠ v.ownBlock from fun h => ((Kd.S_R HO.out).1 _ h.symm).1 rfl)
   go_wp2_with (first | (at_builtin; refine Kd.S_append (w0 := w) k42 w.heap.size rfl _ _ 32 42 _ 72 rfl Tryd.underlying32 info42 rfl (by decide) (by decide) v OUT (⟨t1, ⟨t2, t3, t4⟩, t5, t6⟩ : S42) [.int .i64 t1, .int .i64 t2, .int .i64 t3, .slice At t4.length ct, .string t5, .int .i64 t6] (fun k => k ≠ w.heap.size + 3) (fun k => W.heap.size ≤ k) rfl rfl HP.out (fun k hk => ⟨by have := HKW.out; omega, fun e => by have := HVO.out k e.symm; omega⟩) (fun k hk => by have := HKW.out; have := HV.out.size; omega) HO.out HBW.out HBW.out.size HLL.out ?_; intro v1 wA hSA hBA hgA hatA; obtain ⟨Aq, cq, eqq⟩ := Kd.S_slice hSA; subst eqq; have boA := blk_grown HBO.out hgA HNE.out; have oA := (blk_cell boA 0).trans rfl; have fA := blk_frozen boA 0))
   have hKA : (wA.setCell ⟨w.heap.size + 1, 0, none⟩ (.slice Aq (OUT.length + 1) cq)).heap[w1.heap.size]? = some (.deferred (some [])) := (Below.heap_setCell wA ⟨w.heap.size + 1, 0, none⟩ _ w1.heap.size (by have := HD.out; simp; omega)).trans ((hgA.block _ (blk_lt HKV.out) (by rw [HD.out]; exact HN3.out)).trans HKV.out)
   refine ⟨by simp, .inl ⟨_, _, rfl, run_takeDeferred hKA, ?_⟩⟩
   refine ⟨_, results_tmp rfl _ _ _, _, rfl, ?_, ?_⟩
   ·rw [HR.out, if_pos (by trivial)]
    have hq := Kd.S_set hSA boA (by decide) 0 (.slice Aq (OUT.length + 1) cq)
    rw [show (OUT ++ [(⟨t1, ⟨t2, t3, t4⟩, t5, t6⟩ : S42)]).length = OUT.length + 1 from by simp] at hq
    exact Kd.S_mono (Kd.S_move hq (fun k hk => World.putObj_heap_other (by have := HD.out; omega))) (fun _ _ => trivial)
   ·exact (hBA.setCell (p := ⟨w.heap.size + 1, 0, none⟩) (Nat.le_succ _) _).trans ((Below.refl _ _).grown (grownBy_putObj' _ _ _) (by rw [World.size_setCell]; exact hBA.size) (fun k e => by cases e; have := HD.out; omega))
/-- What a saga owes others. -/
def notesOf (x : S50) : List S42 := (dueKids x x.f1.f1.length).flatMap (dueNote x (owedAt x)) ++ if (tellOf x).2.2.2.2.2.2 = true then [⟨(tellOf x).1, ⟨(tellOf x).2.1, (tellOf x).2.2.1, (tellOf x).2.2.2.1⟩, (tellOf x).2.2.2.2.1, (tellOf x).2.2.2.2.2.1⟩] else []
def dues_of.f (a0_0 : Int) (a0_1 : Int) (l0_2 : List (S69)) (a0_3 : ByteArray) (l0_4 : List (S60)) (a0_5 : Int) (a0_6 : Int) (l0_7 : List (S62)) (a0_8 : Bool) : Option (List S42) := if l0_4.length ≤ l0_7.length ∧ l0_7.length ≤ 1000 then some (notesOf ⟨⟨a0_0, a0_1, l0_2⟩, ⟨a0_3, l0_4⟩, a0_5, a0_6, l0_7, a0_8⟩) else none
theorem dues_of.calls (a0_0 : Int) (a0_1 : Int) (A0_2 : Option Addr) (c0_2 : Nat) (l0_2 : List (S69)) (a0_3 : ByteArray) (A0_4 : Option Addr) (c0_4 : Nat) (l0_4 : List (S60)) (a0_5 : Int) (a0_6 : Int) (A0_7 : Option Addr) (c0_7 : Nat) (l0_7 : List (S62)) (a0_8 : Bool) (r : List (S42)) (w : World) (hr0_2 : Kd.C k69 w A0_2 l0_2.length l0_2) (hc0_2 : l0_2.length ≤ c0_2) (hr0_4 : Kd.C k60 w A0_4 l0_4.length l0_4) (hc0_4 : l0_4.length ≤ c0_4) (hr0_7 : Kd.C k62 w A0_7 l0_7.length l0_7) (hc0_7 : l0_7.length ≤ c0_7) (h : dues_of.f a0_0 a0_1 l0_2 a0_3 l0_4 a0_5 a0_6 l0_7 a0_8 = some r) :
  Calls Tryd.prog 22 #[.agg #[.int .i64 a0_0, .int .i64 a0_1, .slice A0_2 l0_2.length c0_2, .string a0_3, .slice A0_4 l0_4.length c0_4, .int .i64 a0_5, .int .i64 a0_6, .slice A0_7 l0_7.length c0_7, .bool a0_8]] w fun e w' => ∃ v0_ : Value, e = .returned (v0_) ∧ Kd.S k42 42 w' w.heap.size (fun _ => True) v0_ r ∧ Below w.heap.size w w' := by
 unfold dues_of.f at h
 by_cases h1 : l0_4.length ≤ l0_7.length ∧ l0_7.length ≤ 1000
 ·rw [if_pos h1] at h
  obtain rfl := Option.some.inj h
  obtain ⟨tt, htt⟩ : ∃ tt, tt = tellOf ⟨⟨a0_0, a0_1, l0_2⟩, ⟨a0_3, l0_4⟩, a0_5, a0_6, l0_7, a0_8⟩ := ⟨_, rfl⟩
  have hf : child_Tell.f a0_0 a0_1 l0_2 a0_3 l0_4 a0_5 a0_6 l0_7 a0_8 = some tt := by rw [htt]; rfl
  obtain ⟨t1, t2, t3, t4, t5, t6, t7⟩ := tt
  have hg : ∀ i : Nat, i < l0_4.length → dues_owed.f a0_0 a0_1 l0_2 a0_3 l0_4 a0_5 a0_6 l0_7 a0_8 (i : Int) = some (owedAt ⟨⟨a0_0, a0_1, l0_2⟩, ⟨a0_3, l0_4⟩, a0_5, a0_6, l0_7, a0_8⟩ i) := fun i hi => (owedAt_f ⟨⟨a0_0, a0_1, l0_2⟩, ⟨a0_3, l0_4⟩, a0_5, a0_6, l0_7, a0_8⟩ i (Nat.lt_of_lt_of_le hi h1.1) h1.2)
  have hq := dues_of.at ⟨⟨a0_0, a0_1, l0_2⟩, ⟨a0_3, l0_4⟩, a0_5, a0_6, l0_7, a0_8⟩ (owedAt ⟨⟨a0_0, a0_1, l0_2⟩, ⟨a0_3, l0_4⟩, a0_5, a0_6, l0_7, a0_8⟩) A0_2 c0_2 A0_4 c0_4 A0_7 c0_7 w hr0_2 hc0_2 hr0_4 hc0_4 hr0_7 hc0_7 (Nat.le_trans h1.1 h1.2) t1 t2 t3 t4 t5 t6 t7 hf hg
  unfold notesOf
  rw [← htt]
  exact hq
 ·rw [if_neg h1] at h; cases h

end Go.Proofs.YtidobdhkncaljaaDoorK
