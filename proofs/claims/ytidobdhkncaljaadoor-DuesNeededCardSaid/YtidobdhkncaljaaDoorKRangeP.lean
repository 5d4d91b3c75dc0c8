/- A range over a function whose iterator tells the body something of the world about what it hands out. -/
import Derived.RangeFuncNested
import Derived.RangeFuncCalls
import Derived.Below
import Derived.OrdersIn
import Derived.OrdersHeld
import Derived.OwnWalkIn
import Derived.TacticsIn
namespace Go.Proofs
open Go.RowKit

/-- The two blocks of a loop's book-keeping (from B on) lie as they lay. -/
def LoopStays (B : Nat) (W W' : World) : Prop := W'.heap[B]? = W.heap[B]? ∧ W'.heap[B + 1]? = W.heap[B + 1]?
/-- A round: the assignments, then the body, from a world in which the loop's record has been turned. -/
def RoundP {α : Type} (P : Program) (B : Nat) (ps : Array Tmp) (assign body : Code) (encs : α → Array Value) (Px : List α → α → World → World → Prop) (I : List α → World → Prop) (Kp : World → World → Prop) (a : Act) : Prop :=
  ∀ (pre : List α) (x : α) (W0 W1 : World), B + 1 < W0.heap.size → (∃ r, W1.heap[B + 1]? = some (.loop r)) → I pre W0 → Below W0.heap.size W0 W1 → Px pre x W0 W1 →
    assign.wpIn (Fence.wide.inRound (B + 1)) 0 P (Exit.then (fun a1 W2 => LoopStays B W1 W2 ∧ ∀ o', body.wpIn (Fence.wide.inRound (B + 1)) 0 P (fun e _ W3 => e = .normal ∧ LoopStays B (W2.putObj (B + 1) o') W3 ∧ I (pre ++ [x]) W3 ∧ Kp W1 W3) a1 (W2.putObj (B + 1) o')) (fun _ _ _ => False))
      { tmps := (ps.zip (encs x)).foldl (fun t (p, v) => t.setIfInBounds p v) a.tmps, defers := [] } W1

theorem wp_rangeP {P : Program} {α : Type} {g : Operand} {ps : Array Tmp} {assign body : Code} {Q : Exit → Act → World → Prop} {a : Act} {w : World} {gf : Nat} {lb : Array Value}
    (hg : a.eval g = .func (.func gf) #[] lb) (eg : ∀ args w, (callFunc gf args).run P w = .ok (.enter gf args) w)
    (encs : α → Array Value) (hps : ∀ x, (encs x).size = ps.size) (Px : List α → α → World → World → Prop) (S : List α → Prop) (I : List α → World → Prop) (Kp : World → World → Prop) (hKp : ∀ A B l o o', Kp A B → w.heap.size ≤ l → B.heap[l]? = some o → o.isCells = false → Kp A (B.putObj l o'))
    (hI : ∀ pre A B, I pre A → Below A.heap.size A B → I pre B) (hIp : ∀ pre A l o o', I pre A → w.heap.size ≤ l → A.heap[l]? = some o → o.isCells = false → I pre (A.putObj l o'))
    (hseq : ∀ (l : Nat) (J : List α → World → Prop) (W : World), Below w.heap.size w W → (∀ pre A B, J pre A → Below A.heap.size A B → J pre B) →
      (∀ pre x W0 W1, J pre W0 → Below W0.heap.size W0 W1 → Px pre x W0 W1 → YieldAt Fence.wide 0 P l (encs x) W1 (fun e W' => e = .returned (.bool true) ∧ J (pre ++ [x]) W' ∧ Kp W1 W')) → J [] W →
      CallsIn Fence.wide 0 P gf (#[.func (.yield l) #[] #[]] ++ lb) W (fun e W' => (∃ v, e = .returned v) ∧ ∃ xs, S xs ∧ J xs W'))
    (h0 : I [] w) (hround : RoundP P w.heap.size ps assign body encs Px I Kp a)
    (hdone : ∀ (xs : List α) (W : World), S xs → I xs W → w.heap.size < W.heap.size → W.heap[w.heap.size]? = some (.deferred (some [])) → Q .normal { a with defers := { target := .collected w.heap.size, args := #[] } :: a.defers } W) :
    (Code.rangeFunc g ps assign body).wp P Q a w := by
  refine wpIn_wide.1 (wpIn_rangeFunc (n := 0) ?_)
  intro fn hfn
  obtain ⟨rec, hrec⟩ : ∃ rec : LoopState → Option Code → Loop, rec = fun st pe => { state := st, pending := pe, fn, tmps := a.tmps, params := ps, assign, body, defers := w.heap.size } := ⟨_, rfl⟩
  obtain ⟨W1, hW1⟩ : ∃ W1, (w.alloc (.deferred (some []))).alloc (.loop (rec .ready none)) = W1 := ⟨_, rfl⟩
  have hL1 : W1.heap[w.heap.size + 1]? = some (.loop (rec .ready none)) := by
    rw [← hW1]; have := World.alloc_heap_new (w.alloc (.deferred (some []))) (.loop (rec .ready none)); rwa [World.size_alloc] at this
  have hK1 : W1.heap[w.heap.size]? = some (.deferred (some [])) := by
    rw [← hW1]; exact (Below.heap_alloc _ _ _ (by simp)).trans (World.alloc_heap_new w _)
  have hb1 : Below w.heap.size w W1 := by
    rw [← hW1]; exact ((Below.refl _ w).alloc (Nat.le_refl _) _).alloc (by simp) _
  refine ⟨w.heap.size + 1, [{ target := .collected w.heap.size, args := #[] }], W1, { target := .fn (.func gf) lb, args := #[.func (.yield (w.heap.size + 1)) #[] #[]] }, W1, gf,
    #[.func (.yield (w.heap.size + 1)) #[] #[]] ++ lb, W1, ?_, ?_, fun _ _ => trivial, ?_, fun h => by simp [Fence.wide] at h, ?_⟩
  · rw [← hW1, hrec]; exact run_enterLoop_outer _ _ _ _ _
  · simp only [resolve, hg]
    simp [go_sem]
  · simp [invoke, go_sem, eg]
  · refine (hseq (w.heap.size + 1) (fun pre W => I pre W ∧ W.heap[w.heap.size + 1]? = some (.loop (rec .ready none)) ∧ W.heap[w.heap.size]? = some (.deferred (some []))) W1 hb1 ?_ ?_ ⟨hI _ _ _ h0 hb1, hL1, hK1⟩).mono ?_
    · rintro pre A B ⟨h1, h2, h3⟩ hb
      have l2 := (Array.getElem?_eq_some_iff.1 h2).1
      exact ⟨hI _ _ _ h1 hb, (hb.block _ l2).trans h2, (hb.block _ (by omega)).trans h3⟩
    · rintro pre x W0 W ⟨hi, hl, hk⟩ hb0 hx
      have hlt0 := (Array.getElem?_eq_some_iff.1 hl).1
      replace hl := (hb0.block _ hlt0).trans hl
      replace hk := (hb0.block _ (by omega)).trans hk
      have hlt := (Array.getElem?_eq_some_iff.1 hl).1
      have hy := run_yield (P := P) (args := encs x) hl (by rw [hrec]; exact hps x)
      rw [hrec] at hy
      refine ⟨fn, _, assign, body, hy, roundIn_of_wpIn hfn (wpIn_mono (hround pre x W0 W hlt0 ⟨_, hl⟩ hi hb0 hx) ?_)⟩
      rintro e a2 W2 he
      cases e with
      | normal =>
        obtain ⟨⟨hs1, hs2⟩, hbody⟩ := he
        have hl2 : W2.heap[w.heap.size + 1]? = some (.loop (rec .ready none)) := hs2.trans hl
        have hlt2 := (Array.getElem?_eq_some_iff.1 hl2).1
        refine ⟨_, run_beginRound hl2 (by rw [hrec]), wpIn_mono (hbody _) ?_⟩
        rintro e a3 W3 ⟨rfl, ⟨ht1, ht2⟩, hi3, hb3⟩
        have hl3 : W3.heap[w.heap.size + 1]? = some (.loop { rec .ready none with state := .busy }) := ht2.trans (World.putObj_heap_same hlt2)
        have hk3 : W3.heap[w.heap.size]? = some (.deferred (some [])) := ht1.trans ((World.putObj_heap_other (by omega)).trans (hs1.trans hk))
        have hlt3 := (Array.getElem?_eq_some_iff.1 hl3).1
        refine ⟨_, _, run_endRound none hl3, rfl, ⟨hIp _ _ _ _ _ hi3 (by omega) hl3 rfl, ?_, (World.putObj_heap_other (by omega)).trans hk3⟩, ?_⟩
        · rw [World.putObj_heap_same hlt3, hrec]; rfl
        · exact hKp _ _ _ _ _ hb3 (by omega) hl3 rfl
      | ret => exact he.elim
      | exit id => exact he.elim
      | goto t => exact he.elim
      | panic ch => exact he.elim
      | outgrown => exact he.elim
    · rintro e W2 ⟨⟨v, rfl⟩, xs, hS, hi, hl, hk⟩
      have hlt := (Array.getElem?_eq_some_iff.1 hl).1
      refine ⟨none, _, by have := run_endLoop (P := P) hl (by rw [hrec]; simp); rw [hrec] at this; exact this, hdone _ _ hS (hIp _ _ _ _ _ hi (by omega) hl rfl) ?_ ((World.putObj_heap_other (by omega)).trans hk)⟩
      simp [World.putObj]; omega
theorem rowsIn_round {n : Nat} {P : Program} {row : String} {args : Array Value} {w : World} {R : Value → World → Prop} {l : Nat} (h : Rows P row args w R) : RowsIn (Fence.wide.inRound l) n P row args w R :=
  fun c cs _ => let ⟨v, w', r, s⟩ := h c cs; ⟨v, w', r, stepsIn_wide.2 s⟩
theorem oper_wpIn_round {P : Program} {o : Oper} {a : Act} {w : World} {K : Act → World → Prop} {Q : Exit → Act → World → Prop} {l : Nat} (hnd : ∀ c, o.op ≠ .defer c) (h : o.wp P a w K Q) : o.wpIn (Fence.wide.inRound l) 0 P a w K Q := by
  refine ⟨fun _ _ => trivial, ?_⟩
  rw [Oper.semAt_eq _ _ _ hnd]
  unfold Oper.wp at h
  generalize (execOp a.eval o).run P w = r at *
  cases r with
  | ok x w' =>
    cases x <;> simp only [Oper.upon, Oper.uponIn] at h ⊢ <;>
      first
        | exact h
        | exact ⟨fun h9 => absurd h9 (by simp [Fence.wide, Fence.inRound]), CallsIn.inRound l (callsIn_wide.2 h)⟩
        | exact ⟨fun h9 => absurd h9 (by simp [Fence.wide, Fence.inRound]), rowsIn_round h⟩
        | exact h.elim
  | halt x w' => cases x <;> simp only [Oper.upon, Oper.uponIn] at h ⊢ <;> exact h
theorem wpOpsIn_round {P : Program} {ops : Array Oper} {Q : Exit → Act → World → Prop} {l : Nat} (hnd : ∀ (i : Nat) o, ops[i]? = some o → ∀ c, o.op ≠ .defer c) (hq : ¬ LetsOut Q) :
    ∀ (s : List Nat) (a : Act) (w : World), wpOps P ops Q s a w → wpOpsIn (Fence.wide.inRound l) 0 P ops Q s a w := by
  intro s
  induction s with
  | nil => intro a w h; exact h
  | cons i rest ih =>
    intro a w h
    simp only [wpOps, wpOpsIn] at h ⊢
    cases ho : ops[i]? with
    | none => simp only [ho] at h; exact ih _ _ h
    | some o =>
      simp only [ho] at h ⊢
      by_cases hw : Region.wanted o (yielded ops a.tmps) = true
      · simp only [hw, if_true] at h ⊢
        rcases h with h | ⟨_, h⟩
        · exact Oper.wpIn_mono (fun a w => ih a w) (oper_wpIn_round (hnd i o ho) h)
        · exact absurd h hq
      · simp only [hw, if_false, Bool.false_eq_true] at h ⊢
        exact ⟨fun _ _ => trivial, ih _ _ h⟩
/-- A region that draws its order, in a round: by the laws of a plain walk. -/
theorem wpIn_round_region {P : Program} {ops : Array Oper} {Q : Exit → Act → World → Prop} {l id : Nat} {a : Act} {w : World} (hm : P.follows .mixedOrders = true) (hnd : ∀ (i : Nat) o, ops[i]? = some o → ∀ c, o.op ≠ .defer c) (hq : ¬ LetsOut Q)
    (h : wpAny P .any ops Q ops.size (Array.replicate ops.size false) a w.drew) : (Code.region id ops true).wpIn (Fence.wide.inRound l) 0 P Q a w :=
  wpIn_region_draw fun t => by
    simp only [Region.schedule, hm, Bool.true_or, if_true]
    exact wpOpsIn_round hnd hq _ _ _ (wpAny_sound ops.size t _ a _ h)
theorem below_two {n : Nat} {w A B : World} (h1 : Below n w A) (h2 : Below n w B) (hs : A.heap.size ≤ B.heap.size) : Below n A B :=
  ⟨h2.os.trans h1.os.symm, h2.tape.trans h1.tape.symm, h2.output.trans h1.output.symm, hs, fun k hk => (h2.block k hk).trans (h1.block k hk).symm⟩
end Go.Proofs
