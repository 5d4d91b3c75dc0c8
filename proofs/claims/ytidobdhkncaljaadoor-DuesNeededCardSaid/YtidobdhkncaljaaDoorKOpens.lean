/- What a value of a type reads as, kind by kind: for a law's argument that is a struct, or a slice of structs. -/
import Derived.Test.YtidobdhkncaljaaDoorWApart
import Derived.ChangeArms
import Derived.DataElems
import Derived.WideShapes
namespace Go.Proofs
open Go.RowKit Go.Proofs.YtidobdhkncaljaaDoorW.PrintWords Go.WideShapes
def Opens (P : Program) (t : TypeId) {α : Type} (d : Kd α) (G : α → Prop) : Prop :=
  ∀ (H : Type) (enc : TypeId × Value → H) (w : World) (base : Nat) (spare : Nat → Bool) (held : Bool) (fuel : Nat) (cs : List Value) (x : DataW H × List MemPlace), DataW.trod enc P w base spare held fuel t cs = some x → ∃ a : α, d.K w a cs ∧ G a
theorem opens_int {P : Program} {t : TypeId} {k : IntKind} (ht : P.underlying t = some (.int k)) : Opens P t (Kd.int k) (fun n => (Lit.int k n).wf = true) := by
  intro H enc w base spare held fuel cs x h
  obtain ⟨n, rfl, rfl, hw⟩ := DataW.trod_int ht h
  exact ⟨n, rfl, hw⟩
theorem opens_bool {P : Program} {t : TypeId} (ht : P.underlying t = some .bool) : Opens P t Kd.bool (fun _ => True) := by
  intro H enc w base spare held fuel cs x h
  obtain ⟨b, rfl, rfl⟩ := DataW.trod_bool ht h
  exact ⟨b, rfl, trivial⟩
theorem opens_string {P : Program} {t : TypeId} (ht : P.underlying t = some .string) : Opens P t Kd.string (fun s => s.size ≤ maxLen) := by
  intro H enc w base spare held fuel cs x h
  obtain ⟨s, rfl, rfl, hs⟩ := DataW.trod_string ht h
  exact ⟨s, rfl, hs⟩
theorem opens_slice {P : Program} {t e : TypeId} {α : Type} {d : Kd α} {G : α → Prop} (ht : P.underlying t = some (.slice e)) (hc : P.cellsOf e = d.sz) (h : Opens P e d G) : Opens P t (Kd.slice e d) (fun l => ∀ x ∈ l, G x) := by
  intro H enc w base spare held fuel cs x hx
  rcases DataW.trod_slice ht hx with ⟨rfl, _⟩ | ⟨a, len, cap, elems, rest, n, _, rfl, _, hb, hl, hm, hlen, hel, _, _⟩
  · exact ⟨[], ⟨none, 0, rfl, Nat.le_refl _, ⟨rfl, by simp, fun h => absurd h (by simp)⟩⟩, by simp⟩
  · have each : ∀ i, i < len → ∃ (p : α) (c : List Value), c.length = d.sz ∧ d.K w p c ∧ G p ∧ ∀ j u, c[j]? = some u → w.cell? (a.add (i * d.sz + j)) = some u := by
      intro i hi
      have h1 := hel i hi
      rw [List.getElem?_eq_getElem (by omega), Option.bind_eq_some_iff] at h1
      obtain ⟨c, hcs, hy⟩ := h1
      obtain ⟨p, hK, hG⟩ := h H enc w base spare held n c _ hy
      obtain ⟨_, hcl, hcell⟩ := World.cells?_some hcs
      rw [hc] at hcl hcell
      refine ⟨p, c, hcl, hK, hG, fun j u hj => ?_⟩
      have hjl := (List.getElem?_eq_some_iff.1 hj).1
      have := hcell j (by omega)
      rw [Addr.add_add] at this
      rw [this, hj]
    have build : ∀ m, m ≤ len → ∃ l : List α, l.length = m ∧ (∀ p ∈ l, G p) ∧ ∀ (j : Nat) (p : α), l[j]? = some p → ∃ c : List Value, c.length = d.sz ∧ d.K w p c ∧ ∀ i u, c[i]? = some u → w.cell? (a.add (j * d.sz + i)) = some u := by
      intro m
      induction m with
      | zero => intro _; exact ⟨[], rfl, by simp, by simp⟩
      | succ m ih =>
        intro hm1
        obtain ⟨l, hl1, hl2, hl3⟩ := ih (by omega)
        obtain ⟨p, c, c1, c2, c3, c4⟩ := each m (by omega)
        refine ⟨l ++ [p], by simp [hl1], ?_, ?_⟩
        · intro q hq
          rcases List.mem_append.1 hq with hq | hq
          · exact hl2 q hq
          · rw [List.mem_singleton.1 hq]; exact c3
        · intro j q hj
          by_cases hjm : j < m
          · rw [List.getElem?_append_left (by omega)] at hj
            exact hl3 j q hj
          · have hlt := (List.getElem?_eq_some_iff.1 hj).1
            have hje : j = m := by simp at hlt; omega
            subst hje
            rw [List.getElem?_append_right (by omega)] at hj
            simp [hl1] at hj
            subst hj
            exact ⟨c, c1, c2, c4⟩
    obtain ⟨l, hl1, hl2, hl3⟩ := build len (Nat.le_refl _)
    have hmax : len ≤ 9223372036854775807 := by simp [maxLen] at hm; omega
    exact ⟨l, ⟨some a, cap, by rw [hl1], by omega, hl1.symm ▸ ⟨hl1, hmax, fun _ => ⟨a, rfl, hl3⟩⟩⟩, hl2⟩
def OpensF (P : Program) (fs : List Field) (off : Nat) {α : Type} (d : Kd α) (G : α → Prop) : Prop :=
  ∀ (H : Type) (enc : TypeId × Value → H) (w : World) (base : Nat) (spare : Nat → Bool) (held : Bool) (n : Nat) (cs : List Value), cs.length = d.sz →
    (∀ (i : Nat) (f : Field), fs[i]? = some f → ∃ y, DataW.trod enc P w base spare held n f.type ((cs.drop (f.offset - off)).take (P.cellsOf f.type)) = some y) → ∃ a : α, d.K w a cs ∧ G a
theorem opensF_one {P : Program} {f : Field} {off : Nat} {α : Type} {d : Kd α} {G : α → Prop} (h : Opens P f.type d G) (ho : f.offset = off) (hc : P.cellsOf f.type = d.sz) : OpensF P [f] off d G := by
  intro H enc w base spare held n cs hl hf
  obtain ⟨y, hy⟩ := hf 0 f rfl
  rw [ho, Nat.sub_self, List.drop_zero, hc, List.take_of_length_le (by omega)] at hy
  exact h H enc w base spare held n cs y hy
theorem opensF_cons {P : Program} {f : Field} {fs : List Field} {off : Nat} {α β : Type} {d1 : Kd α} {d2 : Kd β} {G1 : α → Prop} {G2 : β → Prop} (h : Opens P f.type d1 G1) (ho : f.offset = off) (hc : P.cellsOf f.type = d1.sz)
    (hr : OpensF P fs (off + d1.sz) d2 G2) (hoff : fs.all (fun g => decide (off + d1.sz ≤ g.offset)) = true) : OpensF P (f :: fs) off (Kd.pair d1 d2) (fun p => G1 p.1 ∧ G2 p.2) := by
  intro H enc w base spare held n cs hl hf
  have hl' : cs.length = d1.sz + d2.sz := hl
  obtain ⟨y, hy⟩ := hf 0 f rfl
  rw [ho, Nat.sub_self, List.drop_zero, hc] at hy
  obtain ⟨a, hK, hG⟩ := h H enc w base spare held n _ y hy
  obtain ⟨b, hK2, hG2⟩ := hr H enc w base spare held n (cs.drop d1.sz) (by rw [List.length_drop]; omega) (fun i g hg => by
    obtain ⟨y, hy⟩ := hf (i + 1) g hg
    have hle := of_decide_eq_true (List.all_eq_true.1 hoff g (List.mem_of_getElem? hg))
    refine ⟨y, ?_⟩
    rw [List.drop_drop, show d1.sz + (g.offset - (off + d1.sz)) = g.offset - off by omega]
    exact hy)
  exact ⟨(a, b), ⟨cs.take d1.sz, cs.drop d1.sz, (List.take_append_drop _ _).symm, hK, hK2⟩, hG, hG2⟩
theorem opens_struct {P : Program} {t : TypeId} {fs : Array Field} {α : Type} {d : Kd α} {G : α → Prop} (ht : P.underlying t = some (.struct fs)) (h : OpensF P fs.toList 0 d G) (hc : P.cellsOf t = d.sz) : Opens P t d G := by
  intro H enc w base spare held fuel cs x hx
  obtain ⟨xs, n, _, _, hl, hxl, hf⟩ := DataW.trod_struct ht hx
  refine h H enc w base spare held n cs (by rw [hl, hc]) (fun i f hi => ?_)
  have hi' : fs[i]? = some f := by rw [← Array.getElem?_toList]; exact hi
  have hlt := (Array.getElem?_eq_some_iff.1 hi').1
  have h1 := hf i f hi'
  rw [List.getElem?_eq_getElem (by omega)] at h1
  rw [Nat.sub_zero]
  exact ⟨_, h1⟩
theorem opens_iso {P : Program} {t : TypeId} {α β : Type} {d : Kd α} {G : α → Prop} {f : β → α} (g : α → β) (hg : ∀ a, f (g a) = a) (h : Opens P t d G) : Opens P t (Kd.iso d f) (fun x => G (f x)) := by
  intro H enc w base spare held fuel cs x hx
  obtain ⟨a, hK, hG⟩ := h H enc w base spare held fuel cs x hx
  exact ⟨g a, by show d.K w (f (g a)) cs; rw [hg]; exact hK, by show G (f (g a)); rw [hg]; exact hG⟩
/-- A law's argument that is a struct. -/
theorem open_struct_arg {P : Program} {t : TypeId} {fs : Array Field} {α : Type} {d : Kd α} {G : α → Prop} (ht : P.underlying t = some (.struct fs)) (h : Opens P t d G) {H : Type} {enc : TypeId × Value → H} {w : World} {b0 base : Nat} {r : Reach} {spare : Nat → Bool} {held : Bool} {v : Value} {y : DataW H} {ps : List MemPlace}
    (hval : Value.okWide P w r b0 t v) (hd : DataW.Trod enc P w base spare held t v y ps) : ∃ (a : α) (cs : List Value), v = .agg cs.toArray ∧ d.K w a cs ∧ G a := by
  obtain ⟨cs, rfl, _⟩ := okWide_struct ht hval
  obtain ⟨fuel, hf⟩ := hd
  obtain ⟨a, hK, hG⟩ := h H enc w base spare held fuel _ _ hf
  simp only [Value.cells] at hK
  exact ⟨a, cs.toList, by simp, hK, hG⟩
/-- A law's argument that is a slice. -/
theorem open_slice_arg {P : Program} {t e : TypeId} {α : Type} {d : Kd α} {G : α → Prop} (ht : P.underlying t = some (.slice e)) (hc : P.cellsOf e = d.sz) (h : Opens P e d G) {H : Type} {enc : TypeId × Value → H} {w : World} {base : Nat} {spare : Nat → Bool} {held : Bool} {v : Value} {y : DataW H} {ps : List MemPlace} {b0 : Nat} {r : Reach}
    (hval : Value.okWide P w r b0 t v) (hd : DataW.Trod enc P w base spare held t v y ps) : ∃ (l : List α) (A : Option Addr) (c : Nat), v = .slice A l.length c ∧ l.length ≤ c ∧ d.C w A l.length l ∧ ∀ x ∈ l, G x := by
  obtain ⟨A, n, c, rfl⟩ := okWide_slice ht hval
  obtain ⟨fuel, hf⟩ := hd
  obtain ⟨l, ⟨A', c', he, hl, hC⟩, hG⟩ := opens_slice ht hc h H enc w base spare held fuel _ _ hf
  simp only [Value.cells] at he
  have h1 : Value.slice A n c = .slice A' l.length c' := by simpa using he
  rw [h1]
  exact ⟨l, A', c', rfl, hl, hC, hG⟩
end Go.Proofs
