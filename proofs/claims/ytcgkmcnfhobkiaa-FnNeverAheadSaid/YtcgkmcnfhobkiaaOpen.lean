/-
Arguments of a law whose types hold structs: what the form reads of them is what the printed contracts take (kinds 'Kd').
Conditions: none; every lemma is of whatever program.
-/
import Derived.Deep.Slices
import Derived.ChangeArms
import Derived.ChangeSame
import Derived.Test.YtcgkmcnfhobkiaaWWords
namespace Go.Proofs.Ytcgkmcnfhobkiaa.Open
open Go.RowKit Go.Proofs.YtcgkmcnfhobkiaaW.PrintWords Go.ChangeShapes Go.WideShapes Go.Deep
set_option linter.unusedVariables false
section
variable {H : Type} {enc : TypeId × Value → H} {P : Program} {w : World} {base : Nat} {spare : Nat → Bool} {held : Bool}

/-- Whatever is read at type t is a value of kind d, and G holds of it. -/
def Opens {H : Type} (enc : TypeId × Value → H) (P : Program) (w : World) (base : Nat) (spare : Nat → Bool) (held : Bool) (t : TypeId) {α : Type} (d : Kd α) (G : α → Prop) : Prop :=
  ∀ (fuel : Nat) (cs : List Value) (x : DataW H × List MemPlace), DataW.trod enc P w base spare held fuel t cs = some x → ∃ v : α, d.K w v cs ∧ G v

theorem opens_int {t : TypeId} {k : IntKind} (ht : P.underlying t = some (.int k)) : Opens enc P w base spare held t (Kd.int k) (fun v => (Lit.int k v).wf = true) := by
  intro fuel cs x h
  obtain ⟨n, rfl, _, hw⟩ := DataW.trod_int ht h
  exact ⟨n, rfl, hw⟩

theorem opens_bool {t : TypeId} (ht : P.underlying t = some .bool) : Opens enc P w base spare held t Kd.bool (fun _ => True) := by
  intro fuel cs x h
  cases fuel with
  | zero => simp [DataW.trod] at h
  | succ n =>
    unfold DataW.trod at h
    rw [ht] at h
    split at h
    · exact ⟨_, rfl, trivial⟩
    all_goals simp_all

theorem opens_iso {t : TypeId} {α β : Type} {d : Kd α} {G : α → Prop} (h : Opens enc P w base spare held t d G) (f : β → α) (g : α → β) (hfg : ∀ a, f (g a) = a) : Opens enc P w base spare held t (Kd.iso d f) (fun b => G (f b)) := by
  intro fuel cs x hx
  obtain ⟨v, hv, hg⟩ := h fuel cs x hx
  refine ⟨g v, ?_, ?_⟩
  · show d.K w (f (g v)) cs
    rw [hfg]; exact hv
  · show G (f (g v))
    rw [hfg]; exact hg

/-- The fields from an offset on, one after the other. -/
def OpensFields {H : Type} (enc : TypeId × Value → H) (P : Program) (w : World) (base : Nat) (spare : Nat → Bool) (held : Bool) (fs : List Field) (off : Nat) {α : Type} (d : Kd α) (G : α → Prop) : Prop :=
  ∀ (n : Nat) (cs : List Value), cs.length = off + d.sz → (∀ f, f ∈ fs → ∃ y, DataW.trod enc P w base spare held n f.type ((cs.drop f.offset).take (P.cellsOf f.type)) = some y) → ∃ v : α, d.K w v (cs.drop off) ∧ G v

theorem fields_one {f : Field} {off : Nat} {α : Type} {d : Kd α} {G : α → Prop} (h : Opens enc P w base spare held f.type d G) (ho : f.offset = off) (hc : P.cellsOf f.type = d.sz) : OpensFields enc P w base spare held [f] off d G := by
  intro n cs hl hf
  obtain ⟨y, hy⟩ := hf f (by simp)
  rw [ho, hc, List.take_of_length_le (by rw [List.length_drop]; omega)] at hy
  exact h _ _ _ hy

theorem fields_cons {f : Field} {fs : List Field} {off : Nat} {α β : Type} {d : Kd α} {G : α → Prop} {d' : Kd β} {G' : β → Prop} (h : Opens enc P w base spare held f.type d G) (ho : f.offset = off) (hc : P.cellsOf f.type = d.sz)
    (hr : OpensFields enc P w base spare held fs (off + d.sz) d' G') : OpensFields enc P w base spare held (f :: fs) off (Kd.pair d d') (fun p => G p.1 ∧ G' p.2) := by
  intro n cs hl hf
  obtain ⟨y, hy⟩ := hf f (by simp)
  rw [ho, hc] at hy
  obtain ⟨v, hv, hg⟩ := h _ _ _ hy
  obtain ⟨v', hv', hg'⟩ := hr n cs (by rw [hl]; show off + (d.sz + d'.sz) = _; omega) (fun g hgm => hf g (by simp [hgm]))
  refine ⟨(v, v'), ⟨(cs.drop off).take d.sz, cs.drop (off + d.sz), ?_, hv, hv'⟩, hg, hg'⟩
  rw [← List.drop_drop, List.take_append_drop]

theorem opens_struct {t : TypeId} {fs : Array Field} {α : Type} {d : Kd α} {G : α → Prop} (ht : P.underlying t = some (.struct fs)) (hc : P.cellsOf t = d.sz) (h : OpensFields enc P w base spare held fs.toList 0 d G) : Opens enc P w base spare held t d G := by
  intro fuel cs x hx
  obtain ⟨xs, n, _, _, hl, hlen, hf⟩ := DataW.trod_struct ht hx
  obtain ⟨v, hv, hg⟩ := h n cs (by omega) (fun f hf' => by
    obtain ⟨i, hi, he⟩ := List.getElem_of_mem hf'
    have hi' : i < fs.size := by simpa using hi
    have h1 := hf i f (by rw [Array.getElem?_eq_getElem hi']; simpa using he)
    rw [List.getElem?_eq_getElem (by omega)] at h1
    exact ⟨_, h1⟩)
  exact ⟨v, by simpa using hv, hg⟩

theorem opens_slice {t e : TypeId} {α : Type} {d : Kd α} {G : α → Prop} (ht : P.underlying t = some (.slice e)) (hc : P.cellsOf e = d.sz) (h : Opens enc P w base spare held e d G) :
    Opens enc P w base spare held t (Kd.slice e d) (fun xs => xs.length ≤ maxLen ∧ ∀ x ∈ xs, G x) := by
  intro fuel cs x hx
  rcases open_slice ht hx with ⟨rfl, _⟩ | ⟨a, len, cap, m, n, D, Pl, rfl, _, hl, hm, hmm, _, hcell⟩
  · exact ⟨[], ⟨none, 0, rfl, Nat.le_refl _, ⟨rfl, by simp, fun h => absurd h (Nat.lt_irrefl _)⟩⟩, by simp, by simp⟩
  · have hlm : len ≤ m := by rw [hmm]; split <;> omega
    have key : ∀ k, k ≤ len → ∃ xs : List α, xs.length = k ∧ (∀ x ∈ xs, G x) ∧ ∀ j p, xs[j]? = some p → ∃ c, c.length = d.sz ∧ d.K w p c ∧ ∀ i u, c[i]? = some u → w.cell? (a.add (j * d.sz + i)) = some u := by
      intro k
      induction k with
      | zero => exact fun _ => ⟨[], rfl, by simp, fun j p hj => by simp at hj⟩
      | succ k ih =>
        intro hk
        obtain ⟨xs, hxl, hxg, hxs⟩ := ih (by omega)
        obtain ⟨cs', h1, h2⟩ := hcell k (by omega)
        obtain ⟨v, hv, hg⟩ := h _ _ _ h2
        obtain ⟨_, hlc, hget⟩ := World.cells?_some h1
        refine ⟨xs ++ [v], by simp [hxl], ?_, ?_⟩
        · intro x hx
          rcases List.mem_append.1 hx with hx | hx
          · exact hxg x hx
          · rw [List.mem_singleton.1 hx]; exact hg
        · intro j p hj
          rcases Nat.lt_or_ge j xs.length with hlt | hge
          · rw [List.getElem?_append_left hlt] at hj
            exact hxs j p hj
          · have hj' : j = xs.length := by
              have := (List.getElem?_eq_some_iff.1 hj).1
              simp at this; omega
            subst hj'
            have hvp : v = p := by simpa using hj
            subst hvp
            refine ⟨cs', by omega, hv, ?_⟩
            intro i u hu
            have hi : i < cs'.length := (List.getElem?_eq_some_iff.1 hu).1
            have := hget i (by omega)
            rw [hu] at this
            rw [← this, hxl, ← hc, ← Go.Deep.add_add]
    obtain ⟨xs, hxl, hxg, hxs⟩ := key len (Nat.le_refl _)
    refine ⟨xs, ⟨some a, cap, by rw [hxl], by omega, ⟨rfl, ?_, fun _ => ⟨a, rfl, hxs⟩⟩⟩, by omega, hxg⟩
    have : maxLen = 9223372036854775807 := rfl
    omega

/-- An argument, opened. -/
theorem Opens.arg {t : TypeId} {α : Type} {d : Kd α} {G : α → Prop} (h : Opens enc P w base spare held t d G) {v : Value} {x : DataW H} {p : List MemPlace} (hv : DataW.Trod enc P w base spare held t v x p) : ∃ u : α, d.K w u v.cells.toList ∧ G u := by
  obtain ⟨fuel, hf⟩ := hv
  exact h _ _ _ hf
end
end Go.Proofs.Ytcgkmcnfhobkiaa.Open
