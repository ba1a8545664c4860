/-
slices.Sort at whole numbers, in the words of a row of the call's own: out of the shelf's contract.
Conditions: none.
-/
import Derived.Test.YtlkicjkoejpmbaaWMore
import Derived.Test.YtlkicjkoejpmbaaWKept
import Derived.Lib.OwnBridge
import Derived.Shelf.Sort.Plain
import Derived.Shelf.Slices.In.SortNone
namespace Go.Proofs.Ytlkicjkoejpmbaa.ShSort
open Go.RowKit Go.Shelf Go.Lib Go.Sort Go.Proofs Go.Proofs.YtlkicjkoejpmbaaW.PrintWords
variable {P : Program} {ρ : Ren}
def sorted (l : List Int) : List Int := l.mergeSort fun x y => decide (x ≤ y)
theorem kept_grown {w : World} {g q : Nat} {d : Array Int} {S : Nat → Prop} (os : Array Obj) (hg : S g) : Kept w (grow (putRow (Value.int .i64) (Sort.ahead w q) g 0 d) os) S := by
  refine ⟨by simp [grow, putRow, mapBlock, Sort.ahead], fun i hi hn => ?_⟩
  rw [heap_grow_old _ _ (by simpa [putRow, mapBlock, Sort.ahead] using hi)]
  have h : g ≠ i := fun e => hn (e ▸ hg)
  simp [putRow, mapBlock, Sort.ahead, Array.getElem?_modify, h]
theorem below_grown' {w0 w : World} (h : Below w0.heap.size w0 w) (os : Array Obj) : Below w0.heap.size w0 (grow w os) :=
  ⟨h.os, h.tape, h.output, by show w0.heap.size ≤ (w.heap ++ os).size; rw [Array.size_append]; have := h.size; omega, fun j hj => (heap_grow_old w os (by have := h.size; omega)).trans (h.block j hj)⟩
theorem sort_calls (L : Lays.n189 P ρ) (e : Nat) (P0 : Nat → Prop) (u : Value) (l : List Int) (w0 w : World) (hB : Below w0.heap.size w0 w) (ho : Kd.R (Kd.int .i64) e w w0.heap.size P0 u l) (hsz : l.length < 4611686018427387904) :
    Calls P (ρ.f 189) #[u] w fun e' w' => e' = .returned (.tuple #[]) ∧ Kd.R (Kd.int .i64) e w' w0.heap.size (fun k_ => (P0 k_ ∨ w.heap.size ≤ k_)) u (sorted l) ∧ Below w0.heap.size w0 w' ∧ Kept w w' (fun k_ => P0 k_) := by
  obtain ⟨A, c, rfl, hlc, hC⟩ := Kd.R_reads ho
  by_cases h0 : l.length = 0
  · have hl : l = [] := List.length_eq_zero_iff.1 h0
    subst hl
    refine (Any.slices_Sort_int_none L A c w).mono ?_
    rintro e' w' ⟨rfl, rfl⟩
    have e0 : sorted [] = [] := List.length_eq_zero_iff.1 (by unfold sorted; rw [List.length_mergeSort]; rfl)
    rw [e0]
    exact ⟨rfl, Kd.R_mono ho (fun k hk => .inl hk), hB, Kept.refl _ _⟩
  · obtain ⟨g, cap, hv, hbg, hgw, _⟩ := Kd.R_form ho (by omega)
    injection hv with hA _ hc
    subst hA
    subst hc
    have hown := Kd.own_of_R ho
    obtain ⟨_, _, hv2, _, _, _, _, _, hH⟩ := holds_of_ownsRow (enc := Value.int .i64) (zs := l) hown (by intro h; injection h with h1 h2; cases h1)
    injection hv2 with hA2 _ _
    injection hA2 with hA2
    injection hA2 with hg2
    subst hg2
    refine (Any.slices_Sort_int L g 0 c l w hH hgw hsz).mono ?_
    rintro e' w' ⟨rfl, q, os, rfl⟩
    have hlen : (sorted l).length = l.length := List.length_mergeSort l
    have h1 := ownsRow_putRow (enc := Value.int .i64) (q := q) (k := l.length) (ys := sorted l) hown hlen (Nat.le_refl _)
    rw [← hlen, List.take_length, hlen] at h1
    have h2 : Kd.R (Kd.int .i64) e (putRow (Value.int .i64) (Sort.ahead w q) g 0 (sorted l).toArray) w0.heap.size P0 (.slice (some ⟨g, 0, none⟩) l.length c) (sorted l) := by
      have h3 := h1
      rw [← hlen] at h3 ⊢
      exact Kd.R_of_own h3 (fun k hk => ho.1 k (by simpa [Value.ownBlock] using hk))
    have h4 := Kd.R_step (w1 := grow (putRow (Value.int .i64) (Sort.ahead w q) g 0 (sorted l).toArray) os) h2 (fun k _ hk => heap_grow_old _ os hk)
    exact ⟨rfl, Kd.R_mono h4 (fun k hk => .inl hk), below_grown' (below_putRow hB hbg) os, kept_grown os (ho.1 g (by simp [Value.ownBlock]))⟩
end Go.Proofs.Ytlkicjkoejpmbaa.ShSort
