/-
slices.Compact at whole numbers, in the words of a row of the call's own: out of the shelf's contract.
Conditions: none.
-/
import Derived.Test.YtlkfhddckgjlnaaWMore
import Derived.Test.YtlkfhddckgjlnaaWKept
import Derived.Lib.OwnBridge
import Derived.Shelf.Slices.CompactI
namespace Go.Proofs.Ytlkfhddckgjlnaa.ShCompact
open Go.RowKit Go.Shelf Go.Lib Go.Sort Go.Proofs Go.Proofs.YtlkfhddckgjlnaaW.PrintWords
variable {P : Program} {ρ : Ren}
theorem kept_putRow {w : World} {g q : Nat} {d : Array Int} {S : Nat → Prop} (hg : S g) : Kept w (putRow (Value.int .i64) (Sort.ahead w q) g 0 d) S :=
  ⟨by simp [putRow, mapBlock, Sort.ahead], fun i _ hn => by
    have h : g ≠ i := fun e => hn (e ▸ hg)
    simp [putRow, mapBlock, Sort.ahead, Array.getElem?_modify, h]⟩
theorem compact_calls (L : Lays2.n20 P ρ) (e : Nat) (P0 : Nat → Prop) (u : Value) (l : List Int) (w0 w : World) (hB : Below w0.heap.size w0 w) (ho : Kd.R (Kd.int .i64) e w w0.heap.size P0 u l) :
    Calls P (ρ.f 20) #[u] w fun e' w' => ∃ v0_ : Value, e' = .returned (v0_) ∧ Kd.R (Kd.int .i64) e w' w0.heap.size (fun k_ => (P0 k_ ∨ w.heap.size ≤ k_)) v0_ (Lib.compact l) ∧ Below w0.heap.size w0 w' ∧ Kept w w' (fun k_ => P0 k_) := by
  obtain ⟨A, c, rfl, hlc, hC⟩ := Kd.R_reads ho
  by_cases h0 : l.length = 0
  · have hl : l = [] := List.length_eq_zero_iff.1 h0
    subst hl
    refine (Any.slices_Compact_int_empty L A c w).mono ?_
    rintro e' w' ⟨rfl, rfl⟩
    exact ⟨_, rfl, Kd.R_mono ho (fun k hk => .inl hk), hB, Kept.refl _ _⟩
  · have hmax : l.length ≤ 9223372036854775807 := Kd.C_max hC
    obtain ⟨g, cap, hv, hbg, hgw, _⟩ := Kd.R_form ho (by omega)
    injection hv with hA _ hc
    subst hA
    subst hc
    have hown := Kd.own_of_R ho
    obtain ⟨_, _, hv2, _, _, _, _, _, hH⟩ := holds_of_ownsRow (enc := Value.int .i64) (zs := l) hown (by intro h; injection h with h1 h2; cases h1)
    injection hv2 with hA2 _ _
    injection hA2 with hA2
    injection hA2 with hg2
    subst hg2
    refine (Any.slices_Compact_int L g 0 c l w hH hmax hlc).mono ?_
    rintro e' w' ⟨rfl, q, rfl⟩
    have hcl := compact_length_le l
    have h1 := ownsRow_putRow (enc := Value.int .i64) (q := q) (k := (Lib.compact l).length) (ys := Lib.compact l ++ List.replicate (l.length - (Lib.compact l).length) 0) hown (by simp; omega) hcl
    rw [List.take_left] at h1
    refine ⟨_, rfl, Kd.R_of_own h1 (fun k hk => .inl (ho.1 k ?_)), below_putRow hB hbg, kept_putRow (ho.1 g (by simp [Value.ownBlock]))⟩
    simpa [Value.ownBlock] using hk
end Go.Proofs.Ytlkfhddckgjlnaa.ShCompact
