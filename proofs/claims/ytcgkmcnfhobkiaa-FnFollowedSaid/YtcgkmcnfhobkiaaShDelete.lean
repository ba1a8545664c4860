/-
slices.Delete at whole numbers, in the words of a row of the call's own: out of the shelf's contract.
Conditions: none.
-/
import Derived.Test.YtcgkmcnfhobkiaaWMore
import Derived.Test.YtcgkmcnfhobkiaaWKept
import Derived.Lib.OwnBridge
import Derived.Shelf.Slices.Delete
namespace Go.Proofs.Ytcgkmcnfhobkiaa.ShDelete
open Go.RowKit Go.Shelf Go.Lib Go.Sort Go.Proofs Go.Proofs.YtcgkmcnfhobkiaaW.PrintWords
set_option linter.unusedSimpArgs false
variable {P : Program} {ρ : Ren}
theorem kept_putRow {w : World} {g q : Nat} {d : Array Int} {S : Nat → Prop} (hg : S g) : Kept w (putRow (Value.int .i64) (Sort.ahead w q) g 0 d) S :=
  ⟨by simp [putRow, mapBlock, Sort.ahead], fun i _ hn => by
    have h : g ≠ i := fun e => hn (e ▸ hg)
    simp [putRow, mapBlock, Sort.ahead, Array.getElem?_modify, h]⟩
theorem delete_calls (L : Lays2.n23 P ρ) (e : Nat) (P0 : Nat → Prop) (u : Value) (l : List Int) (i j : Int) (w0 w : World) (hB : Below w0.heap.size w0 w) (ho : Kd.R (Kd.int .i64) e w w0.heap.size P0 u l) (hc : 0 ≤ i ∧ i < j ∧ j ≤ (l.length : Int)) :
    Calls P (ρ.f 23) #[u, .int .i64 i, .int .i64 j] w fun e' w' => ∃ v0_ : Value, e' = .returned (v0_) ∧ Kd.R (Kd.int .i64) e w' w0.heap.size (fun k_ => (P0 k_ ∨ w.heap.size ≤ k_)) v0_ (l.take i.toNat ++ l.drop j.toNat) ∧ Below w0.heap.size w0 w' ∧ Kept w w' (fun k_ => P0 k_) := by
  obtain ⟨i, rfl⟩ := Int.eq_ofNat_of_zero_le hc.1
  obtain ⟨j, rfl⟩ := Int.eq_ofNat_of_zero_le (show 0 ≤ j by omega)
  simp only [Int.ofNat_eq_natCast, Int.toNat_natCast] at hc ⊢
  have h1 : i < j := by omega
  have h2 : j ≤ l.length := by omega
  have h0 : l.length ≠ 0 := by omega
  obtain ⟨A, c, rfl, hlc, hC⟩ := Kd.R_reads ho
  obtain ⟨g, cap, hv, hbg, hgw, _⟩ := Kd.R_form ho (by omega)
  injection hv with hA _ hc'
  subst hA
  subst hc'
  have hown := Kd.own_of_R ho
  obtain ⟨g2, cap2, hv2, _, _, _, hm, _, hH⟩ := holds_of_ownsRow (enc := Value.int .i64) (zs := l) hown (by intro h; injection h with h1 h2; cases h1)
  injection hv2 with hA2 _ hc2
  injection hA2 with hA2
  injection hA2 with hg2
  subst hg2
  subst hc2
  refine (Any.slices_Delete_int L g 0 c i j l w hH hlc (by unfold maxLen at hm; omega) (by omega) h2).mono ?_
  rintro e' w' ⟨rfl, q, rfl⟩
  have h3 := ownsRow_putRow (enc := Value.int .i64) (q := q) (k := l.length - (j - i)) (ys := l.take i ++ l.drop j ++ List.replicate (j - i) 0) hown (by simp; omega) (by omega)
  have hlen : (l.take i ++ l.drop j).length = l.length - (j - i) := by simp; omega
  rw [← hlen, List.take_left, hlen] at h3
  have h4 : (l.length - (j - i)) = (l.take i ++ l.drop j).length := hlen.symm
  refine ⟨_, rfl, ?_, below_putRow hB hbg, kept_putRow (ho.1 g (by simp [Value.ownBlock]))⟩
  rw [h4] at h3 ⊢
  exact Kd.R_of_own h3 (fun k hk => .inl (ho.1 k (by simpa [Value.ownBlock] using hk)))
end Go.Proofs.Ytcgkmcnfhobkiaa.ShDelete
