/-
slices.Repeat of one number: a row of its copies.
Conditions: none.
-/
import Derived.Laws.CopyOwn
import Derived.Shelf.Spec.SlicesInsert
import Derived.Test.YtlkfhddckgjlnaaProg
import Derived.Test.YtlkfhddckgjlnaaWWords
import Derived.Test.YtlkfhddckgjlnaaWMore
import Derived.Test.YtlkfhddckgjlnaaLayMul
namespace Go.Proofs.Ytlkfhddckgjlnaa.Rep
open Go.Shelf Go.RowKit Go.Lib Go.Proofs Go.Proofs.YtlkfhddckgjlnaaW.PrintWords Go.Proofs.YtlkfhddckgjlnaaW.PrintMore
theorem R_open {w : World} {base g N cap : Nat} {ys : List Int} (h : Kd.R (Kd.int .i64) 3 w base (fun _ => True) (.slice (some ⟨g, 0, none⟩) N cap) ys) :
    ∃ cur : List Value, w.heap[g]? = some (.cells cur.toArray 3 (0, 0)) ∧ base ≤ g ∧ cur.length = cap ∧ N = ys.length ∧ N ≤ cap ∧ cap ≤ maxLen ∧ cur.take N = ys.map (Value.int .i64) := by
  obtain ⟨_, inner, ho, hr⟩ := h
  obtain ⟨hn, hrow⟩ := hr
  obtain ⟨hlen, ho2⟩ := ho
  change inner.length = ys.length * 1 at hn
  rcases ho2 with ⟨e0, _⟩ | ⟨g', cap', cur, e0, hb, hg, hnc, hm, hs, ht⟩
  · cases e0
  · injection e0 with e1 e2 e3
    injection e1 with e1
    injection e1 with e1
    subst e1; subst e2; subst e3
    change cur.size = _ * 1 at hs
    change List.take (_ * 1) cur.toList = inner at ht
    refine ⟨cur.toList, by simpa using hg, hb, by rw [Array.length_toList]; omega, rfl, hnc, hm, ?_⟩
    rw [Nat.mul_one] at ht
    rw [ht]
    apply List.ext_getElem?
    intro j
    by_cases hj : j < ys.length
    · have h1 := hrow j ys[j] (List.getElem?_eq_getElem hj)
      have h2 : (inner.drop (j * 1)).take 1 = [.int .i64 ys[j]] := h1
      have h3 : ((inner.drop (j * 1)).take 1)[0]? = some (.int .i64 ys[j]) := by rw [h2]; rfl
      rw [List.getElem?_take, if_pos (by omega), List.getElem?_drop, show j * 1 + 0 = j by omega] at h3
      rw [h3, List.getElem?_map, List.getElem?_eq_getElem hj]
      rfl
    · rw [List.getElem?_eq_none (by omega), List.getElem?_eq_none (by rw [List.length_map]; omega)]
theorem R_close {w : World} {base g cap : Nat} {ys : List Int} {cur : List Value} (hg : w.heap[g]? = some (.cells cur.toArray 3 (0, 0))) (hb : base ≤ g) (hc : cur.length = cap) (hn : ys.length ≤ cap) (hm : cap ≤ maxLen) (ht : cur.take ys.length = ys.map (Value.int .i64)) :
    Kd.R (Kd.int .i64) 3 w base (fun _ => True) (.slice (some ⟨g, 0, none⟩) ys.length cap) ys := by
  refine ⟨fun _ _ => trivial, ys.map (Value.int .i64), ?_, ?_⟩
  · exact ⟨by rw [List.length_map]; exact (Nat.mul_one _).symm, .inr ⟨g, cap, cur.toArray, rfl, hb, hg, hn, hm, by rw [List.size_toArray, hc]; exact (Nat.mul_one _).symm, by show List.take (ys.length * 1) cur = _; rw [Nat.mul_one]; exact ht⟩⟩
  · refine ⟨by rw [List.length_map]; exact (Nat.mul_one _).symm, fun j p hj => ?_⟩
    show ((ys.map (Value.int .i64)).drop (j * 1)).take 1 = [.int .i64 p]
    have hjl : j < ys.length := (List.getElem?_eq_some_iff.1 hj).1
    rw [Nat.mul_one, List.drop_eq_getElem_cons (by simpa using hjl)]
    obtain ⟨_, h2⟩ := List.getElem?_eq_some_iff.1 hj
    simp [h2]
theorem sizeI : (Try.prog.info? 3).map (·.size) = some 1 := by kernel_rfl
theorem at0 {w : World} {A : Addr} {x v : Value} {j : Nat} (h : w.cell? A = some x) (hj : [x][j]? = some v) : w.cell? (A.add j) = some v := by
  cases j with
  | zero => obtain rfl := Option.some.inj hj; exact h
  | succ j => simp at hj
theorem at1 {w : World} {g k m j : Nat} {cr : List Value} {x v : Value} (h : w.heap[g]? = some (.cells cr.toArray 3 (0, 0))) (ht : cr.take k = List.replicate k x) (hj : (List.replicate (Nat.min k m) x)[j]? = some v) : w.cell? ((⟨g, 0, none⟩ : Addr).add j) = some v := by
  have hjm : j < Nat.min k m := by have := (List.getElem?_eq_some_iff.1 hj).1; simpa using this
  have hjk : j < k := Nat.lt_of_lt_of_le hjm (Nat.min_le_left _ _)
  rw [List.getElem?_replicate, if_pos hjm] at hj
  have h1 : (cr.take k)[j]? = some x := by rw [ht, List.getElem?_replicate, if_pos hjk]
  rw [List.getElem?_take, if_pos hjk] at h1
  have e : ((⟨g, 0, none⟩ : Addr).add j) = ⟨g, j, none⟩ := by unfold Addr.add; by_cases h0 : j = 0 <;> simp [h0]
  rw [e]
  simp only [World.cell?, h]
  simpa using h1.trans hj
theorem infoI : (Try.prog.info? 3).map (fun i => (i.zero, i.size, i.bytes)) = some (some (.int .i64 0), 1, 8) := by kernel_rfl
set_option maxHeartbeats 8000000 in
set_option maxRecDepth 100000 in
theorem repeat1 (A : Addr) (c0 : Nat) (x : Int) (N : Nat) (h1 : 1 ≤ N) (h2 : N ≤ 1099511627776) (w : World) (hx : w.cell? A = some (.int .i64 x)) :
    Calls Try.prog 57 #[.slice (some A) 1 c0, .int .i64 (N : Int)] w fun e w' => ∃ v : Value, e = .returned v ∧ Kd.R (Kd.int .i64) 3 w' w.heap.size (fun _ => True) v (List.replicate N x) ∧ Below w.heap.size w w' := by
  have hmul := Any.bits_Mul Lay.layMul 1 N (by omega) (by omega) w
  rw [show 1 * N / 18446744073709551616 = 0 by omega, show 1 * N % 18446744073709551616 = N by omega] at hmul
  have hN : Aside0 (((N : Nat) : Int).toNat = N) := ⟨by omega⟩
  go_enter Try.func57, Try.ntmps57
  go_wp2_with (first | (go_at_call 88; refine hmul.mono ?_; rintro e w' ⟨rfl, rfl⟩) | ((with_reducible refine gate_dst (N := 30) rfl ?_); refine Kd.R_make (Kd.int .i64) _ 3 rfl (N := 30) rfl 41 _ _ rfl (N : Int) rfl rfl Try.underlying41 (.int .i64 0) 8 infoI rfl (by decide) (by omega) (0 : Int) (ok := fun _ => True) (okp := fun _ => True) rfl (fun _ hk => hk) trivial (by omega) (by omega) (Below.refl _ _) (Nat.le_refl _) ?_; intro v w2 hR hb hg_ hnew_; rw [hN.out] at hR; obtain ⟨g, cap, rfl, hbg, hgw, hcells⟩ := Kd.R_form hR (by rw [List.length_replicate]; omega); obtain ⟨cur, hc1, hc2, hc3, hc4, hc5, hc6, hc7⟩ := R_open hR; (rw [List.length_replicate] at hc5); (rw [List.length_replicate] at hc7); (have hcl : 0 + 1 ≤ cur.length := by omega); have hx2 := (hb.cell (World.block_lt_of_cell? _ _ hx)).trans hx) | ((with_reducible refine gate_builtin (b := .copy) (xs := #[.tmp 31, .tmp 32]) rfl ?_); (refine wpList_copy_splice rfl (.tmp 31) (.tmp 32) 41 41 rfl 3 Try.underlying41 sizeI (some ⟨g, 0, none⟩) (some A) N cap 1 c0 rfl rfl g 0 cur 3 hc1 [.int .i64 x] (show 1 = min 1 N by omega) (fun _ => ⟨rfl, A, rfl, fun j v hj => at0 hx2 hj⟩) hcl (by intro v hv; rw [List.mem_singleton.1 hv]; rfl) w'.heap.size w' hb hbg ?_); intro w3 hg3 hb3))
  go_loopg [8] (N - 1) (fun kq v8 W => ∃ (k : Nat) (cr : List Value), v8 = .int .i64 (k : Int) ∧ Aside0 (kq = N - k) ∧ Aside0 (1 ≤ k ∧ k ≤ N) ∧ Aside0 (W.heap[g]? = some (.cells cr.toArray 3 (0, 0))) ∧ Aside0 (cr.length = cap) ∧ Aside0 (cr.take k = List.replicate k (.int .i64 x)) ∧ Aside0 (Below w'.heap.size w' W))
  case atStart => exact ⟨1, splice cur 0 [.int .i64 x], rfl, ⟨rfl⟩, ⟨Nat.le_refl _, h1⟩, ⟨hg3⟩, ⟨by rw [length_splice _ _ _ hcl]; exact hc3⟩, ⟨by simp [splice]⟩, ⟨hb3⟩⟩
  case round =>
    obtain ⟨k, cr, rfl, hk1, hk2, hk3, hk4, hk5, HB⟩ := hrel
    by_cases hkn : k < N
    · have hdec : decide ((k : Int) < (N : Int)) = true := decide_eq_true (by omega)
      have hmix := Lay.layMul.mixed
      have hkN : k ≤ N := by omega
      have hkc : k ≤ cap := by omega
      have hck : ¬ cap = k := by omega
      have hfit : Aside0 (k + (List.replicate (Nat.min k (N - k)) (Value.int .i64 x)).length ≤ cr.length) := ⟨by rw [List.length_replicate]; show k + min k (N - k) ≤ cr.length; have := hk4.out; omega⟩
      have hbd : Aside0 (Below w'.heap.size w' wr.drew) := ⟨⟨HB.out.os, HB.out.tape, HB.out.output, HB.out.size, HB.out.block⟩⟩
      go_wp2
      go_region_law_o (go_loud (refine step_copy_splice rfl (.tmp 41) (.tmp 44) 41 41 rfl 3 Try.underlying41 sizeI (some ⟨g, k, none⟩) (some ⟨g, 0, none⟩) (N - k) (cap - k) k cap (by simp [Act.eval, Act.put]) (by simp [Act.eval, Act.put]) g k cr 3 hk3.out (List.replicate (Nat.min k (N - k)) (.int .i64 x)) (List.length_replicate ..) (fun _ => ⟨rfl, ⟨g, 0, none⟩, rfl, fun j v hj => at1 hk3.out hk5.out hj⟩) hfit.out (fun v hv => by rw [List.eq_of_mem_replicate hv]; rfl) w'.heap.size w' hbd.out hc2 ?_); intro w4 hg4 hb4)
      go_wp2
      go_roundg (N - (k + Nat.min k (N - k)))
      case measure => have h7 := hk1.out; show N - (k + min k (N - k)) < gk; have h8 := hk2.out; omega
      case rel =>
        have h8 := hk2.out
        have hm : k + Nat.min k (N - k) ≤ N := by show k + min k (N - k) ≤ N; omega
        have hlen : (List.take k cr).length = k := by rw [List.length_take]; have := hk4.out; omega
        refine ⟨k + Nat.min k (N - k), splice cr k (List.replicate (Nat.min k (N - k)) (.int .i64 x)), ?_, ⟨rfl⟩, ⟨by omega, hm⟩, ⟨hg4⟩, ⟨by rw [length_splice _ _ _ hfit.out]; exact hk4.out⟩, ⟨?_⟩, ⟨hb4⟩⟩
        · have e : IntKind.i64.wrap ((k : Int) + ((Nat.min k (N - k) : Nat) : Int)) = ((k + Nat.min k (N - k) : Nat) : Int) := by
            generalize Nat.min k (N - k) = m at hm ⊢
            rw [IntKind.wrap_i64]
            omega
          rw [e]
        · unfold splice
          rw [← List.append_assoc, List.take_append_of_le_length (by rw [List.length_append, hlen, List.length_replicate]; exact Nat.le_refl _), List.take_of_length_le (by rw [List.length_append, hlen, List.length_replicate]; exact Nat.le_refl _), hk5.out, List.replicate_append_replicate]
    · have hdec : decide ((k : Int) < (N : Int)) = false := decide_eq_false (by omega)
      obtain rfl : k = N := by have := hk2.out; omega
      go_wp2
      go_ret
      refine ⟨_, rfl, ?_, HB.out⟩
      have := R_close (base := w'.heap.size) (ys := List.replicate k x) hk3.out hc2 hk4.out (by rw [List.length_replicate]; exact hc5) hc6 (by rw [List.length_replicate, List.map_replicate]; exact hk5.out)
      rw [List.length_replicate] at this
      exact this
end Go.Proofs.Ytlkfhddckgjlnaa.Rep
