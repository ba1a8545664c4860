-- Written for this claim by a program of this repository (wip/tools/print2.py), out of the translation; Lean checks it.
import Derived.Test.YtlkfhddckgjlnaaPFnVoicesx0
import Derived.Test.YtlkfhddckgjlnaaPFnVoicesx1
import Derived.Test.YtlkfhddckgjlnaaPFnVoicesx5
import Derived.Test.YtlkfhddckgjlnaaPFnVoicesx6
import Derived.Test.YtlkfhddckgjlnaaPFnVoicesx10
import Derived.Test.YtlkfhddckgjlnaaPFnVoicesx11
namespace Go.Proofs.Ytlkfhddckgjlnaa.PFnVoices
open Go.RowKit Go.Proofs.YtlkfhddckgjlnaaW.PrintWords Go.Proofs.YtlkfhddckgjlnaaW.PrintLast Go.Proofs.YtlkfhddckgjlnaaW.PrintMore
attribute [local go_sem] max2_int min2_int max_two min_two max_three min_three max_four min_four   -- for this text's walks alone
set_option linter.unusedVariables false
set_option linter.unusedSimpArgs false

/-- A state of type 85 at block g of W; what its slices lead to came in by w0. -/
def IsS85 (w0 W : World) (g : Nat) (f0 : Int) (f1 : Int) (f2 : Int) (f3 : Int) : Prop := W.heap[g]? = some (.cells #[.int .i64 f0, .int .i64 f1, .int .i64 f2, .int .i64 f3] 85 (0, 0)) ∧ w0.heap.size ≤ g
theorem IsS85.grown {w0 W : World} {g : Nat} {f0 : Int} {f1 : Int} {f2 : Int} {f3 : Int} {W1 : World} {row : Option Nat} (h : IsS85 w0 W g f0 f1 f2 f3) (hw : W.grownBy W1 row) (hne : some g ≠ row) : IsS85 w0 W1 g f0 f1 f2 f3 := by
  obtain ⟨hb, hg⟩ := h
  exact ⟨blk_grown hb hw hne, hg⟩
theorem IsS85.own_neN {w0 W : World} {g : Nat} {f0 : Int} {f1 : Int} {f2 : Int} {f3 : Int} {α : Type} {d : Kd α} {e : Nat} {base : Nat} {ok : Nat → Prop} {v : Value} {xs : List α} (h : IsS85 w0 W g f0 f1 f2 f3) (ho : Kd.N d e W base ok v xs) (ht : e ≠ 85) : some g ≠ v.ownBlock := by
  obtain ⟨hb, hg⟩ := h
  exact Kd.N_ne ho hb ht
theorem IsS85.fresh {w0 W : World} {g : Nat} {f0 : Int} {f1 : Int} {f2 : Int} {f3 : Int} (h : IsS85 w0 W g f0 f1 f2 f3) : ∀ k, W.heap.size ≤ k → k ≠ g := by
  obtain ⟨hb, hg⟩ := h
  exact Kd.freshB hb
theorem IsS85.kept {w0 W : World} {g : Nat} {f0 : Int} {f1 : Int} {f2 : Int} {f3 : Int} {W1 : World} {S : Nat → Prop} (h : IsS85 w0 W g f0 f1 f2 f3) (hk : Kept W W1 S) (hne : ¬ S g) : IsS85 w0 W1 g f0 f1 f2 f3 := by
  obtain ⟨hb, hg⟩ := h
  exact ⟨blk_kept hb hk hne, hg⟩
theorem IsS85.below {w0 W : World} {g : Nat} {f0 : Int} {f1 : Int} {f2 : Int} {f3 : Int} {W1 : World} (h : IsS85 w0 W g f0 f1 f2 f3) (hw : Below W.heap.size W W1) : IsS85 w0 W1 g f0 f1 f2 f3 := h.grown (grown_of_below hw none) (by simp)
theorem IsS85.alloc {w0 W : World} {g : Nat} {f0 : Int} {f1 : Int} {f2 : Int} {f3 : Int} (h : IsS85 w0 W g f0 f1 f2 f3) (o : Obj) : IsS85 w0 (W.alloc o) g f0 f1 f2 f3 := h.below (below_alloc (Below.refl _ _) o)
theorem IsS85.drewN {w0 W : World} {g : Nat} {f0 : Int} {f1 : Int} {f2 : Int} {f3 : Int} (h : IsS85 w0 W g f0 f1 f2 f3) (m : Nat) : IsS85 w0 (W.drewN m) g f0 f1 f2 f3 := h
theorem IsS85.drew {w0 W : World} {g : Nat} {f0 : Int} {f1 : Int} {f2 : Int} {f3 : Int} (h : IsS85 w0 W g f0 f1 f2 f3) : IsS85 w0 W.drew g f0 f1 f2 f3 := h
theorem IsS85.at_ {w0 W : World} {g : Nat} {f0 : Int} {f1 : Int} {f2 : Int} {f3 : Int} {w' : World} {m : Nat} (hq : W.drewN m = w') (h : IsS85 w0 W g f0 f1 f2 f3) : IsS85 w0 w' g f0 f1 f2 f3 := by subst hq; exact IsS85.drewN h m
theorem IsS85.apart {w0 W : World} {g : Nat} {f0 : Int} {f1 : Int} {f2 : Int} {f3 : Int} {α : Type} {d : Kd α} {e : Nat} {base : Nat} {ok : Nat → Prop} {v : Value} {xs : List α} (h : IsS85 w0 W g f0 f1 f2 f3) (ho : d.R e W base ok v xs) (ht : ∀ q, q ∈ e :: d.E → q ≠ 85) : d.R e W base (fun k => ok k ∧ k ≠ g) v xs := by
  obtain ⟨hb, hg⟩ := h
  exact Kd.R_types ho hb ht
theorem IsS85.own_ne {w0 W : World} {g : Nat} {f0 : Int} {f1 : Int} {f2 : Int} {f3 : Int} {α : Type} {d : Kd α} {e : Nat} {base : Nat} {ok : Nat → Prop} {v : Value} {xs : List α} (h : IsS85 w0 W g f0 f1 f2 f3) (ho : d.R e W base ok v xs) (ht : e ≠ 85) : some g ≠ v.ownBlock := by
  obtain ⟨hb, hg⟩ := h
  exact Kd.R_ne ho hb ht
theorem IsS85.apartQ {w0 W : World} {g : Nat} {f0 : Int} {f1 : Int} {f2 : Int} {f3 : Int} {α : Type} {d : Kd α} {e : Nat} {base : Nat} {ok : Nat → Prop} {v : Value} {xs : List α} (h : IsS85 w0 W g f0 f1 f2 f3) (ho : d.Q e W base ok v xs) (ht : ∀ q, q ∈ e :: d.E → q ≠ 85) : d.Q e W base (fun k => ok k ∧ k ≠ g) v xs := by
  obtain ⟨hb, hg⟩ := h
  exact Kd.Q_types ho hb ht
theorem IsS85.own_neQ {w0 W : World} {g : Nat} {f0 : Int} {f1 : Int} {f2 : Int} {f3 : Int} {α : Type} {d : Kd α} {e : Nat} {base : Nat} {ok : Nat → Prop} {v : Value} {xs : List α} (h : IsS85 w0 W g f0 f1 f2 f3) (ho : d.Q e W base ok v xs) (ht : e ≠ 85) : some g ≠ v.ownBlock := by
  obtain ⟨hb, hg⟩ := h
  exact Kd.Q_ne ho hb ht
theorem IsS85.apartS {w0 W : World} {g : Nat} {f0 : Int} {f1 : Int} {f2 : Int} {f3 : Int} {α : Type} {d : Kd α} {e : Nat} {base : Nat} {ok : Nat → Prop} {v : Value} {xs : List α} (h : IsS85 w0 W g f0 f1 f2 f3) (ho : d.S e W base ok v xs) (ht : ∀ q, q ∈ e :: d.E → q ≠ 85) : d.S e W base (fun k => ok k ∧ k ≠ g) v xs := by
  obtain ⟨hb, hg⟩ := h
  exact Kd.S_types ho hb ht
theorem IsS85.own_neS {w0 W : World} {g : Nat} {f0 : Int} {f1 : Int} {f2 : Int} {f3 : Int} {α : Type} {d : Kd α} {e : Nat} {base : Nat} {ok : Nat → Prop} {v : Value} {xs : List α} (h : IsS85 w0 W g f0 f1 f2 f3) (ho : d.S e W base ok v xs) (ht : e ≠ 85) : some g ≠ v.ownBlock := by
  obtain ⟨hb, hg⟩ := h
  exact Kd.S_ne ho hb ht
theorem IsS85.lt {w0 W : World} {g : Nat} {f0 : Int} {f1 : Int} {f2 : Int} {f3 : Int} (h : IsS85 w0 W g f0 f1 f2 f3) : g < W.heap.size := by
  obtain ⟨hb, hg⟩ := h
  exact blk_lt hb
theorem IsS85.ge {w0 W : World} {g : Nat} {f0 : Int} {f1 : Int} {f2 : Int} {f3 : Int} (h : IsS85 w0 W g f0 f1 f2 f3) : w0.heap.size ≤ g := by
  obtain ⟨hb, hg⟩ := h
  exact hg
theorem IsS85.ne_blk {w0 W : World} {g : Nat} {f0 : Int} {f1 : Int} {f2 : Int} {f3 : Int} {a : Nat} {cs : Array Value} {t : TypeId} {fr : Nat × Nat} (h : IsS85 w0 W g f0 f1 f2 f3) (hb2 : W.heap[a]? = some (.cells cs t fr)) (ht : t ≠ 85) : g ≠ a := by
  obtain ⟨hb, hg⟩ := h
  rintro rfl
  rw [hb] at hb2
  injection hb2 with hb2
  injection hb2 with _ ht2
  exact ht ht2.symm
theorem IsS85.far {w0 W : World} {g : Nat} {f0 : Int} {f1 : Int} {f2 : Int} {f3 : Int} {p : Addr} (h : IsS85 w0 W g f0 f1 f2 f3) (hne : g ≠ p.block) (u : Value) : IsS85 w0 (W.setCell p u) g f0 f1 f2 f3 := by
  obtain ⟨hb, hg⟩ := h
  exact ⟨blk_far hb hne u, hg⟩
theorem cellS85_0 {W : World} {g : Nat} {f0 : Int} {f1 : Int} {f2 : Int} {f3 : Int} (h : W.heap[g]? = some (.cells #[.int .i64 f0, .int .i64 f1, .int .i64 f2, .int .i64 f3] 85 (0, 0))) : W.cell? ⟨g, 0, none⟩ = some (.int .i64 f0) := (blk_cell h 0).trans rfl
theorem IsS85.set_0 {w0 W : World} {g : Nat} {f0 : Int} {f1 : Int} {f2 : Int} {f3 : Int} (h : IsS85 w0 W g f0 f1 f2 f3) (x : Int) : IsS85 w0 (W.setCell ⟨g, 0, none⟩ (.int .i64 x)) g x f1 f2 f3 := by
  obtain ⟨hb, hg⟩ := h
  exact ⟨by simpa using blk_set hb 0 (.int .i64 x), hg⟩
theorem cellS85_1 {W : World} {g : Nat} {f0 : Int} {f1 : Int} {f2 : Int} {f3 : Int} (h : W.heap[g]? = some (.cells #[.int .i64 f0, .int .i64 f1, .int .i64 f2, .int .i64 f3] 85 (0, 0))) : W.cell? ⟨g, 1, none⟩ = some (.int .i64 f1) := (blk_cell h 1).trans rfl
theorem IsS85.set_1 {w0 W : World} {g : Nat} {f0 : Int} {f1 : Int} {f2 : Int} {f3 : Int} (h : IsS85 w0 W g f0 f1 f2 f3) (x : Int) : IsS85 w0 (W.setCell ⟨g, 1, none⟩ (.int .i64 x)) g f0 x f2 f3 := by
  obtain ⟨hb, hg⟩ := h
  exact ⟨by simpa using blk_set hb 1 (.int .i64 x), hg⟩
theorem cellS85_2 {W : World} {g : Nat} {f0 : Int} {f1 : Int} {f2 : Int} {f3 : Int} (h : W.heap[g]? = some (.cells #[.int .i64 f0, .int .i64 f1, .int .i64 f2, .int .i64 f3] 85 (0, 0))) : W.cell? ⟨g, 2, none⟩ = some (.int .i64 f2) := (blk_cell h 2).trans rfl
theorem IsS85.set_2 {w0 W : World} {g : Nat} {f0 : Int} {f1 : Int} {f2 : Int} {f3 : Int} (h : IsS85 w0 W g f0 f1 f2 f3) (x : Int) : IsS85 w0 (W.setCell ⟨g, 2, none⟩ (.int .i64 x)) g f0 f1 x f3 := by
  obtain ⟨hb, hg⟩ := h
  exact ⟨by simpa using blk_set hb 2 (.int .i64 x), hg⟩
theorem cellS85_3 {W : World} {g : Nat} {f0 : Int} {f1 : Int} {f2 : Int} {f3 : Int} (h : W.heap[g]? = some (.cells #[.int .i64 f0, .int .i64 f1, .int .i64 f2, .int .i64 f3] 85 (0, 0))) : W.cell? ⟨g, 3, none⟩ = some (.int .i64 f3) := (blk_cell h 3).trans rfl
theorem IsS85.set_3 {w0 W : World} {g : Nat} {f0 : Int} {f1 : Int} {f2 : Int} {f3 : Int} (h : IsS85 w0 W g f0 f1 f2 f3) (x : Int) : IsS85 w0 (W.setCell ⟨g, 3, none⟩ (.int .i64 x)) g f0 f1 f2 x := by
  obtain ⟨hb, hg⟩ := h
  exact ⟨by simpa using blk_set hb 3 (.int .i64 x), hg⟩
theorem IsS85.new (w0 W : World) (f0 : Int) (f1 : Int) (f2 : Int) (f3 : Int) (hB : Below w0.heap.size w0 W) : IsS85 w0 (W.alloc (.cells #[.int .i64 f0, .int .i64 f1, .int .i64 f2, .int .i64 f3] 85)) W.heap.size f0 f1 f2 f3 := ⟨by simpa using heap_alloc_new W _, hB.size⟩
-- SHORT
theorem q3_12 {p : Prop} (f : p := by repeat (first | (with_reducible first | exact HB.out | apply below_alloc | apply pw_below_drewN | apply below_drew1) | exact HB.out)) : p := f
theorem q0_12 {p : Prop} (h : p) : Aside0 p := ⟨h⟩
/-! ### impl_VoiceOf: function 67 -/
instance : Inhabited S85 := ⟨z85⟩
def encE (x : S85) : List Value := [.int .i64 x.f0, .int .i64 x.f1, .int .i64 x.f2, .int .i64 x.f3]
theorem encE_length (x : S85) : (encE x).length = 4 := rfl
theorem encE_one (x : S85) : ∀ v ∈ encE x, v.oneCell' = true := by
 intro v hv; (simp only [encE, List.mem_cons, List.mem_nil_iff, or_false] at hv)
 rcases hv with rfl | rfl | rfl | rfl <;> rfl
def impl_VoiceOf.f (l0 : List S85) (a1 : Int) : Option (List S85) := if l0.length < 4398046511104 then some (l0.filter fun e => !(e.f3 != a1)) else none
set_option maxHeartbeats 8000000 in
theorem voice_1 (x : S85) (a1 : Int) (B : Nat) (W : World) (hB : B < W.heap.size) (hc : W.cell? ⟨B, 0, none⟩ = some (.int .i64 a1)) :
 Calls Try.prog 97 #[.agg (encE x).toArray, .pointer (some ⟨B, 0, none⟩)] W fun e w' => e = .returned (.bool (x.f3 != a1)) ∧ ∃ q os, w' = Sort.grow (W.drewN q) os := by
 obtain ⟨x0, x1, x2, x3⟩ := x; (show Calls Try.prog 97 #[.agg #[.int .i64 x0, .int .i64 x1, .int .i64 x2, .int .i64 x3], .pointer (some ⟨B, 0, none⟩)] W _); go_enter Try.func97, Try.ntmps97; (go_wp2); go_ret; exact ⟨rfl, 0, #[.cells #[.int .i64 x0, .int .i64 x1, .int .i64 x2, .int .i64 x3] 85], DelFunc.alloc_grow _ _⟩
set_option maxHeartbeats 8000000 in
theorem voice_idx0 (a : Option Addr) (c : Nat) (fv : Value) (w : World) : Calls Try.prog 110 #[.slice a 0 c, fv] w fun e w' => e = .returned (.int .i64 (-1)) ∧ w' = w := by
 go_enter Try.func110, Try.ntmps110; (go_wp2); (go_loopg [5, 8] 0 (fun _ _ s8 wr => s8 = .int .i64 0 ∧ wr = w))
 case atStart => exact ⟨rfl, rfl⟩
 case round =>
  obtain ⟨rfl, rfl⟩ := hrel; (go_wp2); go_ret; exact ⟨rfl, rfl⟩
set_option maxHeartbeats 8000000 in
theorem voice_del0 (a : Option Addr) (c : Nat) (fv : Value) (w : World) : Calls Try.prog 95 #[.slice a 0 c, fv] w fun e w' => e = .returned (.slice a 0 c) ∧ w' = w := by
 go_enter Try.func95, Try.ntmps95; (go_wp2_with (go_at_call 110; refine (voice_idx0 a c fv _).mono ?_; rintro e w' ⟨rfl, rfl⟩)); go_ret; exact ⟨rfl, rfl⟩
theorem voice_below {B : Nat} {w0 w : World} (h : Below B w0 w) (hB : B ≤ w.heap.size) (os : Array Obj) : Below B w0 (Sort.grow w os) :=
 (⟨h.os, h.tape, h.output, by show w0.heap.size ≤ (w.heap ++ os).size; rw [Array.size_append]; have := h.size; omega, fun j hj => (Sort.heap_grow_old w os (by omega)).trans (h.block j hj)⟩)
/-- A row of events that the call owns: its cells, in the sort's words. -/
theorem voice_holds {w : World} {base g cap n : Nat} {l : List S85} (h : Kd.R k85 85 w base (fun _ => True) (.slice (some ⟨g, 0, none⟩) n cap) l) : Sort.HoldsK encE 4 w g 0 l.toArray := by
 obtain ⟨_, inner, ho, hr⟩ := h; obtain ⟨hn, hrow⟩ := hr; obtain ⟨hlen, ho2⟩ := ho; (change inner.length = l.length * 4 at hn); (change inner.length = l.length * 4 at hlen)
 rcases ho2 with ⟨e0, _⟩ | ⟨g', cap', cur, e0, hb, hg, hnc, hm, hs, ht⟩
 · cases e0
 · injection e0 with e1 e2 e3
   (injection e1 with e1); (injection e1 with e1); subst e1; subst e3; (change cur.size = _ * 4 at hs); (change List.take (l.length * 4) cur.toList = inner at ht); intro t htt; rw [Sort.size_flatK] at htt; (have htt' : t < l.length * 4 := by simpa using htt); (have hj : t / 4 < l.length := by omega); (have h1 : (inner.drop (t / 4 * 4)).take 4 = encE l[t / 4] := k85_openM (hrow (t / 4) l[t / 4] (List.getElem?_eq_getElem hj))); (have h2 : ((inner.drop (t / 4 * 4)).take 4)[t % 4]? = (encE l[t / 4])[t % 4]? := by rw [h1]); rw [List.getElem?_take, if_pos (by omega), List.getElem?_drop, show t / 4 * 4 + t % 4 = t by omega] at h2
   have h3 : inner[t]? = cur[t]? := by
    rw [← ht, List.getElem?_take, if_pos (by omega), Array.getElem?_toList]
   have hlt : t % 4 < (encE l[t / 4]).length := by rw [encE_length]; omega
   refine ⟨?_, by simp [World.frozen?, hg]⟩; rw [Sort.get_flatK _ _ _ _ (by simpa using htt')]; (have h4 : l.toArray[t / 4]! = l[t / 4] := by rw [getElem!_pos l.toArray (t / 4) (by simpa using hj)]; simp); rw [h4, getElem!_pos (encE l[t / 4]) (t % 4) hlt]; simp only [World.cell?, hg, Nat.zero_add]; simp only [Option.isSome_none, Bool.false_eq_true, if_false]; rw [← h3, h2, List.getElem?_eq_getElem hlt]; rfl
theorem voice_own {w2 w3 : World} {base base' g cap n q : Nat} {l ys : List S85} {os : Array Obj} {k : Nat} (h : Kd.R k85 85 w2 base (fun _ => True) (.slice (some ⟨g, 0, none⟩) n cap) l) (hb3 : Below w2.heap.size w2 w3) (hgw : g < w2.heap.size) (hbase : base' ≤ base) (hy : ys.length = l.length) (hk : k ≤ ys.length) :
 Kd.R k85 85 (sortWorldK encE 4 w3 g 0 q ys.toArray os) base' (fun _ => True) (.slice (some ⟨g, 0, none⟩) k cap) (ys.take k) := by
 obtain ⟨_, inner, ho, hr⟩ := h; obtain ⟨hlen, ho2⟩ := ho
 rcases ho2 with ⟨e0, _⟩ | ⟨g', cap', cur, e0, hb, hg, hnc, hm, hs, ht⟩
 · cases e0
 · injection e0 with e1 e2 e3
   (injection e1 with e1); (injection e1 with e1); subst e1; subst e3; (change cur.size = _ * 4 at hs); (have hg3 : w3.heap[g]? = some (.cells cur 85 (0, 0)) := (hb3.block g hgw).trans hg)
   have hw : (sortWorldK encE 4 w3 g 0 q ys.toArray os).heap[g]? = some (.cells (Sort.putCells id 0 (Sort.flatK encE 4 ys.toArray) cur) 85 (0, 0)) := by
    unfold sortWorldK; rw [Sort.heap_grow_old _ _ (by rw [Sort.size_putRowK]; exact Nat.lt_of_lt_of_le hgw hb3.size)]; (simp [Sort.putRowK, Sort.putRow, Sort.mapBlock, Sort.ahead, Array.getElem?_modify, hg3, Sort.onCells])
   have hks : (ys.take k).length = k := by rw [List.length_take]; omega
   have hcs : (Sort.putCells id 0 (Sort.flatK encE 4 ys.toArray) cur).size = cap * 4 := by simpa [Sort.putCells] using hs
   refine ⟨fun _ _ => trivial, ((Sort.putCells id 0 (Sort.flatK encE 4 ys.toArray) cur).toList.take (k * 4)), ?_, ?_⟩; (rw [hks]; refine ⟨by rw [List.length_take, Array.length_toList, hcs]; show min (k * 4) (cap * 4) = k * 4; omega, .inr ⟨g, cap, _, rfl, Nat.le_trans hbase hb, hw, by omega, hm, hcs, rfl⟩⟩)
   · refine ⟨by rw [List.length_take, Array.length_toList, hcs, hks]; show min (k * 4) (cap * 4) = k * 4; omega, fun j p hj => ?_⟩
     have hjk : j < k := by have := (List.getElem?_eq_some_iff.1 hj).1; omega
     have hjp : ys[j]? = some p := by rw [List.getElem?_take, if_pos hjk] at hj; exact hj
     (have hjl : j < ys.length := (List.getElem?_eq_some_iff.1 hjp).1)
     have e : (((Sort.putCells id 0 (Sort.flatK encE 4 ys.toArray) cur).toList.take (k * 4)).drop (j * 4)).take 4 = encE p := by
      (apply List.ext_getElem?); intro c
      by_cases hc : c < 4
      · have hlt : j * 4 + c < cur.size := by rw [hs]; omega
        have hf : j * 4 + c < (Sort.flatK encE 4 ys.toArray).size := by rw [Sort.size_flatK, List.size_toArray]; omega
        rw [List.getElem?_take, if_pos hc, List.getElem?_drop, List.getElem?_take, if_pos (by omega), Array.getElem?_toList]; simp only [Sort.putCells, Array.getElem?_mapIdx, Array.getElem?_eq_getElem hlt, Option.map_some]; rw [if_pos (by omega)]; simp only [Nat.sub_zero, id]; rw [Sort.get_flatK _ _ _ _ (by simpa using hf), show (j * 4 + c) / 4 = j by omega, show (j * 4 + c) % 4 = c by omega]
        have h4 : ys.toArray[j]! = p := by
         obtain ⟨h5, h6⟩ := List.getElem?_eq_some_iff.1 hjp; rw [getElem!_pos ys.toArray j (by simpa using h5)]; simpa using h6
        have hl4 : c < (encE p).length := by rw [encE_length]; exact hc
        rw [h4, getElem!_pos (encE p) c hl4, List.getElem?_eq_getElem hl4]
      · rw [List.getElem?_take, if_neg hc, List.getElem?_eq_none (by rw [encE_length]; omega)]
     show k85.M _ _ _ p _
     (have e2 : (((Sort.putCells id 0 (Sort.flatK encE 4 ys.toArray) cur).toList.take (k * 4)).drop (j * k85.sz)).take k85.sz = encE p := e); rw [e2]; exact k85_mkM _ _ _ p
set_option maxHeartbeats 8000000 in
theorem impl_VoiceOf.calls (A0 : Option Addr) (c0 : Nat) (l0 : List (S85)) (a1 : Int) (r : List (S85)) (w : World) (hr0 : Kd.C k85 w A0 l0.length l0) (hc0 : l0.length ≤ c0) (h : impl_VoiceOf.f l0 a1 = some r) :
 Calls Try.prog 67 #[.slice A0 l0.length c0, .int .i64 a1] w fun e w' => ∃ v0_ : Value, e = .returned (v0_) ∧ Kd.R k85 85 w' w.heap.size (fun _ => True) v0_ r ∧ Below w.heap.size w w' := by
 unfold impl_VoiceOf.f at h
 by_cases hl : l0.length < 4398046511104
 · rw [if_pos hl] at h
   obtain rfl := Option.some.inj h; (have hcl : impl_Event.f l0 = some l0 := by unfold impl_Event.f; simp [hl]); obtain ⟨w1, hw1⟩ : ∃ w1, w1 = w.alloc (.cells #[.int .i64 a1] 3) := ⟨_, rfl⟩; (have hB1 : Below w.heap.size w w1 := by rw [hw1]; exact below_alloc (Below.refl _ _) _); (have hs1 : w1.heap.size = w.heap.size + 1 := by rw [hw1]; exact Array.size_push ..); (have hc1 : w1.cell? ⟨w.heap.size, 0, none⟩ = some (.int .i64 a1) := by rw [hw1]; simp only [World.cell?, heap_alloc_new]; rfl); have hclone := impl_Event.calls A0 c0 l0 l0 w1 (Kd.C_below hr0 hB1) hc0 hcl; rw [hw1] at hclone
   by_cases h0 : l0.length = 0
   · obtain rfl := List.length_eq_zero_iff.1 h0
     go_enter Try.func67, Try.ntmps67; (go_wp2_with (first | (go_at_call 96; refine hclone.mono ?_; rintro e w2 ⟨v, rfl, hR, hb⟩; rw [← hw1] at hR hb; obtain ⟨A, c, rfl, hlc, hC⟩ := Kd.R_reads hR) | (go_at_call 95; refine (voice_del0 A c _ _).mono ?_; rintro e w3 ⟨rfl, rfl⟩))); go_ret; exact ⟨_, rfl, Kd.R_lower hR (by omega), hB1.trans (hb.mono (by omega))⟩
   · go_enter Try.func67, Try.ntmps67
     (go_wp2_with (go_at_call 96; refine hclone.mono ?_; rintro e w2 ⟨v, rfl, hR, hb⟩; rw [← hw1] at hR hb; obtain ⟨g, cap, rfl, hbg, hgw, hcells⟩ := Kd.R_form hR (Nat.pos_of_ne_zero h0))); have hH := voice_holds hR; (have hc2 : w2.cell? ⟨w.heap.size, 0, none⟩ = some (.int .i64 a1) := (hb.cell (p := ⟨w.heap.size, 0, none⟩) (by show w.heap.size < w1.heap.size; omega)).trans hc1); have hs2 := hb.size; (have eg : ∀ args w, (callFunc 97 args).run Try.prog w = .ok (.enter 97 args) w := enters_of Try.func97 (by kernel_rfl) rfl); (have hcap : l0.length ≤ cap := by obtain ⟨_, _, e_, h_, _⟩ := Kd.R_reads hR; injection e_ with e1_ e2_ e3_; omega); (have hmax : l0.length ≤ 9223372036854775807 := by omega)
     have hp1 : PredBelow Try.prog 97 #[.pointer (some ⟨w.heap.size, 0, none⟩)] (fun x => .agg (encE x).toArray) (fun e => e.f3 != a1) w2 := by
      intro W x hW; have hv := voice_1 x a1 w.heap.size W (by have := hW.size; omega) ((hW.cell (p := ⟨w.heap.size, 0, none⟩) (by show w.heap.size < w2.heap.size; omega)).trans hc2); refine hv.mono ?_; rintro e w' ⟨he, q, os, rfl⟩; exact ⟨he, voice_below (pw_below_drewN hW q) (by show w2.heap.size ≤ W.heap.size; exact hW.size) os⟩
     have hp2 : ∀ W, Below w2.heap.size w2 W → DelFunc.PredLays Try.prog 97 #[.pointer (some ⟨w.heap.size, 0, none⟩)] encE 4 (fun e => e.f3 != a1) g 0 l0.toArray.size W := by
      intro W hW m os dk x hs; have hsz := hW.size; have hss := size_sortWorldK_c encE 4 W g 0 m dk os; refine voice_1 x a1 w.heap.size _ (by omega) ?_; have hk := (hW.cell (p := ⟨w.heap.size, 0, none⟩) (by show w.heap.size < w2.heap.size; omega)).trans hc2; unfold sortWorldK; rw [Sort.cell?_grow _ _ _ (by show w.heap.size < (Sort.putRowK _ _ _ _ _ _).heap.size; rw [Sort.size_putRowK]; show w.heap.size < W.heap.size; omega), Sort.cell?_putRowK_other _ _ _ _ _ _ _ (by show w.heap.size ≠ g; omega)]; exact hk
     have hdel := DelFunc.delFunc DelFunc.layDel 4 (by decide) Try.isAgg85 Try.sizeOf85 encE encE_length encE_one z85 ⟨rfl, Try.zeroValue85⟩ (fun e => e.f3 != a1) 97 #[.pointer (some ⟨w.heap.size, 0, none⟩)] eg g 0 cap l0.toArray w2 hp1 hp2 hH hgw (by simpa using hmax) (by simpa using hcap); rw [List.size_toArray] at hdel; (go_wp2_with (go_at_call 95; refine hdel.mono ?_; rintro e w4 ⟨rfl, w3, q, os, hb3, rfl⟩)); go_ret; obtain ⟨ys, hys⟩ : ∃ ys, ys = (l0.filter fun e => !(e.f3 != a1)) ++ List.replicate (l0.length - (l0.filter fun e => !(e.f3 != a1)).length) z85 := ⟨_, rfl⟩; rw [← hys]; (have hfl : (l0.filter fun e => !(e.f3 != a1)).length ≤ l0.length := List.length_filter_le _ _); (have hyl : ys.length = l0.length := by rw [hys, List.length_append, List.length_replicate]; omega); (have hyt : ys.take (l0.filter fun e => !(e.f3 != a1)).length = (l0.filter fun e => !(e.f3 != a1)) := by rw [hys, List.take_left]); have hown := voice_own (base' := w.heap.size) (ys := ys) (q := q) (os := os) (k := (l0.filter fun e => !(e.f3 != a1)).length) hR hb3 hgw (by omega) hyl (by omega); rw [hyt] at hown; (have hB3 : Below w.heap.size w w3 := (hB1.trans (hb.mono (by omega))).trans (hb3.mono (by omega))); refine ⟨_, rfl, hown, ?_⟩; refine voice_below (B := w.heap.size) (w0 := w) (Lib.below_putRow (enc := id) hB3 (by omega)) ?_ os; (show w.heap.size ≤ (Sort.putRowK _ _ _ _ _ _).heap.size); rw [Sort.size_putRowK]; exact hB3.size
 · rw [if_neg hl] at h; cases h
/-! ### impl_LeapsIn: function 31 -/
def impl_LeapsIn.l0 : Nat → Int → List Int → List (S85) → Int → Option (List Int)
 | 0, _, _, _, _ => none
 | k + 1, x2, x7, x8, x9 => if x9 < (x8.length : Int) then (if 0 ≤ x9 then (if 0 ≤ (wrap64 (x9 - 1)) then (if (wrap64 (x9 - 1)) < (x8.length : Int) then (if (mx (wrap64 (((rd_T85 x8 x9).f2) - ((rd_T85 x8 (wrap64 (x9 - 1))).f2))) (wrap64 (-(wrap64 (((rd_T85 x8 x9).f2) - ((rd_T85 x8 (wrap64 (x9 - 1))).f2)))))) > x2 then (if x7.length < 17592186044416 then (impl_LeapsIn.l0 k x2 (x7 ++ [(rd_T85 x8 x9).f0]) x8 (wrap64 (x9 + 1))) else (none)) else (impl_LeapsIn.l0 k x2 x7 x8 (wrap64 (x9 + 1)))) else (none)) else (none)) else (none)) else (some x7)
def impl_LeapsIn.f (k : Nat) (l0 : List (S85)) (a1 : Int) (a2 : Int) : Option (List Int) := (some (([] : List Int) : List Int)).bind fun y526 => ((impl_IsScore.f k l0).bind fun t529 => (if t529 = true then ((impl_VoiceOf.f l0 a1).bind fun t530 => (impl_LeapsIn.l0 k a2 y526 t530 1)) else (some y526)))
theorem impl_LeapsIn.mono_l : ∀ k, (∀ y0 y1 y2 y3, LeO (impl_LeapsIn.l0 k y0 y1 y2 y3) (impl_LeapsIn.l0 (k + 1) y0 y1 y2 y3))
 | 0 => fun _ _ _ _ r h => by simp [impl_LeapsIn.l0] at h
 | k + 1 => by
  have ih0 := impl_LeapsIn.mono_l k
  · intro y0 y1 y2 y3
    unfold impl_LeapsIn.l0
    repeat' first
    | (with_reducible exact ih0 _ _ _ _)
    | (with_reducible exact impl_IsScore.mono _ _)
    | (with_reducible exact LeO.refl _)
    | (with_reducible exact LeO.none _)
    | (with_reducible refine LeO.ite ?_ ?_)
    | (with_reducible refine LeO.bind ?_ (fun _ => ?_))
    | exact ih0 _ _ _ _
    | exact impl_IsScore.mono _ _
    | exact LeO.none _
    | refine LeO.ite ?_ ?_
    | refine LeO.bind ?_ (fun _ => ?_)
theorem impl_LeapsIn.mono : ∀ a0 a1 a2 k, LeO (impl_LeapsIn.f k a0 a1 a2) (impl_LeapsIn.f (k + 1) a0 a1 a2) := by
 intro a0 a1 a2 k; have ih0 := impl_LeapsIn.mono_l k; unfold impl_LeapsIn.f
 repeat' first
  | (with_reducible exact ih0 _ _ _ _)
  | (with_reducible exact impl_IsScore.mono _ _)
  | (with_reducible exact LeO.refl _)
  | (with_reducible exact LeO.none _)
  | (with_reducible refine LeO.ite ?_ ?_)
  | (with_reducible refine LeO.bind ?_ (fun _ => ?_))
  | exact ih0 _ _ _ _
  | exact impl_IsScore.mono _ _
  | exact LeO.none _
  | refine LeO.ite ?_ ?_
  | refine LeO.bind ?_ (fun _ => ?_)
set_option maxHeartbeats 8000000 in
set_option maxRecDepth 100000 in
theorem impl_LeapsIn.calls (k : Nat) (A0 : Option Addr) (c0 : Nat) (l0 : List (S85)) (a1 : Int) (a2 : Int) (r : List Int) (w : World) (hr0 : Kd.C k85 w A0 l0.length l0) (hc0 : l0.length ≤ c0) (h : impl_LeapsIn.f k l0 a1 a2 = some r) :
 Calls Try.prog 31 #[.slice A0 l0.length c0, .int .i64 a1, .int .i64 a2] w fun e w' => ∃ v0_ : Value, e = .returned (v0_) ∧ Kd.R (Kd.int .i64) 3 w' w.heap.size (fun _ => True) v0_ r ∧ Below w.heap.size w w' := by
 have HR0 := q0_12 hr0; have HC0 := q0_12 hc0; clear hr0 hc0; have HB := q0_12 (Below.refl w.heap.size w); (have H : ((some (([] : List Int) : List Int)).bind fun y526 => ((impl_IsScore.f k l0).bind fun t529 => (if t529 = true then ((impl_VoiceOf.f l0 a1).bind fun t530 => (impl_LeapsIn.l0 k a2 y526 t530 1)) else (some y526)))) = some r := h); clear h; obtain ⟨y526, hy526⟩ : ∃ y_ : List Int, y_ = (([] : List Int)) := ⟨_, rfl⟩; (replace H : ((impl_IsScore.f k l0).bind fun t529 => (if t529 = true then ((impl_VoiceOf.f l0 a1).bind fun t530 => (impl_LeapsIn.l0 k a2 y526 t530 1)) else (some y526))) = some r := by first | (rw [hy526]; with_reducible exact H) | (have H2_ := (Option.bind_some _ _).symm.trans H; rw [hy526]; with_reducible exact H2_) | (have H2_ := (Option.bind_some _ _).symm.trans H; with_reducible exact H2_) | with_reducible exact H | (rw [hy526]; exact H) | exact H); have Ny526 := q0_12 hy526; clear hy526; replace H := Option.bind_eq_some_iff.mp H; obtain ⟨t529, A40, H⟩ := H; replace H : (if t529 = true then ((impl_VoiceOf.f l0 a1).bind fun t530 => (impl_LeapsIn.l0 k a2 y526 t530 1)) else (some y526)) = some r := H; have A4 := q0_12 A40; clear A40
 by_cases c5 : t529 = true
 · subst c5
   have H1 : ((impl_VoiceOf.f l0 a1).bind fun t530 => (impl_LeapsIn.l0 k a2 y526 t530 1)) = some r := by rw [if_pos rfl] at H; exact H
   clear H; have H := H1; clear H1; replace H := Option.bind_eq_some_iff.mp H; obtain ⟨t530, A60, H⟩ := H; replace H : (impl_LeapsIn.l0 k a2 y526 t530 1) = some r := H; have A6 := q0_12 A60; clear A60; (have H' := q0_12 H); clear H; go_enter Try.func31, Try.ntmps31; (go_wp2_with (first | ((with_reducible refine gate_dst (N := 11) rfl ?_); refine Kd.R_lit (Kd.int .i64) _ 3 ?hg (N := 11) ?hd (xs := ([] : List Int)) (inner := []) (ok := fun _ => True) (okp := fun _ => True) ?hr ?hp (fun _ hk => hk) trivial (Below.refl _ _) (Nat.le_refl _) (by simp) ?_; (case hd => rfl); (case hg => rfl); (case hr => first | (go_simp; done) | (go_simp; rfl)); (case hp => exact (Reps.none _ _)); intro v527 w7 ho8 hb hg_ hnew_; clear hg_ hnew_; (first | rw [← Ny526.out] at ho8 | (simp only [Int.reduceToNat] at ho8; rw [← Ny526.out] at ho8)); have n0_ := q0_12 (Kd.R_lower ho8 (below_size (q3_12))); have n1_ := q0_12 (below_step (q3_12) hb); clear HB; have q1 := n0_; have HB := n1_; clear n0_ n1_; clear hb ho8) | (go_at_call 60; (with_reducible refine (impl_IsScore.calls k _ _ l0 true _ ?side1 ?side2 A4.out).mono ?_); (case side1 => exact ca (Kd.C_below HR0.out HB.out)); (case side2 => exact HC0.out); rintro e w9 ⟨rfl, hb⟩; have n0_ := q0_12 (Kd.R_below (ra q1.out) hb); have n1_ := q0_12 (below_step (q3_12) hb); clear q1; clear HB; have q1 := n0_; have HB := n1_; clear n0_ n1_; (try clear hb); (try clear hb2); (try clear hk); (try clear hi)) | (go_at_call 67; (with_reducible refine (impl_VoiceOf.calls _ _ l0 a1 t530 _ ?side1 ?side2 A6.out).mono ?_); (case side1 => exact ca (Kd.C_below HR0.out HB.out)); (case side2 => exact HC0.out); rintro e w10 ⟨v531, rfl, ho0, hb⟩; have n0_ := q0_12 (Kd.R_below (ra q1.out) hb); have n1_ := q0_12 (Kd.R_lower ho0 (below_size (q3_12))); have n2_ := q0_12 (below_step (q3_12) hb); clear q1; clear HB; have q1 := n0_; have qc := n1_; have HB := n2_; clear n0_ n1_ n2_; (try clear hb); (try clear hb2); (try clear hk); (try clear hi); (try clear ho0))))
   (repeat (go_quiet (first | ((with_reducible refine gate_dst (N := 11) rfl ?_); refine Kd.R_lit (Kd.int .i64) _ 3 ?hg (N := 11) ?hd (xs := ([] : List Int)) (inner := []) (ok := fun _ => True) (okp := fun _ => True) ?hr ?hp (fun _ hk => hk) trivial (Below.refl _ _) (Nat.le_refl _) (by simp) ?_; (case hd => rfl); (case hg => rfl); (case hr => first | (go_simp; done) | (go_simp; rfl)); (case hp => exact (Reps.none _ _)); intro v527 w7 ho8 hb hg_ hnew_; clear hg_ hnew_; (first | rw [← Ny526.out] at ho8 | (simp only [Int.reduceToNat] at ho8; rw [← Ny526.out] at ho8)); have n0_ := q0_12 (Kd.R_lower ho8 (below_size (q3_12))); have n1_ := q0_12 (below_step (q3_12) hb); clear HB; have q1 := n0_; have HB := n1_; clear n0_ n1_; clear hb ho8) | (go_at_call 60; (with_reducible refine (impl_IsScore.calls k _ _ l0 true _ ?side1 ?side2 A4.out).mono ?_); (case side1 => exact ca (Kd.C_below HR0.out HB.out)); (case side2 => exact HC0.out); rintro e w9 ⟨rfl, hb⟩; have n0_ := q0_12 (Kd.R_below (ra q1.out) hb); have n1_ := q0_12 (below_step (q3_12) hb); clear q1; clear HB; have q1 := n0_; have HB := n1_; clear n0_ n1_; (try clear hb); (try clear hb2); (try clear hk); (try clear hi)) | (go_at_call 67; (with_reducible refine (impl_VoiceOf.calls _ _ l0 a1 t530 _ ?side1 ?side2 A6.out).mono ?_); (case side1 => exact ca (Kd.C_below HR0.out HB.out)); (case side2 => exact HC0.out); rintro e w10 ⟨v531, rfl, ho0, hb⟩; have n0_ := q0_12 (Kd.R_below (ra q1.out) hb); have n1_ := q0_12 (Kd.R_lower ho0 (below_size (q3_12))); have n2_ := q0_12 (below_step (q3_12) hb); clear q1; clear HB; have q1 := n0_; have qc := n1_; have HB := n2_; clear n0_ n1_ n2_; (try clear hb); (try clear hb2); (try clear hk); (try clear hi); (try clear ho0))); try go_wp2_with (first | ((with_reducible refine gate_dst (N := 11) rfl ?_); refine Kd.R_lit (Kd.int .i64) _ 3 ?hg (N := 11) ?hd (xs := ([] : List Int)) (inner := []) (ok := fun _ => True) (okp := fun _ => True) ?hr ?hp (fun _ hk => hk) trivial (Below.refl _ _) (Nat.le_refl _) (by simp) ?_; (case hd => rfl); (case hg => rfl); (case hr => first | (go_simp; done) | (go_simp; rfl)); (case hp => exact (Reps.none _ _)); intro v527 w7 ho8 hb hg_ hnew_; clear hg_ hnew_; (first | rw [← Ny526.out] at ho8 | (simp only [Int.reduceToNat] at ho8; rw [← Ny526.out] at ho8)); have n0_ := q0_12 (Kd.R_lower ho8 (below_size (q3_12))); have n1_ := q0_12 (below_step (q3_12) hb); clear HB; have q1 := n0_; have HB := n1_; clear n0_ n1_; clear hb ho8) | (go_at_call 60; (with_reducible refine (impl_IsScore.calls k _ _ l0 true _ ?side1 ?side2 A4.out).mono ?_); (case side1 => exact ca (Kd.C_below HR0.out HB.out)); (case side2 => exact HC0.out); rintro e w9 ⟨rfl, hb⟩; have n0_ := q0_12 (Kd.R_below (ra q1.out) hb); have n1_ := q0_12 (below_step (q3_12) hb); clear q1; clear HB; have q1 := n0_; have HB := n1_; clear n0_ n1_; (try clear hb); (try clear hb2); (try clear hk); (try clear hi)) | (go_at_call 67; (with_reducible refine (impl_VoiceOf.calls _ _ l0 a1 t530 _ ?side1 ?side2 A6.out).mono ?_); (case side1 => exact ca (Kd.C_below HR0.out HB.out)); (case side2 => exact HC0.out); rintro e w10 ⟨v531, rfl, ho0, hb⟩; have n0_ := q0_12 (Kd.R_below (ra q1.out) hb); have n1_ := q0_12 (Kd.R_lower ho0 (below_size (q3_12))); have n2_ := q0_12 (below_step (q3_12) hb); clear q1; clear HB; have q1 := n0_; have qc := n1_; have HB := n2_; clear n0_ n1_ n2_; (try clear hb); (try clear hb2); (try clear hk); (try clear hi); (try clear ho0)))))
   (go_loopg [7, 9] k (fun kq v7 v9 w' => ∃ (x7_1 : List Int) (x9_1 : Int), v9 = .int .i64 x9_1 ∧ Aside0 (impl_LeapsIn.l0 kq a2 x7_1 t530 x9_1 = some r) ∧ Aside0 (kq ≤ k) ∧ Aside0 (Kd.R (Kd.int .i64) 3 w' w.heap.size (fun _ => True) v7 x7_1) ∧ Aside0 (Kd.R k85 85 w' w.heap.size (fun _ => True) v531 t530) ∧ Aside0 (Below w.heap.size w w')))
   case atStart => exact ⟨(y526), (1), (by first | rfl | (simp; done) | (simp [*]; done)), H', ⟨Nat.le_refl _⟩, ⟨by refine ra ?_; exact q1.out⟩, ⟨by refine ra ?_; exact qc.out⟩, ⟨by exact (q3_12)⟩⟩
   case round =>
    clear H'; (try clear p2); (try clear c3); (try clear c5); obtain ⟨x7_1, x9_1, rfl, HA, HK1, q7, q4, HB⟩ := hrel
    cases gk with
    | zero => exact absurd HA.out (by simp [impl_LeapsIn.l0])
    | succ k1 =>
     have H := HA.out; clear HA; (simp only [impl_LeapsIn.l0] at H)
     by_cases c11 : x9_1 < (t530.length : Int)
     · rw [if_pos c11] at H
       (have c11b0 : decide (x9_1 < (t530.length : Int)) = true := decide_eq_true c11); clear c11
       by_cases c12 : 0 ≤ x9_1
       · rw [if_pos c12] at H
         (have c12b0 : decide (0 ≤ x9_1) = true := decide_eq_true c12); clear c12; obtain ⟨ji13, hji13⟩ : ∃ j_ : Int, (wrap64 (x9_1 - 1)) = j_ := ⟨_, rfl⟩; (replace H : (if 0 ≤ (ji13) then (if (ji13) < (t530.length : Int) then (if (mx (wrap64 (((rd_T85 t530 x9_1).f2) - ((rd_T85 t530 (ji13)).f2))) (wrap64 (-(wrap64 (((rd_T85 t530 x9_1).f2) - ((rd_T85 t530 (ji13)).f2)))))) > a2 then (if x7_1.length < 17592186044416 then (impl_LeapsIn.l0 k1 a2 (x7_1 ++ [(rd_T85 t530 x9_1).f0]) t530 (wrap64 (x9_1 + 1))) else (none)) else (impl_LeapsIn.l0 k1 a2 x7_1 t530 (wrap64 (x9_1 + 1)))) else (none)) else (none)) = some r := by first | (rw [hji13] at H; exact H) | (simp only [hji13] at H ⊢; exact H)); (have hji13w : (IntKind.i64.wrap (x9_1 - 1)) = ji13 := (i64_w _).trans hji13)
         by_cases c14 : 0 ≤ (ji13)
         · rw [if_pos c14] at H
           (have c14b0 : decide (0 ≤ (ji13)) = true := decide_eq_true c14); clear c14
           by_cases c15 : (ji13) < (t530.length : Int)
           · rw [if_pos c15] at H
             (have c15b0 : decide ((ji13) < (t530.length : Int)) = true := decide_eq_true c15); clear c15; obtain ⟨ji16, hji16⟩ : ∃ j_ : Int, (mx (wrap64 (((rd_T85 t530 x9_1).f2) - ((rd_T85 t530 (ji13)).f2))) (wrap64 (-(wrap64 (((rd_T85 t530 x9_1).f2) - ((rd_T85 t530 (ji13)).f2)))))) = j_ := ⟨_, rfl⟩; (have hji16y : (mx (IntKind.i64.wrap (((rd_T85 t530 x9_1).f2) - ((rd_T85 t530 (ji13)).f2))) (IntKind.i64.wrap (-(IntKind.i64.wrap (((rd_T85 t530 x9_1).f2) - ((rd_T85 t530 (ji13)).f2)))))) = ji16 := by simp only [i64_w]; exact hji16); (replace H : (if (ji16) > a2 then (if x7_1.length < 17592186044416 then (impl_LeapsIn.l0 k1 a2 (x7_1 ++ [(rd_T85 t530 x9_1).f0]) t530 (wrap64 (x9_1 + 1))) else (none)) else (impl_LeapsIn.l0 k1 a2 x7_1 t530 (wrap64 (x9_1 + 1)))) = some r := by first | (rw [hji16] at H; exact H) | (simp only [hji16] at H ⊢; exact H)); (have hji16_ : (if (wrap64 (((rd_T85 t530 x9_1).f2) - ((rd_T85 t530 (ji13)).f2))) < (wrap64 (-(wrap64 (((rd_T85 t530 x9_1).f2) - ((rd_T85 t530 (ji13)).f2))))) then (wrap64 (-(wrap64 (((rd_T85 t530 x9_1).f2) - ((rd_T85 t530 (ji13)).f2))))) else (wrap64 (((rd_T85 t530 x9_1).f2) - ((rd_T85 t530 (ji13)).f2)))) = ji16 := hji16)
             by_cases c17 : (ji16) > a2
             · rw [if_pos c17] at H
               (have c17b0 : decide (a2 < (ji16)) = true := decide_eq_true c17); clear c17
               by_cases c18 : x7_1.length < 17592186044416
               · rw [if_pos c18] at H
                 have LMc18 := q0_12 c18; clear c18; obtain ⟨y536, hy536⟩ : ∃ y_ : List Int, y_ = (x7_1 ++ [(rd_T85 t530 x9_1).f0]) := ⟨_, rfl⟩; (replace H : (impl_LeapsIn.l0 k1 a2 y536 t530 (wrap64 (x9_1 + 1))) = some r := by first | (rw [hy536]; with_reducible exact H) | (have H2_ := (Option.bind_some _ _).symm.trans H; rw [hy536]; with_reducible exact H2_) | (have H2_ := (Option.bind_some _ _).symm.trans H; with_reducible exact H2_) | with_reducible exact H | (rw [hy536]; exact H) | exact H); have Ny536 := q0_12 hy536; clear hy536; (have H' := q0_12 H); clear H; obtain ⟨qo, qp, eo19⟩ := Kd.R_slice q4.out; subst eo19; (have p533 : 0 ≤ (x9_1 : Int) := of_decide_eq_true (by first | (with_reducible assumption) | assumption)); (have q533 : x9_1 < (t530.length : Int) := of_decide_eq_true (by first | (with_reducible assumption) | assumption)); obtain ⟨ad533, e533, hx533_0, hx533_1, hx533_2, hx533_3⟩ := at_T85 (Kd.R_reads' q4.out).2.2 x9_1 p533 q533
                 cases e533
                 replace p533 := eq_true p533; replace q533 := eq_true q533; (have p534 : 0 ≤ ((ji13) : Int) := of_decide_eq_true (by first | (with_reducible assumption) | assumption)); (have q534 : (ji13) < (t530.length : Int) := of_decide_eq_true (by first | (with_reducible assumption) | assumption)); obtain ⟨ad534, e534, hx534_0, hx534_1, hx534_2, hx534_3⟩ := at_T85 (Kd.R_reads' q4.out).2.2 (ji13) p534 q534; obtain rfl : ad533 = ad534 := (by injection e534); replace p534 := eq_true p534; replace q534 := eq_true q534; (have p535 : 0 ≤ (x9_1 : Int) := of_decide_eq_true (by first | (with_reducible assumption) | assumption)); (have q535 : x9_1 < (t530.length : Int) := of_decide_eq_true (by first | (with_reducible assumption) | assumption)); obtain ⟨ad535, e535, hx535_0, hx535_1, hx535_2, hx535_3⟩ := at_T85 (Kd.R_reads' q4.out).2.2 x9_1 p535 q535; obtain rfl : ad533 = ad535 := (by injection e535); replace p535 := eq_true p535; replace q535 := eq_true q535; (go_wp2_with (first | ((with_reducible refine gate_builtin (b := .append) (xs := #[.tmp 43, .tmp 49]) rfl ?_); at_builtin; refine Kd.R_append (Kd.int .i64) (w0 := w) w.heap.size rfl (.tmp 43) (.tmp 49) 41 3 (.int .i64 0) 8 rfl Try.underlying41 info3 rfl (by decide) (by omega) u7 x7_1 ((rd_T85 t530 x9_1).f0) [.int .i64 ((rd_T85 t530 x9_1).f0)] (fun _ => True) (fun _ => False) rfl rfl ?aP (fun _ hk => hk.elim) ?aF ?aO ?aB ?aS ?aL ?_; (case aP => exact rfl); (case aB => exact (q3_12)); (case aF => exact (fun _ _ => trivial)); (case aO => exact (ra q7.out)); (case aS => exact (below_size (q3_12))); (case aL => have := LMc18.out; omega); intro v537 w20 ho hb hg hat; rw [← Ny536.out] at ho; have n0_ := q0_12 (Kd.R_over' (ra q4.out) (Kd.R_typed (ra q7.out)) (by decide) hg); have n1_ := q0_12 (hb); have n2_ := q0_12 (ho); clear q4; clear HB; clear q7; have q4 := n0_; have HB := n1_; have qd := n2_; clear n0_ n1_ n2_; clear ho hb hg hat)))
                 (repeat (go_quiet (first | ((with_reducible refine gate_builtin (b := .append) (xs := #[.tmp 43, .tmp 49]) rfl ?_); at_builtin; refine Kd.R_append (Kd.int .i64) (w0 := w) w.heap.size rfl (.tmp 43) (.tmp 49) 41 3 (.int .i64 0) 8 rfl Try.underlying41 info3 rfl (by decide) (by omega) u7 x7_1 ((rd_T85 t530 x9_1).f0) [.int .i64 ((rd_T85 t530 x9_1).f0)] (fun _ => True) (fun _ => False) rfl rfl ?aP (fun _ hk => hk.elim) ?aF ?aO ?aB ?aS ?aL ?_; (case aP => exact rfl); (case aB => exact (q3_12)); (case aF => exact (fun _ _ => trivial)); (case aO => exact (ra q7.out)); (case aS => exact (below_size (q3_12))); (case aL => have := LMc18.out; omega); intro v537 w20 ho hb hg hat; rw [← Ny536.out] at ho; have n0_ := q0_12 (Kd.R_over' (ra q4.out) (Kd.R_typed (ra q7.out)) (by decide) hg); have n1_ := q0_12 (hb); have n2_ := q0_12 (ho); clear q4; clear HB; clear q7; have q4 := n0_; have HB := n1_; have qd := n2_; clear n0_ n1_ n2_; clear ho hb hg hat)); try go_wp2_with (first | ((with_reducible refine gate_builtin (b := .append) (xs := #[.tmp 43, .tmp 49]) rfl ?_); at_builtin; refine Kd.R_append (Kd.int .i64) (w0 := w) w.heap.size rfl (.tmp 43) (.tmp 49) 41 3 (.int .i64 0) 8 rfl Try.underlying41 info3 rfl (by decide) (by omega) u7 x7_1 ((rd_T85 t530 x9_1).f0) [.int .i64 ((rd_T85 t530 x9_1).f0)] (fun _ => True) (fun _ => False) rfl rfl ?aP (fun _ hk => hk.elim) ?aF ?aO ?aB ?aS ?aL ?_; (case aP => exact rfl); (case aB => exact (q3_12)); (case aF => exact (fun _ _ => trivial)); (case aO => exact (ra q7.out)); (case aS => exact (below_size (q3_12))); (case aL => have := LMc18.out; omega); intro v537 w20 ho hb hg hat; rw [← Ny536.out] at ho; have n0_ := q0_12 (Kd.R_over' (ra q4.out) (Kd.R_typed (ra q7.out)) (by decide) hg); have n1_ := q0_12 (hb); have n2_ := q0_12 (ho); clear q4; clear HB; clear q7; have q4 := n0_; have HB := n1_; have qd := n2_; clear n0_ n1_ n2_; clear ho hb hg hat)))); (go_roundg k1)
                 case measure => have := HK1.out; omega
                 case rel => exact ⟨(y536), (wrap64 (x9_1 + 1)), (by first | rfl | (simp; done) | (simp [*]; done)), (by first | exact H' | (have H2_ := H'; (try simp only [← hji13, ← hji16] at H2_); (try simp only [← hji13, ← hji16]); exact H2_)), ⟨by have := HK1.out; omega⟩, ⟨by refine ra ?_; exact qd.out⟩, ⟨by refine ra ?_; exact q4.out⟩, ⟨by exact (q3_12)⟩⟩
               · rw [if_neg c18] at H
                 exact absurd H (by simp)
             · rw [if_neg c17] at H
               (have c17b0 : decide (a2 < (ji16)) = false := decide_eq_false c17); clear c17; (have H' := q0_12 H); clear H; obtain ⟨qq, qr, eo21⟩ := Kd.R_slice q4.out; subst eo21; (have p533 : 0 ≤ (x9_1 : Int) := of_decide_eq_true (by first | (with_reducible assumption) | assumption)); (have q533 : x9_1 < (t530.length : Int) := of_decide_eq_true (by first | (with_reducible assumption) | assumption)); obtain ⟨ad533, e533, hx533_0, hx533_1, hx533_2, hx533_3⟩ := at_T85 (Kd.R_reads' q4.out).2.2 x9_1 p533 q533
               cases e533
               replace p533 := eq_true p533; replace q533 := eq_true q533; (have p534 : 0 ≤ ((ji13) : Int) := of_decide_eq_true (by first | (with_reducible assumption) | assumption)); (have q534 : (ji13) < (t530.length : Int) := of_decide_eq_true (by first | (with_reducible assumption) | assumption)); obtain ⟨ad534, e534, hx534_0, hx534_1, hx534_2, hx534_3⟩ := at_T85 (Kd.R_reads' q4.out).2.2 (ji13) p534 q534; obtain rfl : ad533 = ad534 := (by injection e534); replace p534 := eq_true p534; replace q534 := eq_true q534; (go_wp2); (repeat (go_quiet (fail); try go_wp2)); (go_roundg k1)
               case measure => have := HK1.out; omega
               case rel => exact ⟨(x7_1), (wrap64 (x9_1 + 1)), (by first | rfl | (simp; done) | (simp [*]; done)), (by first | exact H' | (have H2_ := H'; (try simp only [← hji13, ← hji16] at H2_); (try simp only [← hji13, ← hji16]); exact H2_)), ⟨by have := HK1.out; omega⟩, ⟨by refine ra ?_; exact q7.out⟩, ⟨by refine ra ?_; exact q4.out⟩, ⟨by exact (q3_12)⟩⟩
           · rw [if_neg c15] at H
             exact absurd H (by simp)
         · rw [if_neg c14] at H
           exact absurd H (by simp)
       · rw [if_neg c12] at H
         exact absurd H (by simp)
     · rw [if_neg c11] at H
       (have c11b0 : decide (x9_1 < (t530.length : Int)) = false := decide_eq_false c11); clear c11; obtain rfl := Option.some.inj H; obtain ⟨qs, qt, eo22⟩ := Kd.R_slice q4.out; subst eo22; (go_wp2); (repeat (go_quiet (fail); try go_wp2)); go_ret; (exact ⟨_, by first | rfl | (simp [errW_none, errW_some] <;> rfl) | (simp [*, errW_none, errW_some] <;> rfl), by refine ra ?_; exact q7.out, by exact (q3_12)⟩)
 · replace c5 := Bool.eq_false_iff.mpr c5
   subst c5; (have H1 : (some y526) = some r := by rw [if_neg (show ¬ (false = true) by decide)] at H; exact H); clear H; have H := H1; clear H1; obtain rfl := Option.some.inj H; go_enter Try.func31, Try.ntmps31; (go_wp2_with (first | ((with_reducible refine gate_dst (N := 11) rfl ?_); refine Kd.R_lit (Kd.int .i64) _ 3 ?hg (N := 11) ?hd (xs := ([] : List Int)) (inner := []) (ok := fun _ => True) (okp := fun _ => True) ?hr ?hp (fun _ hk => hk) trivial (Below.refl _ _) (Nat.le_refl _) (by simp) ?_; (case hd => rfl); (case hg => rfl); (case hr => first | (go_simp; done) | (go_simp; rfl)); (case hp => exact (Reps.none _ _)); intro v527 w23 ho24 hb hg_ hnew_; clear hg_ hnew_; (first | rw [← Ny526.out] at ho24 | (simp only [Int.reduceToNat] at ho24; rw [← Ny526.out] at ho24)); have n0_ := q0_12 (Kd.R_lower ho24 (below_size (q3_12))); have n1_ := q0_12 (below_step (q3_12) hb); clear HB; have q1 := n0_; have HB := n1_; clear n0_ n1_; clear hb ho24) | (go_at_call 60; (with_reducible refine (impl_IsScore.calls k _ _ l0 false _ ?side1 ?side2 A4.out).mono ?_); (case side1 => exact ca (Kd.C_below HR0.out HB.out)); (case side2 => exact HC0.out); rintro e w25 ⟨rfl, hb⟩; have n0_ := q0_12 (Kd.R_below (ra q1.out) hb); have n1_ := q0_12 (below_step (q3_12) hb); clear q1; clear HB; have q1 := n0_; have HB := n1_; clear n0_ n1_; (try clear hb); (try clear hb2); (try clear hk); (try clear hi))))
   (repeat (go_quiet (first | ((with_reducible refine gate_dst (N := 11) rfl ?_); refine Kd.R_lit (Kd.int .i64) _ 3 ?hg (N := 11) ?hd (xs := ([] : List Int)) (inner := []) (ok := fun _ => True) (okp := fun _ => True) ?hr ?hp (fun _ hk => hk) trivial (Below.refl _ _) (Nat.le_refl _) (by simp) ?_; (case hd => rfl); (case hg => rfl); (case hr => first | (go_simp; done) | (go_simp; rfl)); (case hp => exact (Reps.none _ _)); intro v527 w23 ho24 hb hg_ hnew_; clear hg_ hnew_; (first | rw [← Ny526.out] at ho24 | (simp only [Int.reduceToNat] at ho24; rw [← Ny526.out] at ho24)); have n0_ := q0_12 (Kd.R_lower ho24 (below_size (q3_12))); have n1_ := q0_12 (below_step (q3_12) hb); clear HB; have q1 := n0_; have HB := n1_; clear n0_ n1_; clear hb ho24) | (go_at_call 60; (with_reducible refine (impl_IsScore.calls k _ _ l0 false _ ?side1 ?side2 A4.out).mono ?_); (case side1 => exact ca (Kd.C_below HR0.out HB.out)); (case side2 => exact HC0.out); rintro e w25 ⟨rfl, hb⟩; have n0_ := q0_12 (Kd.R_below (ra q1.out) hb); have n1_ := q0_12 (below_step (q3_12) hb); clear q1; clear HB; have q1 := n0_; have HB := n1_; clear n0_ n1_; (try clear hb); (try clear hb2); (try clear hk); (try clear hi))); try go_wp2_with (first | ((with_reducible refine gate_dst (N := 11) rfl ?_); refine Kd.R_lit (Kd.int .i64) _ 3 ?hg (N := 11) ?hd (xs := ([] : List Int)) (inner := []) (ok := fun _ => True) (okp := fun _ => True) ?hr ?hp (fun _ hk => hk) trivial (Below.refl _ _) (Nat.le_refl _) (by simp) ?_; (case hd => rfl); (case hg => rfl); (case hr => first | (go_simp; done) | (go_simp; rfl)); (case hp => exact (Reps.none _ _)); intro v527 w23 ho24 hb hg_ hnew_; clear hg_ hnew_; (first | rw [← Ny526.out] at ho24 | (simp only [Int.reduceToNat] at ho24; rw [← Ny526.out] at ho24)); have n0_ := q0_12 (Kd.R_lower ho24 (below_size (q3_12))); have n1_ := q0_12 (below_step (q3_12) hb); clear HB; have q1 := n0_; have HB := n1_; clear n0_ n1_; clear hb ho24) | (go_at_call 60; (with_reducible refine (impl_IsScore.calls k _ _ l0 false _ ?side1 ?side2 A4.out).mono ?_); (case side1 => exact ca (Kd.C_below HR0.out HB.out)); (case side2 => exact HC0.out); rintro e w25 ⟨rfl, hb⟩; have n0_ := q0_12 (Kd.R_below (ra q1.out) hb); have n1_ := q0_12 (below_step (q3_12) hb); clear q1; clear HB; have q1 := n0_; have HB := n1_; clear n0_ n1_; (try clear hb); (try clear hb2); (try clear hk); (try clear hi))))); go_ret; (exact ⟨_, by first | rfl | (simp [errW_none, errW_some] <;> rfl) | (simp [*, errW_none, errW_some] <;> rfl), by refine ra ?_; exact q1.out, by exact (q3_12)⟩)
/-! ### impl_FaultsIn: function 30 -/
mutual
def impl_FaultsIn.l0 : Nat → List (S91) → List (List Int) → Int → Int → Option ((List (S91)))
 | 0, _, _, _, _ => none
 | k + 1, x7, x24, x25, x26 => if x26 < x25 then (if 0 ≤ x26 then (if x26 < (x24.length : Int) then (impl_FaultsIn.l1 k x7 x26 x24 x25 x26 (rd_L3 x24 x26) ((rd_L3 x24 x26).length : Int) 0) else (none)) else (none)) else (some x7)
def impl_FaultsIn.l1 : Nat → List (S91) → Int → List (List Int) → Int → Int → List Int → Int → Int → Option ((List (S91)))
 | 0, _, _, _, _, _, _, _, _ => none
 | k + 1, x7, x8, x24, x25, x26, x31, x32, x33 => if x33 < x32 then (if 0 ≤ x33 then (if x33 < (x31.length : Int) then (if x7.length < 8796093022208 then (impl_FaultsIn.l1 k (x7 ++ [(⟨wrap64 (x8 + 1), rd x31 x33⟩ : S91)]) x8 x24 x25 x26 x31 x32 (wrap64 (x33 + 1))) else (none)) else (none)) else (none)) else (impl_FaultsIn.l0 k x7 x24 x25 (wrap64 (x26 + 1)))
end
def impl_FaultsIn.f (k : Nat) (l0 : List (S85)) (a1 : Int) (a2 : Int) : Option ((List (S91))) := (impl_ParallelsIn.f k l0 a1 a2).bind fun t542 => ((impl_CrossingsIn.f k l0 a1 a2).bind fun t545 => ((impl_LeapsIn.f k l0 a1 12).bind fun t548 => ((some (([t542, t545, t548] : List (List Int)) : List (List Int))).bind fun y551 => (impl_FaultsIn.l0 k (([] : List (S91))) y551 (y551.length : Int) 0))))
theorem impl_FaultsIn.mono_l : ∀ k, (∀ y0 y1 y2 y3, LeO (impl_FaultsIn.l0 k y0 y1 y2 y3) (impl_FaultsIn.l0 (k + 1) y0 y1 y2 y3)) ∧ (∀ y0 y1 y2 y3 y4 y5 y6 y7, LeO (impl_FaultsIn.l1 k y0 y1 y2 y3 y4 y5 y6 y7) (impl_FaultsIn.l1 (k + 1) y0 y1 y2 y3 y4 y5 y6 y7))
 | 0 => ⟨fun _ _ _ _ r h => by simp [impl_FaultsIn.l0] at h, fun _ _ _ _ _ _ _ _ r h => by simp [impl_FaultsIn.l1] at h⟩
 | k + 1 => by
  obtain ⟨ih0, ih1⟩ := impl_FaultsIn.mono_l k; refine ⟨?_, ?_⟩
  · intro y0 y1 y2 y3
    unfold impl_FaultsIn.l0
    repeat' first
    | (with_reducible exact ih0 _ _ _ _)
    | (with_reducible exact ih1 _ _ _ _ _ _ _ _)
    | (with_reducible exact impl_CrossingsIn.mono _ _ _ _)
    | (with_reducible exact impl_LeapsIn.mono _ _ _ _)
    | (with_reducible exact impl_ParallelsIn.mono _ _ _ _)
    | (with_reducible exact LeO.refl _)
    | (with_reducible exact LeO.none _)
    | (with_reducible refine LeO.ite ?_ ?_)
    | (with_reducible refine LeO.bind ?_ (fun _ => ?_))
    | exact ih0 _ _ _ _
    | exact ih1 _ _ _ _ _ _ _ _
    | exact impl_CrossingsIn.mono _ _ _ _
    | exact impl_LeapsIn.mono _ _ _ _
    | exact impl_ParallelsIn.mono _ _ _ _
    | exact LeO.none _
    | refine LeO.ite ?_ ?_
    | refine LeO.bind ?_ (fun _ => ?_)
  · intro y0 y1 y2 y3 y4 y5 y6 y7
    unfold impl_FaultsIn.l1
    repeat' first
    | (with_reducible exact ih0 _ _ _ _)
    | (with_reducible exact ih1 _ _ _ _ _ _ _ _)
    | (with_reducible exact impl_CrossingsIn.mono _ _ _ _)
    | (with_reducible exact impl_LeapsIn.mono _ _ _ _)
    | (with_reducible exact impl_ParallelsIn.mono _ _ _ _)
    | (with_reducible exact LeO.refl _)
    | (with_reducible exact LeO.none _)
    | (with_reducible refine LeO.ite ?_ ?_)
    | (with_reducible refine LeO.bind ?_ (fun _ => ?_))
    | exact ih0 _ _ _ _
    | exact ih1 _ _ _ _ _ _ _ _
    | exact impl_CrossingsIn.mono _ _ _ _
    | exact impl_LeapsIn.mono _ _ _ _
    | exact impl_ParallelsIn.mono _ _ _ _
    | exact LeO.none _
    | refine LeO.ite ?_ ?_
    | refine LeO.bind ?_ (fun _ => ?_)
theorem impl_FaultsIn.mono : ∀ a0 a1 a2 k, LeO (impl_FaultsIn.f k a0 a1 a2) (impl_FaultsIn.f (k + 1) a0 a1 a2) := by
 intro a0 a1 a2 k; obtain ⟨ih0, ih1⟩ := impl_FaultsIn.mono_l k; unfold impl_FaultsIn.f
 repeat' first
  | (with_reducible exact ih0 _ _ _ _)
  | (with_reducible exact ih1 _ _ _ _ _ _ _ _)
  | (with_reducible exact impl_CrossingsIn.mono _ _ _ _)
  | (with_reducible exact impl_LeapsIn.mono _ _ _ _)
  | (with_reducible exact impl_ParallelsIn.mono _ _ _ _)
  | (with_reducible exact LeO.refl _)
  | (with_reducible exact LeO.none _)
  | (with_reducible refine LeO.ite ?_ ?_)
  | (with_reducible refine LeO.bind ?_ (fun _ => ?_))
  | exact ih0 _ _ _ _
  | exact ih1 _ _ _ _ _ _ _ _
  | exact impl_CrossingsIn.mono _ _ _ _
  | exact impl_LeapsIn.mono _ _ _ _
  | exact impl_ParallelsIn.mono _ _ _ _
  | exact LeO.none _
  | refine LeO.ite ?_ ?_
  | refine LeO.bind ?_ (fun _ => ?_)
set_option maxHeartbeats 8000000 in
set_option maxRecDepth 100000 in
theorem impl_FaultsIn.calls (k : Nat) (A0 : Option Addr) (c0 : Nat) (l0 : List (S85)) (a1 : Int) (a2 : Int) (r : List (S91)) (w : World) (hr0 : Kd.C k85 w A0 l0.length l0) (hc0 : l0.length ≤ c0) (h : impl_FaultsIn.f k l0 a1 a2 = some r) :
 Calls Try.prog 30 #[.slice A0 l0.length c0, .int .i64 a1, .int .i64 a2] w fun e w' => ∃ v0_ : Value, e = .returned (v0_) ∧ Kd.R k91 91 w' w.heap.size (fun _ => True) v0_ r ∧ Below w.heap.size w w' := by
 have hu91 := Try.underlying91; have HR0 := q0_12 hr0; have HC0 := q0_12 hc0; clear hr0 hc0; have HB := q0_12 (Below.refl w.heap.size w); (have H : ((impl_ParallelsIn.f k l0 a1 a2).bind fun t542 => ((impl_CrossingsIn.f k l0 a1 a2).bind fun t545 => ((impl_LeapsIn.f k l0 a1 12).bind fun t548 => ((some (([t542, t545, t548] : List (List Int)) : List (List Int))).bind fun y551 => (impl_FaultsIn.l0 k (([] : List (S91))) y551 (y551.length : Int) 0))))) = some r := h); clear h; obtain ⟨y539, hy539⟩ : ∃ y_ : List (S91), y_ = (([] : List (S91))) := ⟨_, rfl⟩; (replace H : ((impl_ParallelsIn.f k l0 a1 a2).bind fun t542 => ((impl_CrossingsIn.f k l0 a1 a2).bind fun t545 => ((impl_LeapsIn.f k l0 a1 12).bind fun t548 => ((some (([t542, t545, t548] : List (List Int)) : List (List Int))).bind fun y551 => (impl_FaultsIn.l0 k y539 y551 (y551.length : Int) 0))))) = some r := by first | (rw [hy539]; with_reducible exact H) | (have H2_ := (Option.bind_some _ _).symm.trans H; rw [hy539]; with_reducible exact H2_) | (have H2_ := (Option.bind_some _ _).symm.trans H; with_reducible exact H2_) | with_reducible exact H | (rw [hy539]; exact H) | exact H); have Ny539 := q0_12 hy539; clear hy539; replace H := Option.bind_eq_some_iff.mp H; obtain ⟨t542, A40, H⟩ := H; replace H : ((impl_CrossingsIn.f k l0 a1 a2).bind fun t545 => ((impl_LeapsIn.f k l0 a1 12).bind fun t548 => ((some (([t542, t545, t548] : List (List Int)) : List (List Int))).bind fun y551 => (impl_FaultsIn.l0 k y539 y551 (y551.length : Int) 0)))) = some r := H; have A4 := q0_12 A40; clear A40; replace H := Option.bind_eq_some_iff.mp H; obtain ⟨t545, A50, H⟩ := H; replace H : ((impl_LeapsIn.f k l0 a1 12).bind fun t548 => ((some (([t542, t545, t548] : List (List Int)) : List (List Int))).bind fun y551 => (impl_FaultsIn.l0 k y539 y551 (y551.length : Int) 0))) = some r := H; have A5 := q0_12 A50; clear A50; replace H := Option.bind_eq_some_iff.mp H; obtain ⟨t548, A60, H⟩ := H; replace H : ((some (([t542, t545, t548] : List (List Int)) : List (List Int))).bind fun y551 => (impl_FaultsIn.l0 k y539 y551 (y551.length : Int) 0)) = some r := H; have A6 := q0_12 A60; clear A60; obtain ⟨y551, hy551⟩ : ∃ y_ : List (List Int), y_ = (([t542, t545, t548] : List (List Int))) := ⟨_, rfl⟩; (replace H : (impl_FaultsIn.l0 k y539 y551 (y551.length : Int) 0) = some r := by first | (rw [hy551]; with_reducible exact H) | (have H2_ := (Option.bind_some _ _).symm.trans H; rw [hy551]; with_reducible exact H2_) | (have H2_ := (Option.bind_some _ _).symm.trans H; with_reducible exact H2_) | with_reducible exact H | (rw [hy551]; exact H) | exact H); have Ny551 := q0_12 hy551; clear hy551; (have H' := q0_12 H); clear H; go_enter Try.func30, Try.ntmps30
 (go_wp2_with (first | ((with_reducible refine gate_dst (N := 12) rfl ?_); refine Kd.R_lit k91 _ 91 ?hg (N := 12) ?hd (xs := ([] : List (S91))) (inner := []) (ok := fun _ => True) (okp := fun _ => True) ?hr ?hp (fun _ hk => hk) trivial (Below.refl _ _) (Nat.le_refl _) (by simp) ?_; (case hd => rfl); (case hg => rfl); (case hr => first | (go_simp; done) | (go_simp; rfl)); (case hp => exact (Reps.none _ _)); intro v540 w7 ho8 hb hg_ hnew_; clear hg_ hnew_; (first | rw [← Ny539.out] at ho8 | (simp only [Int.reduceToNat] at ho8; rw [← Ny539.out] at ho8)); have n0_ := q0_12 (Kd.R_lower ho8 (below_size (q3_12))); have n1_ := q0_12 (below_step (q3_12) hb); clear HB; have q2 := n0_; have HB := n1_; clear n0_ n1_; clear hb ho8) | ((with_reducible refine gate_callee (f := 24) rfl ?_); refine goesL_ (some 16) rfl rfl Try.func24 (by kernel_rfl) rfl #[.slice A0 l0.length c0, .int .i64 a1, .int .i64 a2] rfl ma ?_; (with_reducible refine (impl_ParallelsIn.calls k _ _ l0 a1 a2 t542 _ ?side1 ?side2 A4.out).mono ?_); (case side1 => exact ca (Kd.C_below HR0.out HB.out)); (case side2 => exact HC0.out); rintro e w9 ⟨v543, rfl, ho0, hb⟩; refine ⟨_, rfl, ?_⟩; have n0_ := q0_12 (Kd.R_below (ra q2.out) hb); have n1_ := q0_12 (Kd.R_lower ho0 (below_size (q3_12))); have n2_ := q0_12 (below_step (q3_12) hb); clear q2; clear HB; have q2 := n0_; have q6 := n1_; have HB := n2_; clear n0_ n1_ n2_; (try clear hb); (try clear hb2); (try clear hk); (try clear hi); (try clear ho0)) | ((with_reducible refine gate_callee (f := 25) rfl ?_); refine goesL_ (some 20) rfl rfl Try.func25 (by kernel_rfl) rfl #[.slice A0 l0.length c0, .int .i64 a1, .int .i64 a2] rfl ma ?_; (with_reducible refine (impl_CrossingsIn.calls k _ _ l0 a1 a2 t545 _ ?side1 ?side2 A5.out).mono ?_); (case side1 => exact ca (Kd.C_below HR0.out HB.out)); (case side2 => exact HC0.out); rintro e w10 ⟨v546, rfl, ho0, hb⟩; refine ⟨_, rfl, ?_⟩; have n0_ := q0_12 (Kd.R_below (ra q2.out) hb); have n1_ := q0_12 (Kd.R_elder' (ra q6.out) (Kd.R_base ho0) hb); have n2_ := q0_12 (Kd.R_lower (Kd.R_new' ho0 (Kd.R_lt (ra q6.out))) (below_size (q3_12))); have n3_ := q0_12 (below_step (q3_12) hb); clear q2; clear q6; clear HB; have q2 := n0_; have q6 := n1_; have q9 := n2_; have HB := n3_; clear n0_ n1_ n2_ n3_; (try clear hb); (try clear hb2); (try clear hk); (try clear hi); (try clear ho0)) | ((with_reducible refine gate_callee (f := 31) rfl ?_); refine goesL_ (some 23) rfl rfl Try.func31 (by kernel_rfl) rfl #[.slice A0 l0.length c0, .int .i64 a1, .int .i64 12] rfl ma ?_; (with_reducible refine (impl_LeapsIn.calls k _ _ l0 a1 12 t548 _ ?side1 ?side2 A6.out).mono ?_); (case side1 => exact ca (Kd.C_below HR0.out HB.out)); (case side2 => exact HC0.out); rintro e w11 ⟨v549, rfl, ho0, hb⟩; refine ⟨_, rfl, ?_⟩; have n0_ := q0_12 (Kd.R_below (ra q2.out) hb); have n1_ := q0_12 (Kd.R_elder' (ra q6.out) (Kd.R_base ho0) hb); have n2_ := q0_12 (Kd.R_elder' (ra q9.out) (Kd.R_base ho0) hb); have n3_ := q0_12 (Kd.R_lower (Kd.R_new' (Kd.R_new' ho0 (Kd.R_lt (ra q6.out))) (Kd.R_lt (ra q9.out))) (below_size (q3_12))); have n4_ := q0_12 (below_step (q3_12) hb); clear q2; clear q6; clear q9; clear HB; have q2 := n0_; have q6 := n1_; have q9 := n2_; have qb := n3_; have HB := n4_; clear n0_ n1_ n2_ n3_ n4_; (try clear hb); (try clear hb2); (try clear hk); (try clear hi); (try clear ho0); obtain ⟨qf, qg, eo12⟩ := Kd.R_slice q6.out; subst eo12; obtain ⟨qh, qi, eo13⟩ := Kd.R_slice q9.out; subst eo13; obtain ⟨qj, qk, eo14⟩ := Kd.R_slice qb.out; subst eo14) | ((with_reducible refine gate_dst (N := 24) rfl ?_); refine Kd.N_lit (Kd.slice 3 (Kd.int .i64)) _ 41 ?hg (N' := 24) ?hd (xs := ([t542, t545, t548] : List (List Int))) (inner := [.slice qf t542.length qg, .slice qh t545.length qi, .slice qj t548.length qk]) (ok := (fun k_ => some k_ ≠ (v540 : Value).ownBlock)) (okp := (fun k_ => some k_ ≠ (v540 : Value).ownBlock)) ?hr ?hp (fun _ hk => hk) ((show ∀ k_, w11.heap.size ≤ k_ → (fun k_ => some k_ ≠ (v540 : Value).ownBlock) k_ from fun k_ hk => Kd.fresh' (Kd.R_lt (ra q2.out)) k_ hk) _ (Nat.le_refl _)) (Below.refl _ _) (Nat.le_refl _) (by simp) ?_; (case hd => rfl); (case hg => rfl); (case hr => first | (go_simp; done) | (go_simp; rfl)); (case hp => exact (Reps.one (show Kd.FK (Kd.slice 3 (Kd.int .i64)) _ _ t542 [.slice qf t542.length qg] from (Kd.FK_slice_mk (Kd.R_reads' (Kd.R_mono (ok' := (fun k_ => some k_ ≠ (v540 : Value).ownBlock)) (Kd.R_apart' (q6.out) (Kd.R_typed q2.out) (by decide)) (fun k_ hk => hk.2))).2.1 (Kd.R_F (Kd.R_mono (ok' := (fun k_ => some k_ ≠ (v540 : Value).ownBlock)) (Kd.R_apart' (q6.out) (Kd.R_typed q2.out) (by decide)) (fun k_ hk => hk.2))))) (Reps.one (show Kd.FK (Kd.slice 3 (Kd.int .i64)) _ _ t545 [.slice qh t545.length qi] from (Kd.FK_slice_mk (Kd.R_reads' (Kd.R_mono (ok' := (fun k_ => some k_ ≠ (v540 : Value).ownBlock)) (Kd.R_apart' (q9.out) (Kd.R_typed q2.out) (by decide)) (fun k_ hk => hk.2))).2.1 (Kd.R_F (Kd.R_mono (ok' := (fun k_ => some k_ ≠ (v540 : Value).ownBlock)) (Kd.R_apart' (q9.out) (Kd.R_typed q2.out) (by decide)) (fun k_ hk => hk.2))))) (Reps.one (show Kd.FK (Kd.slice 3 (Kd.int .i64)) _ _ t548 [.slice qj t548.length qk] from (Kd.FK_slice_mk (Kd.R_reads' (Kd.R_mono (ok' := (fun k_ => some k_ ≠ (v540 : Value).ownBlock)) (Kd.R_apart' (qb.out) (Kd.R_typed q2.out) (by decide)) (fun k_ hk => hk.2))).2.1 (Kd.R_F (Kd.R_mono (ok' := (fun k_ => some k_ ≠ (v540 : Value).ownBlock)) (Kd.R_apart' (qb.out) (Kd.R_typed q2.out) (by decide)) (fun k_ hk => hk.2))))) (Reps.none _ _))))); intro v552 w15 ho16 hb hg_ hnew_; clear hg_ hnew_; (first | rw [← Ny551.out] at ho16 | (simp only [Int.reduceToNat] at ho16; rw [← Ny551.out] at ho16)); have n0_ := q0_12 (Kd.R_below (ra q2.out) hb); have n1_ := q0_12 (Kd.N_lower ho16 (below_size (q3_12))); have n2_ := q0_12 (below_step (q3_12) hb); clear q2; clear HB; clear q6; clear q9; clear qb; have q2 := n0_; have qe := n1_; have HB := n2_; clear n0_ n1_ n2_; clear hb ho16; obtain ⟨qn, ql, eo17⟩ := Kd.N_slice qe.out; subst eo17)))
 (go_loopg [7, 26] k (fun kq v7 v26 w' => ∃ (x7_1 : List (S91)) (x26_1 : Int), v26 = .int .i64 x26_1 ∧ Aside0 (impl_FaultsIn.l0 kq x7_1 y551 (y551.length : Int) x26_1 = some r) ∧ Aside0 (kq ≤ k) ∧ Aside0 (Kd.R k91 91 w' w.heap.size (fun _ => True) v7 x7_1) ∧ Aside0 (Kd.N (Kd.slice 3 (Kd.int .i64)) 41 w' w.heap.size (fun k_ => some k_ ≠ (v7 : Value).ownBlock) (.slice qn y551.length ql) y551) ∧ Aside0 (Below w.heap.size w w')))
 case atStart => exact ⟨(y539), (0), (by first | rfl | (simp; done) | (simp [*]; done)), H', ⟨Nat.le_refl _⟩, ⟨by refine ra ?_; exact q2.out⟩, ⟨by (with_reducible repeat (first | apply Kd.N_alloc | apply Kd.N_drewN | apply Kd.N_drew)); exact qe.out⟩, ⟨by exact (q3_12)⟩⟩
 case round =>
  clear H'; (try clear c2); (try clear p2); (try clear c3); obtain ⟨x7_1, x26_1, rfl, HA, HK1, q7, q8, HB⟩ := hrel
  cases gk with
  | zero => exact absurd HA.out (by simp [impl_FaultsIn.l0])
  | succ k1 =>
   have H := HA.out; clear HA; (simp only [impl_FaultsIn.l0] at H)
   by_cases c18 : x26_1 < (y551.length : Int)
   · rw [if_pos c18] at H
     (have c18b0 : decide (x26_1 < (y551.length : Int)) = true := decide_eq_true c18); clear c18
     by_cases c19 : 0 ≤ x26_1
     · rw [if_pos c19] at H
       (have c19b0 : decide (0 ≤ x26_1) = true := decide_eq_true c19); clear c19
       by_cases c20 : x26_1 < (y551.length : Int)
       · rw [if_pos c20] at H
         (have c20b0 : decide (x26_1 < (y551.length : Int)) = true := decide_eq_true c20); clear c20; (have H' := q0_12 H); clear H; (have p554 : 0 ≤ (x26_1 : Int) := of_decide_eq_true (by first | (with_reducible assumption) | assumption)); (have q554 : x26_1 < (y551.length : Int) := of_decide_eq_true (by first | (with_reducible assumption) | assumption)); obtain ⟨ad554, A554_0, c554_0, e554, hx554_0, hl554_0, hi554_0⟩ := at_L3 (Kd.N_reads' q8.out).2.2 x26_1 p554 q554
         cases e554
         obtain ⟨ce554, hce554, hMe554, hcc554⟩ := Kd.N_get q8.out [] x26_1 p554 (by first | exact q554 | exact of_decide_eq_true (by first | (with_reducible assumption) | assumption) | (have e_ := (Kd.N_reads' q8.out).1; omega)); obtain ⟨ua554_0, uc554_0, rfl, ul554_0, ge554_0⟩ := Kd.FK_slice_open hMe554; have hv554_0 := hcc554 0 _ rfl; rw [Nat.add_zero, show ((Kd.slice 3 (Kd.int .i64))).sz = 1 from rfl, Nat.mul_one] at hv554_0; replace hv554_0 := Option.some.inj (hv554_0.symm.trans hx554_0); (injection hv554_0 with hva_ hvn_ hvc_); rw [hva_] at ge554_0; rw [hvc_] at ul554_0; have HL554_0 := q0_12 (show Kd.V (Kd.int .i64) 3 _ w.heap.size _ _ (rd_L3 y551 x26_1) from Kd.V_mk ul554_0 ge554_0); clear hva_ hvn_ hvc_ ge554_0 ul554_0 hcc554 hce554; have HR554_0 := q0_12 hi554_0; have HC554_0 := q0_12 hl554_0; clear hi554_0 hl554_0; replace p554 := eq_true p554; replace q554 := eq_true q554; (go_wp2); (go_loopg [7, 33] k1 (fun kq v7 v33 w' => ∃ (x7_2 : List (S91)) (x33_2 : Int), v33 = .int .i64 x33_2 ∧ Aside0 (impl_FaultsIn.l1 kq x7_2 x26_1 y551 (y551.length : Int) x26_1 (rd_L3 y551 x26_1) ((rd_L3 y551 x26_1).length : Int) x33_2 = some r) ∧ Aside0 (kq ≤ k1) ∧ Aside0 (Kd.V (Kd.int .i64) 3 w' w.heap.size (fun k_ => True ∧ some k_ ≠ (v7 : Value).ownBlock) (.slice A554_0 (rd_L3 y551 x26_1).length c554_0) (rd_L3 y551 x26_1)) ∧ Aside0 (Kd.R k91 91 w' w.heap.size (fun _ => True) v7 x7_2) ∧ Aside0 (Kd.N (Kd.slice 3 (Kd.int .i64)) 41 w' w.heap.size (fun k_ => some k_ ≠ (v7 : Value).ownBlock) (.slice (some ad554) y551.length ql) y551) ∧ Aside0 (Below w.heap.size w w')))
         case atStart => exact ⟨(x7_1), (0), (by first | rfl | (simp; done) | (simp [*]; done)), H', ⟨Nat.le_refl _⟩, ⟨by (repeat (first | exact (Kd.V_mono HL554_0.out (by intro k_ h_; (try dsimp only at h_); (try dsimp only); (repeat' (apply And.intro)) <;> simp only [h_, ne_eq, not_false_eq_true, and_self])) | refine Kd.V_drewN ?_ _ | refine Kd.V_drew ?_ | refine Kd.V_alloc ?_ _))⟩, ⟨by refine ra ?_; exact q7.out⟩, ⟨by (with_reducible repeat (first | apply Kd.N_alloc | apply Kd.N_drewN | apply Kd.N_drew)); exact q8.out⟩, ⟨by exact (q3_12)⟩⟩
         case round =>
          clear H'; (try clear c1); (try clear c2); (try clear p2); (try clear c3); (try clear c5); (try clear p5); (try clear q5); (try clear hx5); (try clear c18); (try clear c18b0); (try clear c19); (try clear c19b0); (try clear c20); (try clear c20b0); (try clear hx554_0); (try clear p2); (try clear p554); (try clear q554); obtain ⟨x7_2, x33_2, rfl, HA, HK2, HVX, q7, q8, HB⟩ := hrel
          cases gk with
          | zero => exact absurd HA.out (by simp [impl_FaultsIn.l1])
          | succ k2 =>
           have H := HA.out; clear HA; (simp only [impl_FaultsIn.l1] at H)
           by_cases c21 : x33_2 < ((rd_L3 y551 x26_1).length : Int)
           · rw [if_pos c21] at H
             (have c21b0 : decide (x33_2 < ((rd_L3 y551 x26_1).length : Int)) = true := decide_eq_true c21); clear c21
             by_cases c22 : 0 ≤ x33_2
             · rw [if_pos c22] at H
               (have c22b0 : decide (0 ≤ x33_2) = true := decide_eq_true c22); clear c22
               by_cases c23 : x33_2 < ((rd_L3 y551 x26_1).length : Int)
               · rw [if_pos c23] at H
                 (have c23b0 : decide (x33_2 < ((rd_L3 y551 x26_1).length : Int)) = true := decide_eq_true c23); clear c23
                 by_cases c24 : x7_2.length < 8796093022208
                 · rw [if_pos c24] at H
                   have LMc24 := q0_12 c24; clear c24; obtain ⟨y556, hy556⟩ : ∃ y_ : List (S91), y_ = (x7_2 ++ [(⟨wrap64 (x26_1 + 1), rd (rd_L3 y551 x26_1) x33_2⟩ : S91)]) := ⟨_, rfl⟩; (replace H : (impl_FaultsIn.l1 k2 y556 x26_1 y551 (y551.length : Int) x26_1 (rd_L3 y551 x26_1) ((rd_L3 y551 x26_1).length : Int) (wrap64 (x33_2 + 1))) = some r := by first | (rw [hy556]; with_reducible exact H) | (have H2_ := (Option.bind_some _ _).symm.trans H; rw [hy556]; with_reducible exact H2_) | (have H2_ := (Option.bind_some _ _).symm.trans H; with_reducible exact H2_) | with_reducible exact H | (rw [hy556]; exact H) | exact H); have Ny556 := q0_12 hy556; clear hy556; (have H' := q0_12 H); clear H; (have p555 : 0 ≤ (x33_2 : Int) := of_decide_eq_true (by first | (with_reducible assumption) | assumption)); (have q555 : x33_2 < ((rd_L3 y551 x26_1).length : Int) := of_decide_eq_true (by first | (with_reducible assumption) | assumption)); obtain ⟨ad555, e555, hx555_0⟩ := Kd.at_int (Kd.V_reads' HVX.out).2.2 x33_2 p555 q555
                   cases e555
                   replace p555 := eq_true p555; replace q555 := eq_true q555; (go_wp2_with (first | ((with_reducible refine gate_builtin (b := .append) (xs := #[.tmp 37, .tmp 42]) rfl ?_); at_builtin; refine Kd.R_append k91 (w0 := w) w.heap.size rfl (.tmp 37) (.tmp 42) 58 91 (.agg #[(.int .i64 0), (.int .i64 0)]) 16 rfl Try.underlying58 info91 rfl (by decide) (by omega) u7 x7_2 (⟨wrap64 (x26_1 + 1), rd (rd_L3 y551 x26_1) x33_2⟩ : S91) [.int .i64 (wrap64 (x26_1 + 1)), .int .i64 (rd (rd_L3 y551 x26_1) x33_2)] (fun _ => True) (fun _ => False) rfl rfl ?aP (fun _ hk => hk.elim) ?aF ?aO ?aB ?aS ?aL ?_; (case aP => exact k91_mkM _ _ _ (⟨wrap64 (x26_1 + 1), rd (rd_L3 y551 x26_1) x33_2⟩ : S91)); (case aB => exact (q3_12)); (case aF => exact (fun _ _ => trivial)); (case aO => exact (ra q7.out)); (case aS => exact (below_size (q3_12))); (case aL => have := LMc24.out; omega); intro v557 w25 ho hb hg hat; have HVY := q0_12 (Kd.V_after HVX.out hg hat); rw [← Ny556.out] at ho; have n0_ := q0_12 (Kd.N_afterv (ok := (fun _ => True)) (by (with_reducible repeat (first | apply Kd.N_alloc | apply Kd.N_drewN | apply Kd.N_drew)); exact Kd.N_mono q8.out (fun _ hk => ⟨trivial, hk⟩)) hg hat); have n1_ := q0_12 (hb); have n2_ := q0_12 (ho); clear q8; clear HB; clear q7; have q8 := n0_; have HB := n1_; have qm := n2_; clear n0_ n1_ n2_; clear ho hb hg hat))); (go_roundg k2)
                   case measure => have := HK1.out; have := HK2.out; omega
                   case rel => exact ⟨(y556), (wrap64 (x33_2 + 1)), (by first | rfl | (simp; done) | (simp [*]; done)), H', ⟨by have := HK1.out; have := HK2.out; omega⟩, ⟨by (repeat (first | exact HVY.out | refine Kd.V_drewN ?_ _ | refine Kd.V_drew ?_ | refine Kd.V_alloc ?_ _))⟩, ⟨by refine ra ?_; exact qm.out⟩, ⟨by (with_reducible repeat (first | apply Kd.N_alloc | apply Kd.N_drewN | apply Kd.N_drew)); exact Kd.N_mono q8.out (fun _ hk => hk.2)⟩, ⟨by exact (q3_12)⟩⟩
                 · rw [if_neg c24] at H
                   exact absurd H (by simp)
               · rw [if_neg c23] at H
                 exact absurd H (by simp)
             · rw [if_neg c22] at H
               exact absurd H (by simp)
           · rw [if_neg c21] at H
             (have c21b0 : decide (x33_2 < ((rd_L3 y551 x26_1).length : Int)) = false := decide_eq_false c21); clear c21; (have H' := q0_12 H); clear H; (go_wp2); (go_roundg k2)
             case measure => have := HK1.out; have := HK2.out; omega
             case rel => exact ⟨(x7_2), (wrap64 (x26_1 + 1)), (by first | rfl | (simp; done) | (simp [*]; done)), H', ⟨by have := HK1.out; have := HK2.out; omega⟩, ⟨by refine ra ?_; exact q7.out⟩, ⟨by (with_reducible repeat (first | apply Kd.N_alloc | apply Kd.N_drewN | apply Kd.N_drew)); exact q8.out⟩, ⟨by exact (q3_12)⟩⟩
       · rw [if_neg c20] at H
         exact absurd H (by simp)
     · rw [if_neg c19] at H
       exact absurd H (by simp)
   · rw [if_neg c18] at H
     (have c18b0 : decide (x26_1 < (y551.length : Int)) = false := decide_eq_false c18); ((try (have c18b0z := c18b0; rw [hl554_0] at c18b0z))); clear c18; obtain rfl := Option.some.inj H; (go_wp2); go_ret; (exact ⟨_, by first | rfl | (simp [errW_none, errW_some] <;> rfl) | (simp [*, errW_none, errW_some] <;> rfl), by refine ra ?_; exact q7.out, by exact (q3_12)⟩)
/-! ### spec_DrawLeapsIn: function 32 -/
def spec_DrawLeapsIn.f (k : Nat) (l0 : List Int) : Option ((List (S85)) × Int × Int) := (spec_DrawOnsetsOf.f k l0).bind fun bt559 => ((spec_l1New.f k l0).bind fun bt564 => ((spec_l1Below.f bt564.1 bt564.2.1 bt564.2.2 9).bind fun bt568 => (some (bt559.1, bt559.2.1, bt568.1))))
theorem spec_DrawLeapsIn.mono : ∀ a0 k, LeO (spec_DrawLeapsIn.f k a0) (spec_DrawLeapsIn.f (k + 1) a0) := by
 intro a0 k; unfold spec_DrawLeapsIn.f
 repeat' first
  | (with_reducible exact spec_DrawOnsetsOf.mono _ _)
  | (with_reducible exact spec_l1New.mono _ _)
  | (with_reducible exact LeO.refl _)
  | (with_reducible exact LeO.none _)
  | (with_reducible refine LeO.ite ?_ ?_)
  | (with_reducible refine LeO.bind ?_ (fun _ => ?_))
  | exact spec_DrawOnsetsOf.mono _ _
  | exact spec_l1New.mono _ _
  | exact LeO.none _
  | refine LeO.ite ?_ ?_
  | refine LeO.bind ?_ (fun _ => ?_)
set_option maxHeartbeats 8000000 in
set_option maxRecDepth 100000 in
theorem spec_DrawLeapsIn.calls (k : Nat) (A0 : Option Addr) (c0 : Nat) (l0 : List Int) (r1 : List (S85)) (r2 : Int) (r3 : Int) (w : World) (hr0 : Kd.C (Kd.int .u8) w A0 l0.length l0) (hc0 : l0.length ≤ c0) (h : spec_DrawLeapsIn.f k l0 = some (r1, r2, r3)) :
 Calls Try.prog 32 #[.slice A0 l0.length c0] w fun e w' => ∃ v0_ : Value, e = .returned (.tuple #[v0_, .int .i64 r2, .int .i64 r3]) ∧ Kd.R k85 85 w' w.heap.size (fun _ => True) v0_ r1 ∧ Below w.heap.size w w' := by
 have HR0 := q0_12 hr0; have HC0 := q0_12 hc0; clear hr0 hc0; have HB := q0_12 (Below.refl w.heap.size w); (have H : ((spec_DrawOnsetsOf.f k l0).bind fun bt559 => ((spec_l1New.f k l0).bind fun bt564 => ((spec_l1Below.f bt564.1 bt564.2.1 bt564.2.2 9).bind fun bt568 => (some (bt559.1, bt559.2.1, bt568.1))))) = some (r1, r2, r3) := h); clear h; replace H := Option.bind_eq_some_iff.mp H; obtain ⟨⟨t559, t560, t561⟩, A20, H⟩ := H; replace H : ((spec_l1New.f k l0).bind fun bt564 => ((spec_l1Below.f bt564.1 bt564.2.1 bt564.2.2 9).bind fun bt568 => (some (t559, t560, bt568.1)))) = some (r1, r2, r3) := H; have A2 := q0_12 A20; clear A20; replace H := Option.bind_eq_some_iff.mp H; obtain ⟨⟨t564, t565, t566⟩, A30, H⟩ := H; replace H : ((spec_l1Below.f t564 t565 t566 9).bind fun bt568 => (some (t559, t560, bt568.1))) = some (r1, r2, r3) := H; have A3 := q0_12 A30; clear A30; replace H := Option.bind_eq_some_iff.mp H; obtain ⟨⟨t568, t569, t570⟩, A40, H⟩ := H; replace H : (some (t559, t560, t568)) = some (r1, r2, r3) := H; have A4 := q0_12 A40; clear A40; (simp only [Option.some.injEq, Prod.mk.injEq] at H); obtain ⟨rfl, rfl, rfl⟩ := H; go_enter Try.func32, Try.ntmps32
 (go_wp2_with (first | ((with_reducible refine gate_callee (f := 59) rfl ?_); refine goesL_ (some 11) rfl rfl Try.func59 (by kernel_rfl) rfl #[.slice A0 l0.length c0] rfl ma ?_; (with_reducible refine (spec_DrawOnsetsOf.calls k _ _ l0 t559 t560 t561 _ ?side1 ?side2 A2.out).mono ?_); (case side1 => repeat (first | exact HR0.out | (with_reducible refine Kd.C_alloc ?_ _) | (with_reducible refine Kd.C_drewN ?_ _) | (with_reducible refine Kd.C_drew ?_))); (case side2 => exact HC0.out); rintro e w5 ⟨v562, rfl, ho0, hb⟩; refine ⟨_, rfl, ?_⟩; have n0_ := q0_12 (Kd.R_lower ho0 (below_size (q3_12))); have n1_ := q0_12 (below_step (q3_12) hb); clear HB; have qa := n0_; have HB := n1_; clear n0_ n1_; (try clear hb); (try clear hb2); (try clear hk); (try clear hi); (try clear ho0)) | ((with_reducible refine gate_callee (f := 34) rfl ?_); refine goesL_ (some 16) rfl rfl Try.func34 (by kernel_rfl) rfl #[.slice A0 l0.length c0] rfl ma ?_; (with_reducible refine (spec_l1New.calls k _ _ l0 t564 t565 t566 w _ ?side1 ?side2 ?side3 A3.out).mono ?_); (case side1 => exact (q3_12)); (case side2 => exact HR0.out); (case side3 => exact HC0.out); rintro e w6 ⟨g567, rfl, hi, hb, hb2⟩; refine ⟨_, rfl, ?_⟩; have n0_ := q0_12 (Kd.R_below (ra qa.out) hb2); have n1_ := q0_12 (hb); have n2_ := q0_12 (hi); clear qa; clear HB; have qa := n0_; have HB := n1_; have HI567 := n2_; clear n0_ n1_ n2_; (try clear hb); (try clear hb2); (try clear hk); (try clear hi)) | ((with_reducible refine gate_callee (f := 68) rfl ?_); refine goesL_ (some 20) rfl rfl Try.func68 (by kernel_rfl) rfl #[.pointer (some ⟨g567, 0, none⟩), .int .i64 9] rfl ma ?_; (with_reducible refine (spec_l1Below.calls g567 t564 t565 t566 9 t568 t569 t570 w _ ?side1 ?side2 A4.out).mono ?_); (case side1 => repeat (first | (with_reducible first | exact HI567.out | apply IsS95.alloc | apply IsS95.drewN | apply IsS95.drew | apply IsS95.set_1 | apply IsS95.set_2) | exact HI567.out)); (case side2 => repeat (first | (with_reducible first | exact HB.out | apply below_alloc | apply pw_below_drewN | apply below_drew1 | refine below_set ?_ (IsS95.ge HI567.out)) | exact HB.out)); rintro e w7 ⟨rfl, hi, hb, hk⟩; refine ⟨_, rfl, ?_⟩; have n0_ := q0_12 (Kd.R_mono (Kd.R_keep (IsS95.apart (show IsS95 w _ g567 t564 t565 t566 from by repeat (first | (with_reducible first | exact HI567.out | apply IsS95.alloc | apply IsS95.drewN | apply IsS95.drew | apply IsS95.set_1 | apply IsS95.set_2) | exact HI567.out)) (ra qa.out) (by decide)) hk (fun _ h => h.2)) (fun _ h => h.1)); have n1_ := q0_12 (hb); have n2_ := q0_12 (hi); clear qa; clear HB; clear HI567; have qa := n0_; have HB := n1_; have HI567 := n2_; clear n0_ n1_ n2_; (try clear hb); (try clear hb2); (try clear hk); (try clear hi)))); (go_ret3)
 (exact ⟨_, by first | rfl | (simp [errW_none, errW_some] <;> rfl) | (simp [*, errW_none, errW_some] <;> rfl), by refine ra ?_; exact qa.out, by repeat (first | (with_reducible first | exact HB.out | apply below_alloc | apply pw_below_drewN | apply below_drew1 | refine below_set ?_ (IsS95.ge HI567.out)) | exact HB.out)⟩)
end Go.Proofs.Ytlkfhddckgjlnaa.PFnVoices
