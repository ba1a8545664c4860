/-
slices.Insert of one number into whole numbers, in the words of rows of the call's own: out of the shelf's contracts.
Conditions: none.
-/
import Derived.Test.YtcgkmcnfhobkiaaWMore
import Derived.Test.YtcgkmcnfhobkiaaWKept
import Derived.Lib.OwnBridge
import Derived.Shelf.Spec.SlicesInsert
import Derived.Shelf.Spec.SlicesInsertGrow
namespace Go.Proofs.Ytcgkmcnfhobkiaa.ShInsert
open Go.RowKit Go.Shelf Go.Lib Go.Sort Go.Proofs Go.Proofs.YtcgkmcnfhobkiaaW.PrintWords
set_option linter.unusedSimpArgs false
set_option linter.unusedVariables false
variable {P : Program} {ρ : Ren}
theorem below_sets {B g : Nat} {w0 w : World} (h : Below B w0 w) (hg : B ≤ g) (o : Nat) (vs : List Value) : Below B w0 (w.setCells g o vs) := by
  obtain ⟨h1, h2, h3, h4⟩ := Go.Proofs.YtcgkmcnfhobkiaaW.PrintWords.setCells_same g vs o w
  exact ⟨h1.trans h.os, h2.trans h.tape, h3.trans h.output, by rw [h4]; exact h.size, fun k hk => (Go.Proofs.YtcgkmcnfhobkiaaW.PrintWords.setCells_far vs o k (by omega)).trans (h.block k hk)⟩
theorem kept_sets {g : Nat} {w0 w : World} {S : Nat → Prop} (h : Kept w0 w S) (hg : S g ∨ w0.heap.size ≤ g) (o : Nat) (vs : List Value) : Kept w0 (w.setCells g o vs) S := by
  obtain ⟨h1, h2, h3, h4⟩ := Go.Proofs.YtcgkmcnfhobkiaaW.PrintWords.setCells_same g vs o w
  refine ⟨by rw [h4]; exact h.1, fun i hi hn => (Go.Proofs.YtcgkmcnfhobkiaaW.PrintWords.setCells_far vs o i ?_).trans (h.2 i hi hn)⟩
  rcases hg with hg | hg
  · rintro rfl; exact hn hg
  · omega
theorem row_ {e g cap base : Nat} {W : World} {ok : Nat → Prop} {cur : Array Value} {ys : List Int} (hh : W.heap[g]? = some (.cells cur e (0, 0))) (hb : base ≤ g) (hn : ys.length ≤ cap) (hm : cap ≤ maxLen) (hs : cur.size = cap) (ht : cur.toList.take ys.length = ys.map (Value.int .i64)) (hok : ok g) :
    Kd.R (Kd.int .i64) e W base ok (.slice (some ⟨g, 0, none⟩) ys.length cap) ys := by
  refine Kd.R_of_own (enc := Value.int .i64) ⟨by unfold encs; rw [List.length_map, Nat.mul_one], .inr ⟨g, cap, cur, rfl, hb, hh, hn, hm, by rw [hs, Nat.mul_one], by rw [Nat.mul_one]; exact ht⟩⟩ (fun k hk => ?_)
  have : g = k := by simpa [Value.ownBlock] using hk
  subst this; exact hok
theorem ins_take {cur M R : List Value} {i : Nat} {x : Value} (h : cur.take M.length = M) (hi : i < M.length) (hs : M.length + 1 ≤ cur.length) :
    ((cur.take (i + 1) ++ M.drop i ++ R).take i ++ [x] ++ (cur.take (i + 1) ++ M.drop i ++ R).drop (i + 1)).take (M.length + 1) = M.take i ++ [x] ++ M.drop i := by
  have a : (cur.take (i + 1)).length = i + 1 := by simp; omega
  have b : (cur.take (i + 1) ++ M.drop i ++ R).take i = M.take i := by
    rw [List.append_assoc, List.take_append_of_le_length (by omega), List.take_take, show min i (i + 1) = i by omega]
    conv => rhs; rw [← h]
    rw [List.take_take, show min i M.length = i by omega]
  have c : (cur.take (i + 1) ++ M.drop i ++ R).drop (i + 1) = M.drop i ++ R := by
    rw [List.append_assoc, List.drop_left' a]
  rw [b, c, ← List.append_assoc, List.take_left' (by simp; omega)]
theorem grow_take {M Z : List Value} {i : Nat} {x : Value} (hi : i < M.length) : ∀ {R : List Value},
    (((M.take i ++ Z).take i ++ [x] ++ (M.take i ++ Z).drop (i + 1)).take (i + 1) ++ M.drop i ++ R).take (M.length + 1) = M.take i ++ [x] ++ M.drop i := by
  intro R
  have a : (M.take i).length = i := by simp; omega
  rw [List.take_left' a, List.take_left' (by simp; omega), List.take_left' (by simp; omega)]
theorem insert_calls (L : Lays2.n21 P ρ) (P0 P2 : Nat → Prop) (u u2 : Value) (l l2 : List Int) (a : Int) (w0 w : World) (hB : Below w0.heap.size w0 w)
    (ho : Kd.R (Kd.int .i64) (ρ.t 3) w w0.heap.size P0 u l) (hp : ∀ k, P0 k → ¬ P2 k) (ho2 : Kd.R (Kd.int .i64) (ρ.t 3) w w0.heap.size P2 u2 l2) (hp2 : ∀ k, P2 k → ¬ P0 k) (ha0 : 0 ≤ a) (ha : a ≤ (l.length : Int)) (hl2 : l2.length = 1) (hsz : l.length ≤ 1099511627776) :
    Calls P (ρ.f 21) #[u, .int .i64 a, u2] w fun e' w' => ∃ v0_ : Value, e' = .returned (v0_) ∧ Kd.R (Kd.int .i64) (ρ.t 3) w' w0.heap.size (fun k_ => ((P0 k_ ∨ P2 k_) ∨ w.heap.size ≤ k_)) v0_ (l.take a.toNat ++ l2 ++ l.drop a.toNat) ∧ Below w0.heap.size w0 w' ∧ Kept w w' (fun k_ => P0 k_ ∨ P2 k_) := by
  obtain ⟨i, rfl⟩ := Int.eq_ofNat_of_zero_le ha0
  simp only [Int.ofNat_eq_natCast, Int.toNat_natCast] at ha ⊢
  have hi : i ≤ l.length := by omega
  obtain ⟨x, rfl⟩ : ∃ x, l2 = [x] := by
    match l2, hl2 with
    | [x], _ => exact ⟨x, rfl⟩
  have own2 := Kd.own_of_R ho2
  rcases own2.2 with ⟨_, h⟩ | ⟨vb, vc, vcur, rfl, hvb0, hvb, hvn, hvm, hvs, hvt⟩
  · simp at h
  have hP2 : P2 vb := ho2.1 vb (by simp [Value.ownBlock])
  have hvx : vcur[0]? = some (.int .i64 x) := by
    have e : (vcur.toList.take 1)[0]? = some (Value.int .i64 x) := by
      have h := hvt; simp only [List.length_singleton, Nat.mul_one] at h; rw [h]; rfl
    rw [List.getElem?_take, if_pos (by omega), Array.getElem?_toList] at e
    exact e
  have hvs1 : ∀ (j : Nat) (v : Value), [Value.int .i64 x][j]? = some v → w.cell? ⟨vb, 0 + j, none⟩ = some v := by
    intro j v hj
    have h0 : j = 0 := by
      have := (List.getElem?_eq_some_iff.1 hj).1; simpa using this
    subst h0
    rw [blk_cell hvb]
    rw [show 0 + 0 = 0 from rfl, hvx]; exact hj
  have h1v : ∀ v ∈ [Value.int .i64 x], v.oneCell' = true := by intro v hv; rw [List.mem_singleton.1 hv]; rfl
  have hbase : ∀ {g : Nat} {o : Obj}, w.heap[g]? = some o → g < w.heap.size := fun h => blk_lt h
  have hw0 : w0.heap.size ≤ w.heap.size := hB.size
  have own := Kd.own_of_R ho
  have hlen : (l.take i ++ [x] ++ l.drop i).length = l.length + 1 := by simp; omega
  have tk : ∀ {c : Nat} {cur : Array Value}, cur.toList.take (l.length * 1) = encs (Value.int .i64) l → l.length ≤ cur.size → ∀ j (hj : j < l.length), cur[j]? = some (Value.int .i64 l[j]) := by
    intro c cur h hc j hj
    have e : (cur.toList.take (l.length * 1))[j]? = (encs (Value.int .i64) l)[j]? := by rw [h]
    rw [List.getElem?_take, if_pos (by omega), Array.getElem?_toList] at e
    rw [e]; unfold encs; rw [List.getElem?_map, List.getElem?_eq_getElem hj]; rfl
  rcases own.2 with ⟨rfl, h0⟩ | ⟨g, cap, cur, rfl, hg0, hg, hn, hm, hs, ht⟩
  · obtain rfl : l = [] := List.length_eq_zero_iff.1 h0
    have hi0 : i = 0 := by simpa using hi
    subst hi0
    refine (Any2.slices_Insert_int_end_grow L none 0 0 vb 0 1 vc [] [.int .i64 x] w (by omega) (by omega) (by omega) (by omega) rfl rfl (fun _ => rfl) (fun _ h => by cases h) hvs1 h1v).mono ?_
    rintro e' w' ⟨rfl, rfl⟩
    have hge := grownCap_ge w (0 + 1) 0 (ρ.t 3)
    have hle := grownCap_le_maxLen w (0 + 1) 0 (ρ.t 3) (by unfold maxLen; omega)
    generalize grownCap w (0 + 1) 0 (ρ.t 3) = cp at hge hle ⊢
    refine ⟨_, rfl, ?_, (hB.drew).alloc hw0 _, Kept.alloc (Kept.drew (Kept.refl _ _)) _⟩
    refine row_ (ys := [x]) (heap_alloc_new _ _) (by show w0.heap.size ≤ w.heap.size; exact hw0) (by simpa using hge) hle ?_ ?_ (.inr (Nat.le_refl _))
    · rw [Array.size_append, size_zeroCells]; simp [Value.cells]; omega
    · simp
  · have hP0 : P0 g := ho.1 g (by simp [Value.ownBlock])
    have hne : vb ≠ g := by rintro rfl; exact hp _ hP0 hP2
    have hgl := hbase hg
    rw [Nat.mul_one] at hs
    have ct := tk (c := cap) ht (by omega)
    have hcs : ∀ (j : Nat) (v : Value), (l.map (Value.int .i64))[j]? = some v → w.cell? ⟨g, 0 + j, none⟩ = some v := by
      intro j v hj
      rw [List.getElem?_map] at hj
      have hjl : j < l.length := by
        rcases Nat.lt_or_ge j l.length with h | h
        · exact h
        · rw [List.getElem?_eq_none h] at hj; cases hj
      rw [List.getElem?_eq_getElem hjl] at hj
      rw [blk_cell hg, Nat.zero_add, ct j hjl]; exact hj
    have hcc : ∀ j, j < cap → (w.cell? ⟨g, 0 + j, none⟩).isSome = true := by
      intro j hj
      rw [blk_cell hg, Nat.zero_add, Array.getElem?_eq_getElem (by omega)]; rfl
    have hmx : cap ≤ 9223372036854775807 := by unfold maxLen at hm; omega
    by_cases hend : i = l.length
    · subst hend
      by_cases room : l.length + 1 ≤ cap
      · refine (Any2.slices_Insert_int_end_room L g 0 l.length cap vb 0 1 vc [.int .i64 x] w (by omega) room hmx rfl (fun j hj => ?_) (fun j hj => blk_frozen hg _) hvs1 h1v).mono ?_
        · rw [Nat.add_assoc]; exact hcc _ (by omega)
        rintro e' w' ⟨rfl, rfl⟩
        obtain ⟨cur', h1, h2, h3⟩ := Go.Proofs.YtcgkmcnfhobkiaaW.PrintWords.setCells_row [Value.int .i64 x] (0 + l.length) w cur hg (by simp; omega)
        refine ⟨_, rfl, ?_, below_sets hB hg0 _ _, kept_sets (Kept.refl _ _) (.inl (.inl hP0)) _ _⟩
        have := row_ (ys := l.take l.length ++ [x] ++ l.drop l.length) (ok := fun k_ => ((P0 k_ ∨ P2 k_) ∨ w.heap.size ≤ k_)) h1 hg0 (by rw [hlen]; exact room) hm (by omega) ?_ (.inl (.inl hP0))
        · rw [hlen] at this; exact this
        · rw [h3, hlen, Nat.zero_add]
          have e1 : cur.toList.take l.length = l.map (Value.int .i64) := by rw [← Nat.mul_one l.length]; exact ht
          rw [e1, List.take_left' (by simp)]
          simp
      · refine (Any2.slices_Insert_int_end_grow L (some ⟨g, 0, none⟩) l.length cap vb 0 1 vc (l.map (Value.int .i64)) [.int .i64 x] w (by omega) hn (by omega) (by omega) (by simp) rfl (fun h => by cases h) (fun ad had j v hj => ?_) hvs1 h1v).mono ?_
        · obtain rfl := Option.some.inj had
          rw [Addr.add_lit]; exact hcs j v hj
        rintro e' w' ⟨rfl, rfl⟩
        have hge := grownCap_ge w (l.length + 1) cap (ρ.t 3)
        have hle := grownCap_le_maxLen w (l.length + 1) cap (ρ.t 3) (by unfold maxLen; omega)
        generalize grownCap w (l.length + 1) cap (ρ.t 3) = cp at hge hle ⊢
        refine ⟨_, rfl, ?_, (hB.drew).alloc hw0 _, Kept.alloc (Kept.drew (Kept.refl _ _)) _⟩
        have := row_ (ys := l.take l.length ++ [x] ++ l.drop l.length) (ok := fun k_ => ((P0 k_ ∨ P2 k_) ∨ w.heap.size ≤ k_)) (heap_alloc_new w.drew (.cells ((l.map (Value.int .i64) ++ [Value.int .i64 x]).toArray ++ Builtin.zeroCells (Value.int .i64 0).cells (cp - (l.length + 1))) (ρ.t 3))) (by show w0.heap.size ≤ w.heap.size; exact hw0) (by rw [hlen]; exact hge) hle ?_ ?_ (.inr (Nat.le_refl _))
        · rw [hlen] at this; exact this
        · rw [Array.size_append, size_zeroCells]; simp [Value.cells]; omega
        · rw [hlen, Array.toList_append, List.take_left' (by simp)]; simp
    · have hil : i < l.length := by omega
      by_cases room : l.length + 1 ≤ cap
      · refine (Any2.slices_Insert_int_shift L g 0 l.length cap i vb 0 1 vc (l.map (Value.int .i64)) [.int .i64 x] w hil (by omega) room hmx hne (by simp) rfl hcs (fun j hj => hcc j (by omega)) (fun j hj => blk_frozen hg _) hvs1
          (by intro v hv; obtain ⟨y, _, rfl⟩ := List.mem_map.1 hv; rfl) h1v (ρ.t 3) (ρ.t 3) vcur.size cur.size (by simp [World.shape?, hvb]) (by simp [World.shape?, hg]) (by omega) (blk_frozen hvb _) (blk_frozen hvb _)).mono ?_
        rintro e' w' ⟨rfl, rfl⟩
        have hgd : w.drew.heap[g]? = some (.cells cur (ρ.t 3) (0, 0)) := hg
        obtain ⟨cur1, h1, h2, h3⟩ := Go.Proofs.YtcgkmcnfhobkiaaW.PrintWords.setCells_row ((l.map (Value.int .i64)).drop i) (0 + (i + 1)) w.drew cur hgd (by simp; omega)
        obtain ⟨cur2, h4, h5, h6⟩ := Go.Proofs.YtcgkmcnfhobkiaaW.PrintWords.setCells_row [Value.int .i64 x] (0 + i) _ cur1 h1 (by simp; omega)
        refine ⟨_, rfl, ?_, below_sets (below_sets hB.drew hg0 _ _) hg0 _ _, kept_sets (kept_sets (Kept.drew (Kept.refl _ _)) (.inl (.inl hP0)) _ _) (.inl (.inl hP0)) _ _⟩
        have := row_ (ys := l.take i ++ [x] ++ l.drop i) (ok := fun k_ => ((P0 k_ ∨ P2 k_) ∨ w.heap.size ≤ k_)) h4 hg0 (by rw [hlen]; exact room) hm (by omega) ?_ (.inl (.inl hP0))
        · rw [hlen] at this; exact this
        · rw [h6, h3, hlen]
          have hm1 : cur.toList.take (l.map (Value.int .i64)).length = l.map (Value.int .i64) := by rw [List.length_map, ← Nat.mul_one l.length]; exact ht
          have := ins_take (x := Value.int .i64 x) (R := cur.toList.drop (0 + (i + 1) + ((l.map (Value.int .i64)).drop i).length)) hm1 (by simpa using hil) (by rw [Array.length_toList]; simp; omega)
          rw [List.length_map] at this
          simp only [Nat.zero_add, List.length_singleton, List.length_cons, List.length_nil] at this ⊢
          rw [this]; simp
      · refine (Any2.slices_Insert_int_grow L g 0 l.length cap i vb 0 1 vc (l.map (Value.int .i64)) [.int .i64 x] w hil (by omega) hn (by omega) (by omega) (by simp) rfl hcs hvs1 (by intro v hv; obtain ⟨y, _, rfl⟩ := List.mem_map.1 hv; rfl) h1v).mono ?_
        rintro e' w' ⟨rfl, rfl⟩
        have hge := grownCap_ge w (l.length + 1) cap (ρ.t 3)
        have hle := grownCap_le_maxLen w (l.length + 1) cap (ρ.t 3) (by unfold maxLen; omega)
        generalize grownCap w (l.length + 1) cap (ρ.t 3) = cp at hge hle ⊢
        obtain ⟨cur0, hc0⟩ : ∃ cur0 : Array Value, cur0 = ((l.map (Value.int .i64)).take i).toArray ++ Builtin.zeroCells (Value.int .i64 0).cells (l.length + 1 - i) ++ Builtin.zeroCells (Value.int .i64 0).cells (cp - (l.length + 1)) := ⟨_, rfl⟩
        have hz0 : cur0.size = cp := by rw [hc0, Array.size_append, Array.size_append, size_zeroCells, size_zeroCells]; simp [Value.cells]; omega
        rw [← hc0]
        have hgd : (w.alloc (.cells cur0 (ρ.t 3))).drew.heap[w.heap.size]? = some (.cells cur0 (ρ.t 3) (0, 0)) := heap_alloc_new w _
        obtain ⟨cur1, h1, h2, h3⟩ := Go.Proofs.YtcgkmcnfhobkiaaW.PrintWords.setCells_row [Value.int .i64 x] i _ cur0 hgd (by simp; omega)
        have h1' : (((w.alloc (.cells cur0 (ρ.t 3))).drew.setCells w.heap.size i [Value.int .i64 x]).drew).heap[w.heap.size]? = some (.cells cur1 (ρ.t 3) (0, 0)) := h1
        obtain ⟨cur2, h4, h5, h6⟩ := Go.Proofs.YtcgkmcnfhobkiaaW.PrintWords.setCells_row ((l.map (Value.int .i64)).drop i) (i + 1) _ cur1 h1' (by simp; omega)
        refine ⟨_, rfl, ?_, below_sets (Below.drew (below_sets (Below.drew (hB.alloc hw0 _)) hw0 _ _)) hw0 _ _, kept_sets (Kept.drew (kept_sets (Kept.drew (Kept.alloc (Kept.refl _ _) _)) (.inr (Nat.le_refl _)) _ _)) (.inr (Nat.le_refl _)) _ _⟩
        have := row_ (ys := l.take i ++ [x] ++ l.drop i) (ok := fun k_ => ((P0 k_ ∨ P2 k_) ∨ w.heap.size ≤ k_)) h4 hw0 (by rw [hlen]; exact hge) hle (by omega) ?_ (.inr (Nat.le_refl _))
        · rw [hlen] at this; exact this
        · have hc1 : cur0.toList = (l.map (Value.int .i64)).take i ++ ((Builtin.zeroCells (Value.int .i64 0).cells (l.length + 1 - i)).toList ++ (Builtin.zeroCells (Value.int .i64 0).cells (cp - (l.length + 1))).toList) := by rw [hc0]; simp
          rw [h6, h3, hlen, hc1]
          have := fun R => grow_take (x := Value.int .i64 x) (M := l.map (Value.int .i64)) (Z := (Builtin.zeroCells (Value.int .i64 0).cells (l.length + 1 - i)).toList ++ (Builtin.zeroCells (Value.int .i64 0).cells (cp - (l.length + 1))).toList) (i := i) (by simpa using hil) (R := R)
          rw [List.length_map] at this
          simp only [List.length_singleton, List.length_cons, List.length_nil, Nat.zero_add]
          rw [this]; simp
end Go.Proofs.Ytcgkmcnfhobkiaa.ShInsert
