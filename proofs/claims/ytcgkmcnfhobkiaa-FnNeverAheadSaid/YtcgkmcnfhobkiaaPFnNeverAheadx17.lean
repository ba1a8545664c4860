import Derived.Test.YtcgkmcnfhobkiaaPFnNeverAheadx0
namespace Go.Proofs.Ytcgkmcnfhobkiaa.PFnNeverAhead
open Go.RowKit Go.Proofs.YtcgkmcnfhobkiaaW.PrintWords Go.Proofs.YtcgkmcnfhobkiaaW.PrintLast Go.Proofs.YtcgkmcnfhobkiaaW.PrintMore
attribute [local go_sem] max2_int min2_int max_two min_two max_three min_three max_four min_four
set_option maxHeartbeats 8000000
set_option maxRecDepth 100000
set_option linter.unusedVariables false
set_option linter.unusedSimpArgs false
/-! ### impl_Event: function 71 -/
def impl_Event.f (l0 : List (S35)) : Option ((List (S35))) := (some (([] : List (S35)) : List (S35))).bind fun y531 => (if y531.length + l0.length < 4398046511104 then (some (y531 ++ l0)) else (none))
theorem impl_Event.calls (A0 : Option Addr) (c0 : Nat) (l0 : List (S35)) (r : List (S35)) (w : World) (hr0 : Kd.C k35 w A0 l0.length l0) (hc0 : l0.length ≤ c0) (h : impl_Event.f l0 = some r) :
 Calls Try.prog 71 #[.slice A0 l0.length c0] w fun e w' => ∃ v0_ : Value, e = .returned (v0_) ∧ Kd.R k35 35 w' w.heap.size (fun _ => True) v0_ r ∧ Below w.heap.size w w' := by
 have HR0 := ai hr0; have HC0 := ai hc0; clear hr0 hc0; have HB := ai (Below.refl w.heap.size w); (have H : ((some (([] : List (S35)) : List (S35))).bind fun y531 => (if y531.length + l0.length < 4398046511104 then (some (y531 ++ l0)) else (none))) = some r := h); clear h; obtain ⟨y531, hy531⟩ : ∃ y_ : List (S35), y_ = (([] : List (S35))) := ⟨_, rfl⟩; (replace H : (if y531.length + l0.length < 4398046511104 then (some (y531 ++ l0)) else (none)) = some r := by first | (rw [hy531]; with_reducible exact H) | (have H2_ := (Option.bind_some _ _).symm.trans H; rw [hy531]; with_reducible exact H2_) | (have H2_ := (Option.bind_some _ _).symm.trans H; with_reducible exact H2_) | with_reducible exact H | (rw [hy531]; exact H) | exact H); have Ny531 := ai hy531; clear hy531
 by_cases c2 : y531.length + l0.length < 4398046511104
 · rw [if_pos c2] at H
   have LMc2 := ai c2; clear c2; obtain ⟨y534, hy534⟩ : ∃ y_ : List (S35), y_ = (y531 ++ l0) := ⟨_, rfl⟩; (first | rw [Option.bind_some, ← hy534] at H | rw [← hy534] at H | replace H := (Option.bind_some _ _).symm.trans H | skip); have Ny534 := ai hy534; clear hy534; obtain rfl := Option.some.inj H; go_enter Try.func71, Try.ntmps71; (go_wp2_with (first | ((with_reducible refine gate_dst (N := 3) rfl ?_); refine Kd.R_lit k35 _ 35 ?hg (N := 3) ?hd (xs := ([] : List (S35))) (inner := []) (ok := fun _ => True) (okp := fun _ => True) ?hr ?hp (fun _ hk => hk) trivial (Below.refl _ _) (Nat.le_refl _) (by simp) ?_; (case hd => rfl); (case hg => rfl); (case hr => first | (go_simp; done) | (go_simp; rfl)); (case hp => exact (Reps.none _ _)); intro v532 w3 ho4 hb hg_ hnew_; clear hg_ hnew_; (first | rw [← Ny531.out] at ho4 | (simp only [Int.reduceToNat] at ho4; rw [← Ny531.out] at ho4)); have q1 := ai (Kd.R_lower ho4 (below_size hz)); replace HB := sb hb; clear hb ho4) | ((with_reducible refine gate_builtin (b := .append) (xs := #[.tmp 3, .tmp 4]) rfl ?_); at_builtin; refine Kd.R_append_rows k35 (w0 := w) w.heap.size rfl (.tmp 3) (.tmp 4) 24 35 (.agg #[(.int .i64 0), (.int .i64 0), (.int .i64 0), (.int .i64 0)]) 32 rfl Try.underlying24 info35 rfl (by decide) (by omega) v532 y531 l0 _ _ _ (fun _ => True) (fun _ => False) rfl rfl ?aO ?aR (fun _ _ h => h) (fun _ h => h.elim) ?aF ?aB ?aS ?aL ?_; (case aR => exact ca (Kd.C_below HR0.out HB.out)); (case aB => exact hz); (case aF => exact (fun _ _ => trivial)); (case aO => exact (ra q1.out)); (case aS => exact (below_size hz)); (case aL => have := LMc2.out; omega); intro v535 w5 ho hb hg hat; rw [← Ny534.out] at ho; replace HB := ai hb; have q2 := ai ho; clear q1; clear ho hb hg hat))); go_ret; (exact ⟨_, er, by refine ra ?_; exact q2.out, by exact hz⟩)
 · exact (nn c2 H).elim
/-- A state of type 35 at block g of W; what its slices lead to came in by w0. -/
def IsS35 (w0 W : World) (g : Nat) (f0 : Int) (f1 : Int) (f2 : Int) (f3 : Int) : Prop := W.heap[g]? = some (.cells #[.int .i64 f0, .int .i64 f1, .int .i64 f2, .int .i64 f3] 35 (0, 0)) ∧ w0.heap.size ≤ g
theorem IsS35.grown {w0 W : World} {g : Nat} {f0 : Int} {f1 : Int} {f2 : Int} {f3 : Int} {W1 : World} {row : Option Nat} (h : IsS35 w0 W g f0 f1 f2 f3) (hw : W.grownBy W1 row) (hne : some g ≠ row) : IsS35 w0 W1 g f0 f1 f2 f3 := by
 obtain ⟨hb, hg⟩ := h; exact ⟨blk_grown hb hw hne, hg⟩
theorem IsS35.own_neN {w0 W : World} {g : Nat} {f0 : Int} {f1 : Int} {f2 : Int} {f3 : Int} {α : Type} {d : Kd α} {e : Nat} {base : Nat} {ok : Nat → Prop} {v : Value} {xs : List α} (h : IsS35 w0 W g f0 f1 f2 f3) (ho : Kd.N d e W base ok v xs) (ht : e ≠ 35) : some g ≠ v.ownBlock := by
 obtain ⟨hb, hg⟩ := h; exact Kd.N_ne ho hb ht
theorem IsS35.fresh {w0 W : World} {g : Nat} {f0 : Int} {f1 : Int} {f2 : Int} {f3 : Int} (h : IsS35 w0 W g f0 f1 f2 f3) : ∀ k, W.heap.size ≤ k → k ≠ g := by
 obtain ⟨hb, hg⟩ := h; exact Kd.freshB hb
theorem IsS35.kept {w0 W : World} {g : Nat} {f0 : Int} {f1 : Int} {f2 : Int} {f3 : Int} {W1 : World} {S : Nat → Prop} (h : IsS35 w0 W g f0 f1 f2 f3) (hk : Kept W W1 S) (hne : ¬ S g) : IsS35 w0 W1 g f0 f1 f2 f3 := by
 obtain ⟨hb, hg⟩ := h; exact ⟨blk_kept hb hk hne, hg⟩
theorem IsS35.below {w0 W : World} {g : Nat} {f0 : Int} {f1 : Int} {f2 : Int} {f3 : Int} {W1 : World} (h : IsS35 w0 W g f0 f1 f2 f3) (hw : Below W.heap.size W W1) : IsS35 w0 W1 g f0 f1 f2 f3 := h.grown (grown_of_below hw none) (by simp)
theorem IsS35.alloc {w0 W : World} {g : Nat} {f0 : Int} {f1 : Int} {f2 : Int} {f3 : Int} (h : IsS35 w0 W g f0 f1 f2 f3) (o : Obj) : IsS35 w0 (W.alloc o) g f0 f1 f2 f3 := h.below (below_alloc (Below.refl _ _) o)
theorem IsS35.drewN {w0 W : World} {g : Nat} {f0 : Int} {f1 : Int} {f2 : Int} {f3 : Int} (h : IsS35 w0 W g f0 f1 f2 f3) (m : Nat) : IsS35 w0 (W.drewN m) g f0 f1 f2 f3 := h
theorem IsS35.drew {w0 W : World} {g : Nat} {f0 : Int} {f1 : Int} {f2 : Int} {f3 : Int} (h : IsS35 w0 W g f0 f1 f2 f3) : IsS35 w0 W.drew g f0 f1 f2 f3 := h
theorem IsS35.at_ {w0 W : World} {g : Nat} {f0 : Int} {f1 : Int} {f2 : Int} {f3 : Int} {w' : World} {m : Nat} (hq : W.drewN m = w') (h : IsS35 w0 W g f0 f1 f2 f3) : IsS35 w0 w' g f0 f1 f2 f3 := by subst hq; exact IsS35.drewN h m
theorem IsS35.apart {w0 W : World} {g : Nat} {f0 : Int} {f1 : Int} {f2 : Int} {f3 : Int} {α : Type} {d : Kd α} {e : Nat} {base : Nat} {ok : Nat → Prop} {v : Value} {xs : List α} (h : IsS35 w0 W g f0 f1 f2 f3) (ho : d.R e W base ok v xs) (ht : ∀ q, q ∈ e :: d.E → q ≠ 35) : d.R e W base (fun k => ok k ∧ k ≠ g) v xs := by
 obtain ⟨hb, hg⟩ := h; exact Kd.R_types ho hb ht
theorem IsS35.own_ne {w0 W : World} {g : Nat} {f0 : Int} {f1 : Int} {f2 : Int} {f3 : Int} {α : Type} {d : Kd α} {e : Nat} {base : Nat} {ok : Nat → Prop} {v : Value} {xs : List α} (h : IsS35 w0 W g f0 f1 f2 f3) (ho : d.R e W base ok v xs) (ht : e ≠ 35) : some g ≠ v.ownBlock := by
 obtain ⟨hb, hg⟩ := h; exact Kd.R_ne ho hb ht
theorem IsS35.apartQ {w0 W : World} {g : Nat} {f0 : Int} {f1 : Int} {f2 : Int} {f3 : Int} {α : Type} {d : Kd α} {e : Nat} {base : Nat} {ok : Nat → Prop} {v : Value} {xs : List α} (h : IsS35 w0 W g f0 f1 f2 f3) (ho : d.Q e W base ok v xs) (ht : ∀ q, q ∈ e :: d.E → q ≠ 35) : d.Q e W base (fun k => ok k ∧ k ≠ g) v xs := by
 obtain ⟨hb, hg⟩ := h; exact Kd.Q_types ho hb ht
theorem IsS35.own_neQ {w0 W : World} {g : Nat} {f0 : Int} {f1 : Int} {f2 : Int} {f3 : Int} {α : Type} {d : Kd α} {e : Nat} {base : Nat} {ok : Nat → Prop} {v : Value} {xs : List α} (h : IsS35 w0 W g f0 f1 f2 f3) (ho : d.Q e W base ok v xs) (ht : e ≠ 35) : some g ≠ v.ownBlock := by
 obtain ⟨hb, hg⟩ := h; exact Kd.Q_ne ho hb ht
theorem IsS35.apartS {w0 W : World} {g : Nat} {f0 : Int} {f1 : Int} {f2 : Int} {f3 : Int} {α : Type} {d : Kd α} {e : Nat} {base : Nat} {ok : Nat → Prop} {v : Value} {xs : List α} (h : IsS35 w0 W g f0 f1 f2 f3) (ho : d.S e W base ok v xs) (ht : ∀ q, q ∈ e :: d.E → q ≠ 35) : d.S e W base (fun k => ok k ∧ k ≠ g) v xs := by
 obtain ⟨hb, hg⟩ := h; exact Kd.S_types ho hb ht
theorem IsS35.own_neS {w0 W : World} {g : Nat} {f0 : Int} {f1 : Int} {f2 : Int} {f3 : Int} {α : Type} {d : Kd α} {e : Nat} {base : Nat} {ok : Nat → Prop} {v : Value} {xs : List α} (h : IsS35 w0 W g f0 f1 f2 f3) (ho : d.S e W base ok v xs) (ht : e ≠ 35) : some g ≠ v.ownBlock := by
 obtain ⟨hb, hg⟩ := h; exact Kd.S_ne ho hb ht
theorem IsS35.lt {w0 W : World} {g : Nat} {f0 : Int} {f1 : Int} {f2 : Int} {f3 : Int} (h : IsS35 w0 W g f0 f1 f2 f3) : g < W.heap.size := by
 obtain ⟨hb, hg⟩ := h; exact blk_lt hb
theorem IsS35.ge {w0 W : World} {g : Nat} {f0 : Int} {f1 : Int} {f2 : Int} {f3 : Int} (h : IsS35 w0 W g f0 f1 f2 f3) : w0.heap.size ≤ g := by
 obtain ⟨hb, hg⟩ := h; exact hg
theorem IsS35.ne_blk {w0 W : World} {g : Nat} {f0 : Int} {f1 : Int} {f2 : Int} {f3 : Int} {a : Nat} {cs : Array Value} {t : TypeId} {fr : Nat × Nat} (h : IsS35 w0 W g f0 f1 f2 f3) (hb2 : W.heap[a]? = some (.cells cs t fr)) (ht : t ≠ 35) : g ≠ a := by
 obtain ⟨hb, hg⟩ := h; rintro rfl; rw [hb] at hb2; (injection hb2 with hb2); (injection hb2 with _ ht2); exact ht ht2.symm
theorem IsS35.far {w0 W : World} {g : Nat} {f0 : Int} {f1 : Int} {f2 : Int} {f3 : Int} {p : Addr} (h : IsS35 w0 W g f0 f1 f2 f3) (hne : g ≠ p.block) (u : Value) : IsS35 w0 (W.setCell p u) g f0 f1 f2 f3 := by
 obtain ⟨hb, hg⟩ := h; exact ⟨blk_far hb hne u, hg⟩
theorem cellS35_0 {W : World} {g : Nat} {f0 : Int} {f1 : Int} {f2 : Int} {f3 : Int} (h : W.heap[g]? = some (.cells #[.int .i64 f0, .int .i64 f1, .int .i64 f2, .int .i64 f3] 35 (0, 0))) : W.cell? ⟨g, 0, none⟩ = some (.int .i64 f0) := (blk_cell h 0).trans rfl
theorem IsS35.set_0 {w0 W : World} {g : Nat} {f0 : Int} {f1 : Int} {f2 : Int} {f3 : Int} (h : IsS35 w0 W g f0 f1 f2 f3) (x : Int) : IsS35 w0 (W.setCell ⟨g, 0, none⟩ (.int .i64 x)) g x f1 f2 f3 := by
 obtain ⟨hb, hg⟩ := h; exact ⟨by simpa using blk_set hb 0 (.int .i64 x), hg⟩
theorem cellS35_1 {W : World} {g : Nat} {f0 : Int} {f1 : Int} {f2 : Int} {f3 : Int} (h : W.heap[g]? = some (.cells #[.int .i64 f0, .int .i64 f1, .int .i64 f2, .int .i64 f3] 35 (0, 0))) : W.cell? ⟨g, 1, none⟩ = some (.int .i64 f1) := (blk_cell h 1).trans rfl
theorem IsS35.set_1 {w0 W : World} {g : Nat} {f0 : Int} {f1 : Int} {f2 : Int} {f3 : Int} (h : IsS35 w0 W g f0 f1 f2 f3) (x : Int) : IsS35 w0 (W.setCell ⟨g, 1, none⟩ (.int .i64 x)) g f0 x f2 f3 := by
 obtain ⟨hb, hg⟩ := h; exact ⟨by simpa using blk_set hb 1 (.int .i64 x), hg⟩
theorem cellS35_2 {W : World} {g : Nat} {f0 : Int} {f1 : Int} {f2 : Int} {f3 : Int} (h : W.heap[g]? = some (.cells #[.int .i64 f0, .int .i64 f1, .int .i64 f2, .int .i64 f3] 35 (0, 0))) : W.cell? ⟨g, 2, none⟩ = some (.int .i64 f2) := (blk_cell h 2).trans rfl
theorem IsS35.set_2 {w0 W : World} {g : Nat} {f0 : Int} {f1 : Int} {f2 : Int} {f3 : Int} (h : IsS35 w0 W g f0 f1 f2 f3) (x : Int) : IsS35 w0 (W.setCell ⟨g, 2, none⟩ (.int .i64 x)) g f0 f1 x f3 := by
 obtain ⟨hb, hg⟩ := h; exact ⟨by simpa using blk_set hb 2 (.int .i64 x), hg⟩
theorem cellS35_3 {W : World} {g : Nat} {f0 : Int} {f1 : Int} {f2 : Int} {f3 : Int} (h : W.heap[g]? = some (.cells #[.int .i64 f0, .int .i64 f1, .int .i64 f2, .int .i64 f3] 35 (0, 0))) : W.cell? ⟨g, 3, none⟩ = some (.int .i64 f3) := (blk_cell h 3).trans rfl
theorem IsS35.set_3 {w0 W : World} {g : Nat} {f0 : Int} {f1 : Int} {f2 : Int} {f3 : Int} (h : IsS35 w0 W g f0 f1 f2 f3) (x : Int) : IsS35 w0 (W.setCell ⟨g, 3, none⟩ (.int .i64 x)) g f0 f1 f2 x := by
 obtain ⟨hb, hg⟩ := h; exact ⟨by simpa using blk_set hb 3 (.int .i64 x), hg⟩
theorem IsS35.new (w0 W : World) (f0 : Int) (f1 : Int) (f2 : Int) (f3 : Int) (hB : Below w0.heap.size w0 W) : IsS35 w0 (W.alloc (.cells #[.int .i64 f0, .int .i64 f1, .int .i64 f2, .int .i64 f3] 35)) W.heap.size f0 f1 f2 f3 := ⟨by simpa using heap_alloc_new W _, hB.size⟩
/-! ### impl_VoiceOf: function 41 -/
instance : Inhabited S35 := ⟨z35⟩
def encE (x : S35) : List Value := [.int .i64 x.f0, .int .i64 x.f1, .int .i64 x.f2, .int .i64 x.f3]
theorem encE_length (x : S35) : (encE x).length = 4 := rfl
theorem encE_one (x : S35) : ∀ v ∈ encE x, v.oneCell' = true := by
 intro v hv; (simp only [encE, List.mem_cons, List.mem_nil_iff, or_false] at hv)
 rcases hv with rfl | rfl | rfl | rfl <;> rfl
def impl_VoiceOf.f (l0 : List S35) (a1 : Int) : Option (List S35) := if l0.length < 4398046511104 then some (l0.filter fun e => !(e.f3 != a1)) else none
theorem voice_1 (x : S35) (a1 : Int) (B : Nat) (W : World) (hB : B < W.heap.size) (hc : W.cell? ⟨B, 0, none⟩ = some (.int .i64 a1)) :
 Calls Try.prog 72 #[.agg (encE x).toArray, .pointer (some ⟨B, 0, none⟩)] W fun e w' => e = .returned (.bool (x.f3 != a1)) ∧ ∃ q os, w' = Sort.grow (W.drewN q) os := by
 obtain ⟨x0, x1, x2, x3⟩ := x; (show Calls Try.prog 72 #[.agg #[.int .i64 x0, .int .i64 x1, .int .i64 x2, .int .i64 x3], .pointer (some ⟨B, 0, none⟩)] W _); go_enter Try.func72, Try.ntmps72; (go_wp2); go_ret; exact ⟨rfl, 0, #[.cells #[.int .i64 x0, .int .i64 x1, .int .i64 x2, .int .i64 x3] 35], DelFunc.alloc_grow _ _⟩
theorem voice_idx0 (a : Option Addr) (c : Nat) (fv : Value) (w : World) : Calls Try.prog 88 #[.slice a 0 c, fv] w fun e w' => e = .returned (.int .i64 (-1)) ∧ w' = w := by
 go_enter Try.func88, Try.ntmps88; (go_wp2); (go_loopg [5, 8] 0 (fun _ _ s8 wr => s8 = .int .i64 0 ∧ wr = w))
 case atStart => exact ⟨rfl, rfl⟩
 case round =>
  obtain ⟨rfl, rfl⟩ := hrel; (go_wp2); go_ret; exact ⟨rfl, rfl⟩
theorem voice_del0 (a : Option Addr) (c : Nat) (fv : Value) (w : World) : Calls Try.prog 70 #[.slice a 0 c, fv] w fun e w' => e = .returned (.slice a 0 c) ∧ w' = w := by
 go_enter Try.func70, Try.ntmps70; (go_wp2_with (go_at_call 88; refine (voice_idx0 a c fv _).mono ?_; rintro e w' ⟨rfl, rfl⟩)); go_ret; exact ⟨rfl, rfl⟩
theorem voice_below {B : Nat} {w0 w : World} (h : Below B w0 w) (hB : B ≤ w.heap.size) (os : Array Obj) : Below B w0 (Sort.grow w os) :=
 (⟨h.os, h.tape, h.output, by show w0.heap.size ≤ (w.heap ++ os).size; rw [Array.size_append]; have := h.size; omega, fun j hj => (Sort.heap_grow_old w os (by omega)).trans (h.block j hj)⟩)
/-- A row of events that the call owns: its cells, in the sort's words. -/
theorem voice_holds {w : World} {base g cap n : Nat} {l : List S35} (h : Kd.R k35 35 w base (fun _ => True) (.slice (some ⟨g, 0, none⟩) n cap) l) : Sort.HoldsK encE 4 w g 0 l.toArray := by
 obtain ⟨_, inner, ho, hr⟩ := h; obtain ⟨hn, hrow⟩ := hr; obtain ⟨hlen, ho2⟩ := ho; (change inner.length = l.length * 4 at hn); (change inner.length = l.length * 4 at hlen)
 rcases ho2 with ⟨e0, _⟩ | ⟨g', cap', cur, e0, hb, hg, hnc, hm, hs, ht⟩
 · cases e0
 · injection e0 with e1 e2 e3
   (injection e1 with e1); (injection e1 with e1); subst e1; subst e3; (change cur.size = _ * 4 at hs); (change List.take (l.length * 4) cur.toList = inner at ht); intro t htt; rw [Sort.size_flatK] at htt; (have htt' : t < l.length * 4 := by simpa using htt); (have hj : t / 4 < l.length := by omega); (have h1 : (inner.drop (t / 4 * 4)).take 4 = encE l[t / 4] := k35_openM (hrow (t / 4) l[t / 4] (List.getElem?_eq_getElem hj))); (have h2 : ((inner.drop (t / 4 * 4)).take 4)[t % 4]? = (encE l[t / 4])[t % 4]? := by rw [h1]); rw [List.getElem?_take, if_pos (by omega), List.getElem?_drop, show t / 4 * 4 + t % 4 = t by omega] at h2
   have h3 : inner[t]? = cur[t]? := by
    rw [← ht, List.getElem?_take, if_pos (by omega), Array.getElem?_toList]
   have hlt : t % 4 < (encE l[t / 4]).length := by rw [encE_length]; omega
   refine ⟨?_, by simp [World.frozen?, hg]⟩; rw [Sort.get_flatK _ _ _ _ (by simpa using htt')]; (have h4 : l.toArray[t / 4]! = l[t / 4] := by rw [getElem!_pos l.toArray (t / 4) (by simpa using hj)]; simp); rw [h4, getElem!_pos (encE l[t / 4]) (t % 4) hlt]; simp only [World.cell?, hg, Nat.zero_add]; simp only [Option.isSome_none, Bool.false_eq_true, if_false]; rw [← h3, h2, List.getElem?_eq_getElem hlt]; rfl
theorem voice_own {w2 w3 : World} {base base' g cap n q : Nat} {l ys : List S35} {os : Array Obj} {k : Nat} (h : Kd.R k35 35 w2 base (fun _ => True) (.slice (some ⟨g, 0, none⟩) n cap) l) (hb3 : Below w2.heap.size w2 w3) (hgw : g < w2.heap.size) (hbase : base' ≤ base) (hy : ys.length = l.length) (hk : k ≤ ys.length) :
 Kd.R k35 35 (sortWorldK encE 4 w3 g 0 q ys.toArray os) base' (fun _ => True) (.slice (some ⟨g, 0, none⟩) k cap) (ys.take k) := by
 obtain ⟨_, inner, ho, hr⟩ := h; obtain ⟨hlen, ho2⟩ := ho
 rcases ho2 with ⟨e0, _⟩ | ⟨g', cap', cur, e0, hb, hg, hnc, hm, hs, ht⟩
 · cases e0
 · injection e0 with e1 e2 e3
   (injection e1 with e1); (injection e1 with e1); subst e1; subst e3; (change cur.size = _ * 4 at hs); (have hg3 : w3.heap[g]? = some (.cells cur 35 (0, 0)) := (hb3.block g hgw).trans hg)
   have hw : (sortWorldK encE 4 w3 g 0 q ys.toArray os).heap[g]? = some (.cells (Sort.putCells id 0 (Sort.flatK encE 4 ys.toArray) cur) 35 (0, 0)) := by
    unfold sortWorldK; rw [Sort.heap_grow_old _ _ (by rw [Sort.size_putRowK]; exact Nat.lt_of_lt_of_le hgw hb3.size)]; (simp [Sort.putRowK, Sort.putRow, Sort.mapBlock, Sort.ahead, Array.getElem?_modify, hg3, Sort.onCells])
   have hks : (ys.take k).length = k := by rw [List.length_take]; omega
   have hcs : (Sort.putCells id 0 (Sort.flatK encE 4 ys.toArray) cur).size = cap * 4 := by simpa [Sort.putCells] using hs
   refine ⟨fun _ _ => trivial, ((Sort.putCells id 0 (Sort.flatK encE 4 ys.toArray) cur).toList.take (k * 4)), ?_, ?_⟩; (rw [hks]; refine ⟨by rw [List.length_take, Array.length_toList, hcs]; show min (k * 4) (cap * 4) = k * 4; omega, .inr ⟨g, cap, _, rfl, Nat.le_trans hbase hb, hw, by omega, hm, hcs, rfl⟩⟩)
   · refine ⟨by rw [List.length_take, Array.length_toList, hcs, hks]; show min (k * 4) (cap * 4) = k * 4; omega, fun j p hj => ?_⟩
     have hjk : j < k := by have := (List.getElem?_eq_some_iff.1 hj).1; omega
     have hjp : ys[j]? = some p := by rw [List.getElem?_take, if_pos hjk] at hj; exact hj
     (have hjl : j < ys.length := (List.getElem?_eq_some_iff.1 hjp).1)
     have e : (((Sort.putCells id 0 (Sort.flatK encE 4 ys.toArray) cur).toList.take (k * 4)).drop (j * 4)).take 4 = encE p := by
      (apply List.ext_getElem?); intro c
      by_cases hc : c < 4
      · have hlt : j * 4 + c < cur.size := by rw [hs]; omega
        have hf : j * 4 + c < (Sort.flatK encE 4 ys.toArray).size := by rw [Sort.size_flatK, List.size_toArray]; omega
        rw [List.getElem?_take, if_pos hc, List.getElem?_drop, List.getElem?_take, if_pos (by omega), Array.getElem?_toList]; simp only [Sort.putCells, Array.getElem?_mapIdx, Array.getElem?_eq_getElem hlt, Option.map_some]; rw [if_pos (by omega)]; simp only [Nat.sub_zero, id]; rw [Sort.get_flatK _ _ _ _ (by simpa using hf), show (j * 4 + c) / 4 = j by omega, show (j * 4 + c) % 4 = c by omega]
        have h4 : ys.toArray[j]! = p := by
         obtain ⟨h5, h6⟩ := List.getElem?_eq_some_iff.1 hjp; rw [getElem!_pos ys.toArray j (by simpa using h5)]; simpa using h6
        have hl4 : c < (encE p).length := by rw [encE_length]; exact hc
        rw [h4, getElem!_pos (encE p) c hl4, List.getElem?_eq_getElem hl4]
      · rw [List.getElem?_take, if_neg hc, List.getElem?_eq_none (by rw [encE_length]; omega)]
     show k35.M _ _ _ p _
     (have e2 : (((Sort.putCells id 0 (Sort.flatK encE 4 ys.toArray) cur).toList.take (k * 4)).drop (j * k35.sz)).take k35.sz = encE p := e); rw [e2]; exact k35_mkM _ _ _ p
theorem impl_VoiceOf.calls (A0 : Option Addr) (c0 : Nat) (l0 : List (S35)) (a1 : Int) (r : List (S35)) (w : World) (hr0 : Kd.C k35 w A0 l0.length l0) (hc0 : l0.length ≤ c0) (h : impl_VoiceOf.f l0 a1 = some r) :
 Calls Try.prog 41 #[.slice A0 l0.length c0, .int .i64 a1] w fun e w' => ∃ v0_ : Value, e = .returned (v0_) ∧ Kd.R k35 35 w' w.heap.size (fun _ => True) v0_ r ∧ Below w.heap.size w w' := by
 unfold impl_VoiceOf.f at h
 by_cases hl : l0.length < 4398046511104
 · rw [if_pos hl] at h
   obtain rfl := Option.some.inj h; (have hcl : impl_Event.f l0 = some l0 := by unfold impl_Event.f; simp [hl]); obtain ⟨w1, hw1⟩ : ∃ w1, w1 = w.alloc (.cells #[.int .i64 a1] 3) := ⟨_, rfl⟩; (have hB1 : Below w.heap.size w w1 := by rw [hw1]; exact below_alloc (Below.refl _ _) _); (have hs1 : w1.heap.size = w.heap.size + 1 := by rw [hw1]; exact Array.size_push ..); (have hc1 : w1.cell? ⟨w.heap.size, 0, none⟩ = some (.int .i64 a1) := by rw [hw1]; simp only [World.cell?, heap_alloc_new]; rfl); have hclone := impl_Event.calls A0 c0 l0 l0 w1 (Kd.C_below hr0 hB1) hc0 hcl; rw [hw1] at hclone
   by_cases h0 : l0.length = 0
   · obtain rfl := List.length_eq_zero_iff.1 h0
     go_enter Try.func41, Try.ntmps41; (go_wp2_with (first | (go_at_call 71; refine hclone.mono ?_; rintro e w2 ⟨v, rfl, hR, hb⟩; rw [← hw1] at hR hb; obtain ⟨A, c, rfl, hlc, hC⟩ := Kd.R_reads hR) | (go_at_call 70; refine (voice_del0 A c _ _).mono ?_; rintro e w3 ⟨rfl, rfl⟩))); go_ret; exact ⟨_, rfl, Kd.R_lower hR (by omega), hB1.trans (hb.mono (by omega))⟩
   · go_enter Try.func41, Try.ntmps41
     (go_wp2_with (go_at_call 71; refine hclone.mono ?_; rintro e w2 ⟨v, rfl, hR, hb⟩; rw [← hw1] at hR hb; obtain ⟨g, cap, rfl, hbg, hgw, hcells⟩ := Kd.R_form hR (Nat.pos_of_ne_zero h0))); have hH := voice_holds hR; (have hc2 : w2.cell? ⟨w.heap.size, 0, none⟩ = some (.int .i64 a1) := (hb.cell (p := ⟨w.heap.size, 0, none⟩) (by show w.heap.size < w1.heap.size; omega)).trans hc1); have hs2 := hb.size; (have eg : ∀ args w, (callFunc 72 args).run Try.prog w = .ok (.enter 72 args) w := enters_of Try.func72 (by kernel_rfl) rfl); (have hcap : l0.length ≤ cap := by obtain ⟨_, _, e_, h_, _⟩ := Kd.R_reads hR; injection e_ with e1_ e2_ e3_; omega); (have hmax : l0.length ≤ 9223372036854775807 := by omega)
     have hp1 : PredBelow Try.prog 72 #[.pointer (some ⟨w.heap.size, 0, none⟩)] (fun x => .agg (encE x).toArray) (fun e => e.f3 != a1) w2 := by
      intro W x hW; have hv := voice_1 x a1 w.heap.size W (by have := hW.size; omega) ((hW.cell (p := ⟨w.heap.size, 0, none⟩) (by show w.heap.size < w2.heap.size; omega)).trans hc2); refine hv.mono ?_; rintro e w' ⟨he, q, os, rfl⟩; exact ⟨he, voice_below (pw_below_drewN hW q) (by show w2.heap.size ≤ W.heap.size; exact hW.size) os⟩
     have hp2 : ∀ W, Below w2.heap.size w2 W → DelFunc.PredLays Try.prog 72 #[.pointer (some ⟨w.heap.size, 0, none⟩)] encE 4 (fun e => e.f3 != a1) g 0 l0.toArray.size W := by
      intro W hW m os dk x hs; have hsz := hW.size; have hss := size_sortWorldK_c encE 4 W g 0 m dk os; refine voice_1 x a1 w.heap.size _ (by omega) ?_; have hk := (hW.cell (p := ⟨w.heap.size, 0, none⟩) (by show w.heap.size < w2.heap.size; omega)).trans hc2; unfold sortWorldK; rw [Sort.cell?_grow _ _ _ (by show w.heap.size < (Sort.putRowK _ _ _ _ _ _).heap.size; rw [Sort.size_putRowK]; show w.heap.size < W.heap.size; omega), Sort.cell?_putRowK_other _ _ _ _ _ _ _ (by show w.heap.size ≠ g; omega)]; exact hk
     have hdel := DelFunc.delFunc DelFunc.layDel 4 (by decide) Try.isAgg35 Try.sizeOf35 encE encE_length encE_one z35 ⟨rfl, Try.zeroValue35⟩ (fun e => e.f3 != a1) 72 #[.pointer (some ⟨w.heap.size, 0, none⟩)] eg g 0 cap l0.toArray w2 hp1 hp2 hH hgw (by simpa using hmax) (by simpa using hcap); rw [List.size_toArray] at hdel; (go_wp2_with (go_at_call 70; refine hdel.mono ?_; rintro e w4 ⟨rfl, w3, q, os, hb3, rfl⟩)); go_ret; obtain ⟨ys, hys⟩ : ∃ ys, ys = (l0.filter fun e => !(e.f3 != a1)) ++ List.replicate (l0.length - (l0.filter fun e => !(e.f3 != a1)).length) z35 := ⟨_, rfl⟩; rw [← hys]; (have hfl : (l0.filter fun e => !(e.f3 != a1)).length ≤ l0.length := List.length_filter_le _ _); (have hyl : ys.length = l0.length := by rw [hys, List.length_append, List.length_replicate]; omega); (have hyt : ys.take (l0.filter fun e => !(e.f3 != a1)).length = (l0.filter fun e => !(e.f3 != a1)) := by rw [hys, List.take_left]); have hown := voice_own (base' := w.heap.size) (ys := ys) (q := q) (os := os) (k := (l0.filter fun e => !(e.f3 != a1)).length) hR hb3 hgw (by omega) hyl (by omega); rw [hyt] at hown; (have hB3 : Below w.heap.size w w3 := (hB1.trans (hb.mono (by omega))).trans (hb3.mono (by omega))); refine ⟨_, rfl, hown, ?_⟩; refine voice_below (B := w.heap.size) (w0 := w) (Lib.below_putRow (enc := id) hB3 (by omega)) ?_ os; (show w.heap.size ≤ (Sort.putRowK _ _ _ _ _ _).heap.size); rw [Sort.size_putRowK]; exact hB3.size
 · rw [if_neg hl] at h; cases h
end Go.Proofs.Ytcgkmcnfhobkiaa.PFnNeverAhead
