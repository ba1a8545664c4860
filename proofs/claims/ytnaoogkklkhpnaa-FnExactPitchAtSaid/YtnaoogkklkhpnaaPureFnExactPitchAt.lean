/-
PitchAt of the program and of the reference: the same answer.
Conditions: none.
-/
import Derived.Test.YtnaoogkklkhpnaaPFnExactPitchAtx6
import Derived.Test.YtnaoogkklkhpnaaBase
namespace Go.Proofs.Ytnaoogkklkhpnaa.Pure
open Go.RowKit Go.Proofs.Ytnaoogkklkhpnaa.PFnExactPitchAt Go.Proofs.YtnaoogkklkhpnaaW.PrintWords Go.Proofs.YtnaoogkklkhpnaaW.PrintLast Go.Proofs.YtnaoogkklkhpnaaW.PrintMore Go.Proofs.Ytnaoogkklkhpnaa.Base
set_option linter.unusedVariables false
set_option linter.unusedSimpArgs false

theorem l1In_eq (a b c : Int) : spec_l1In.f a b c = some (decide (b ≤ a ∧ a ≤ c)) := by
  unfold spec_l1In.f
  by_cases h1 : b ≤ a <;> by_cases h2 : a ≤ c <;> simp [h1, h2]
theorem InRange_eq (a b c : Int) : impl_InRange.f a b c = some (decide (b ≤ a ∧ a ≤ c)) := by
  unfold impl_InRange.f
  by_cases h1 : b ≤ a <;> by_cases h2 : a ≤ c <;> simp [h1, h2]

def cvEvent (x : S91) : S89 := ⟨x.f0, x.f1, x.f2, x.f3⟩
theorem rdLEvent (pre : List S91) (x : S91) (t : List S91) : rd_T91 (pre ++ x :: t) ((pre.length : Nat) : Int) = x := getD_mid pre x t z91
theorem rdIEvent (pre : List S89) (x : S89) (t : List S89) : rd_T89 (pre ++ x :: t) ((pre.length : Nat) : Int) = x := getD_mid pre x t z89
theorem toEventS_l0 (suf : List S91) : ∀ pre : List S91, (pre ++ suf).length ≤ 1048576 → Ev (fun k => laws_toEventS.l0 k (pre ++ suf) (pre.map cvEvent ++ List.replicate suf.length z89) (pre.length : Int)) ((pre ++ suf).map cvEvent) := by
  induction suf with
  | nil =>
    intro pre h
    refine ev_tail ?_
    simp only [laws_toEventS.l0]
    refine ev_neg (by simp) ?_
    exact ev_eq (Ev.now _) (by simp)
  | cons x t ih =>
    intro pre h
    have e := ih (pre ++ [x]) (by simpa using h)
    simp only [List.length_append, List.length_cons] at h
    refine ev_tail ?_
    simp only [laws_toEventS.l0, laws_toEvent.f, Option.bind_some]
    refine ev_pos (by simp; omega) (ev_pos (by omega) (ev_pos (by simp; omega) ?_))
    rw [rdLEvent, List.length_cons, List.replicate_succ]
    have e1 : (pre.map cvEvent ++ z89 :: List.replicate t.length z89).set ((pre.length : Nat) : Int).toNat (⟨x.f0, x.f1, x.f2, x.f3⟩ : S89) = (pre ++ [x]).map cvEvent ++ List.replicate t.length z89 := by
      simp [cvEvent]
    rw [e1, wrap_succ (by omega), snoc_cons pre x t, ← length_snoc pre x]
    exact e
theorem toEventS_ev (l : List S91) (h : l.length ≤ 1048576) : Ev (fun k => laws_toEventS.f k l) (l.map cvEvent) := by
  simp only [laws_toEventS.f]
  refine ev_pos (by omega) (ev_pos (by omega) ?_)
  exact toEventS_l0 l [] (by simpa using h)

theorem eqEventS_l0 (suf : List S89) : ∀ pre : List S89, (pre ++ suf).length ≤ 1048576 → Ev (fun k => laws_eqEventS.l0 k (pre ++ suf) (pre ++ suf) (pre.length : Int)) true := by
  induction suf with
  | nil =>
    intro pre h
    refine ev_tail ?_
    simp only [laws_eqEventS.l0]
    exact ev_neg (by simp) (Ev.now true)
  | cons x t ih =>
    intro pre h
    have e := ih (pre ++ [x]) (by simpa using h)
    simp only [List.length_append, List.length_cons] at h
    refine ev_tail ?_
    simp only [laws_eqEventS.l0, laws_eqEvent.f, if_true, Option.bind_some]
    refine ev_pos (by simp; omega) (ev_pos (by omega) (ev_pos (by simp; omega) ?_))
    rw [wrap_succ (by omega), snoc_cons pre x t, ← length_snoc pre x]
    exact e
theorem eqEventS_ev (l : List S89) (h : l.length ≤ 1048576) : Ev (fun k => laws_eqEventS.f k l l) true := by
  simp only [laws_eqEventS.f]
  refine ev_pos (by trivial) ?_
  exact eqEventS_l0 l [] (by simpa using h)

theorem szEventS_some (l : List S91) (h : l.length ≤ maxLen) : ∃ r, laws_szEventS.f l 1048576 = some r ∧ (¬ r < 0 → l.length ≤ 1048576) := by
  have hm : maxLen = 9223372036854775807 := rfl
  unfold laws_szEventS.f
  rw [wrap_id (by omega) (by omega)]
  by_cases h0 : (1048576 : Int) - (l.length : Int) < 0
  · exact ⟨-1, by rw [if_pos h0], fun h => absurd (by omega) h⟩
  · exact ⟨_, by rw [if_neg h0], fun _ => by omega⟩

def evOK (e : S89) : Bool := decide (0 ≤ e.f0 ∧ e.f0 ≤ 2000 ∧ 1 ≤ e.f1 ∧ e.f1 ≤ 96 ∧ 21 ≤ e.f2 ∧ e.f2 ≤ 108 ∧ 1 ≤ e.f3 ∧ e.f3 ≤ 4)
/-- In order: by At, then by Voice, then by Pitch. -/
def evLt (a b : S89) : Bool := decide (a.f0 < b.f0 ∨ (a.f0 = b.f0 ∧ (a.f3 < b.f3 ∨ (a.f3 = b.f3 ∧ a.f2 < b.f2))))
def scC (l : List S89) (i : Int) : Bool := evOK (rd_T89 l i) && (decide (i ≤ 0) || evLt (rd_T89 l (i - 1)) (rd_T89 l i))
def scoreM (l : List S89) : Bool := allF (scC l) (decide ((l.length : Int) ≤ 40)) l.length 0
theorem l8Ok_eq (e : S89) : spec_l8Ok.f e.f0 e.f1 e.f2 e.f3 = some (evOK e) := by
  simp only [spec_l8Ok.f, l1In_eq, Option.bind_some, evOK]
  by_cases h1 : 0 ≤ e.f0 ∧ e.f0 ≤ 2000 <;> by_cases h2 : 1 ≤ e.f1 ∧ e.f1 ≤ 96 <;> by_cases h3 : 21 ≤ e.f2 ∧ e.f2 ≤ 108 <;> simp [h1, h2, h3, and_assoc] <;> omega
theorem l8Before_eq (a b : S89) : spec_l8Before.f a.f0 a.f1 a.f2 a.f3 b.f0 b.f1 b.f2 b.f3 = some (evLt a b) := by
  simp only [spec_l8Before.f, evLt]
  by_cases h1 : a.f0 = b.f0
  · rw [if_pos h1]
    by_cases h2 : a.f3 = b.f3
    · rw [if_pos h2]; congr 1; exact decide_eq_decide.mpr (by omega)
    · rw [if_neg h2]; congr 1; exact decide_eq_decide.mpr (by omega)
  · rw [if_neg h1]; congr 1; exact decide_eq_decide.mpr (by omega)
theorem specIsScore_ev (l : List S89) (h : l.length ≤ 1048576) : Ev (fun k => spec_IsScore.f k l) (scoreM l) := by
  simp only [spec_IsScore.f]
  refine ev_all (L := fun k i => spec_IsScore.l0 k l i) (n := l.length) (fun i hi => ?_) ?_ l.length 0 (by omega)
  · have w1 : Aside0 (wrap64 ((i : Int) + 1) = (i : Int) + 1) := ⟨wrap_id (by omega) (by omega)⟩
    have w2 : Aside0 (wrap64 ((i : Int) - 1) = (i : Int) - 1) := ⟨wrap_id (by omega) (by omega)⟩
    constructor
    · intro hc r e
      simp only [scC, Bool.and_eq_true] at hc
      obtain ⟨h1, h2⟩ := hc
      refine ev_tail ?_
      simp only [spec_IsScore.l0, l8Ok_eq, l8Before_eq, Option.bind_some, w1.out, w2.out]
      refine ev_pos (by omega) (ev_pos (by omega) (ev_pos h1 (ev_ite (fun h0 => ?_) (fun _ => e))))
      rw [decide_eq_false (by omega), Bool.false_or] at h2
      exact ev_pos (by omega) (ev_pos (by omega) (ev_pos h2 e))
    · intro hc
      simp only [scC, Bool.and_eq_false_iff] at hc
      refine ev_tail ?_
      simp only [spec_IsScore.l0, l8Ok_eq, l8Before_eq, Option.bind_some, w1.out, w2.out]
      refine ev_pos (by omega) (ev_pos (by omega) (ev_ite (fun h1 => ?_) (fun _ => Ev.now _)))
      rcases hc with hc | hc
      · rw [hc] at h1; exact absurd h1 (by simp)
      · simp only [Bool.or_eq_false_iff, decide_eq_false_iff_not] at hc
        exact ev_pos (by omega) (ev_pos (by omega) (ev_pos (by omega) (ev_neg (by rw [hc.2]; simp) (Ev.now _))))
  · refine ev_tail ?_
    simp only [spec_IsScore.l0]
    exact ev_neg (by omega) (Ev.now _)
theorem cmp_eq (a b : Int) : cmp_Compare_int.f a b = some (if a < b then -1 else if a > b then 1 else 0) := by
  simp only [cmp_Compare_int.f, cmp_isNaN_int.f, Option.bind_some, bne_self_eq_false, Bool.false_eq_true, if_false]
  by_cases h1 : a < b
  · rw [if_pos h1, if_pos h1]
  · rw [if_neg h1, if_neg h1]
    by_cases h2 : a > b
    · rw [if_pos h2, if_pos h2]
    · rw [if_neg h2, if_neg h2]
theorem or_ev (a b c : Int) : Ev (fun k => cmp_Or_int.f k [a, b, c]) (if a = 0 then (if b = 0 then (if c = 0 then 0 else c) else b) else a) := by
  simp only [cmp_Or_int.f]
  have r0 : rd [a, b, c] 0 = a := rfl
  have r1 : rd [a, b, c] 1 = b := rfl
  have r2 : rd [a, b, c] 2 = c := rfl
  have w0 : wrap64 ((0 : Int) + 1) = 1 := by unfold wrap64; omega
  have w1 : wrap64 ((1 : Int) + 1) = 2 := by unfold wrap64; omega
  have w2 : wrap64 ((2 : Int) + 1) = 3 := by unfold wrap64; omega
  refine ev_tail ?_
  simp only [cmp_Or_int.l0, r0, w0]
  refine ev_pos (by simp) (ev_pos (by omega) (ev_pos (by simp) (ev_ite (fun h0 => ?_) (fun h0 => ?_))))
  · rw [if_pos h0]
    refine ev_tail ?_
    simp only [cmp_Or_int.l0, r1, w1]
    refine ev_pos (by simp) (ev_pos (by omega) (ev_pos (by simp) (ev_ite (fun h1 => ?_) (fun h1 => ?_))))
    · rw [if_pos h1]
      refine ev_tail ?_
      simp only [cmp_Or_int.l0, r2, w2]
      refine ev_pos (by simp) (ev_pos (by omega) (ev_pos (by simp) (ev_ite (fun h2 => ?_) (fun h2 => ?_))))
      · rw [if_pos h2]
        refine ev_tail ?_
        simp only [cmp_Or_int.l0]
        exact ev_neg (by simp) (Ev.now _)
      · rw [if_neg h2]; exact Ev.now _
    · rw [if_neg h1]; exact Ev.now _
  · rw [if_neg h0]; exact Ev.now _
theorem eventOrder_ev (a b : S89) : ∃ r, Ev (fun k => impl_eventOrder.f k a.f0 a.f1 a.f2 a.f3 b.f0 b.f1 b.f2 b.f3) r ∧ (evLt a b = true ↔ r < 0) := by
  simp only [impl_eventOrder.f, cmp_eq, Option.bind_some]
  refine ⟨_, Ev.bind (or_ev _ _ _) (Ev.now _), ?_⟩
  simp only [evLt, decide_eq_true_eq]
  repeat' split
  all_goals omega
theorem implIsScore_ev (l : List S89) (h : l.length ≤ 1048576) : Ev (fun k => impl_IsScore.f k l) (scoreM l) := by
  simp only [impl_IsScore.f]
  refine ev_all (L := fun k i => impl_IsScore.l0 k l l (l.length : Int) i) (n := l.length) (fun i hi => ?_) ?_ l.length 0 (by omega)
  · have w1 : Aside0 (wrap64 ((i : Int) + 1) = (i : Int) + 1) := ⟨wrap_id (by omega) (by omega)⟩
    have w2 : Aside0 (wrap64 ((i : Int) - 1) = (i : Int) - 1) := ⟨wrap_id (by omega) (by omega)⟩
    obtain ⟨q, hq, hl⟩ := eventOrder_ev (rd_T89 l ((i : Int) - 1)) (rd_T89 l (i : Int))
    constructor
    · intro hc r e
      simp only [scC, Bool.and_eq_true, evOK, decide_eq_true_eq] at hc
      obtain ⟨h1, h2⟩ := hc
      refine ev_tail ?_
      simp only [impl_IsScore.l0, InRange_eq, Option.bind_some, w1.out, w2.out]
      refine ev_pos (by omega) (ev_pos (by omega) (ev_pos (by omega) (ev_pos (by simp; omega) (ev_pos (by simp; omega) (ev_pos (by simp; omega) (ev_pos (by simp; omega) (ev_ite (fun h0 => ?_) (fun _ => e))))))))
      rw [decide_eq_false (by omega), Bool.false_or] at h2
      have := hl.mp h2
      exact ev_pos (by omega) (ev_pos (by omega) (Ev.bind hq (ev_neg (by omega) e)))
    · intro hc
      refine ev_tail ?_
      simp only [impl_IsScore.l0, InRange_eq, Option.bind_some, w1.out, w2.out]
      refine ev_pos (by omega) (ev_pos (by omega) (ev_pos (by omega) (ev_ite (fun h1 => ev_ite (fun h2 => ev_ite (fun h3 => ev_ite (fun h4 => ?_) (fun _ => Ev.now _)) (fun _ => Ev.now _)) (fun _ => Ev.now _)) (fun _ => Ev.now _))))
      simp only [decide_eq_true_eq] at h1 h2 h3 h4
      simp only [scC, Bool.and_eq_false_iff] at hc
      rcases hc with hc | hc
      · simp only [evOK, decide_eq_false_iff_not] at hc
        exact absurd ⟨h1.1, h1.2, h2.1, h2.2, h3.1, h3.2, h4.1, h4.2⟩ hc
      · simp only [Bool.or_eq_false_iff, decide_eq_false_iff_not] at hc
        have : ¬ q < 0 := fun hlt => by rw [hl.mpr hlt] at hc; exact absurd hc.2 (by simp)
        exact ev_pos (by omega) (ev_pos (by omega) (ev_pos (by omega) (Ev.bind hq (ev_pos (by omega) (Ev.now _)))))
  · refine ev_tail ?_
    simp only [impl_IsScore.l0]
    exact ev_neg (by omega) (Ev.now _)
theorem score_len {l : List S89} (h : scoreM l = true) : l.length ≤ 40 := by
  unfold scoreM at h
  rw [allF_iff] at h
  have := h.1
  simp only [decide_eq_true_eq] at this
  omega

/-- Does an event sound at a tick? -/
def sounds (e : S89) (t : Int) : Bool := decide (e.f0 ≤ t ∧ t < wrap64 (e.f0 + e.f1))
theorem sounds_eq (e : S89) (t : Int) : impl_Event_sounds.f e.f0 e.f1 e.f2 e.f3 t = some (sounds e t) := by
  simp only [impl_Event_sounds.f, sounds]
  by_cases h : e.f0 ≤ t
  · rw [if_pos h]; simp [h]
  · rw [if_neg h]; simp [h]
def pitSt (l : List S89) (v t : Int) (i p : Int) : Int := if (rd_T89 l i).f3 = v ∧ sounds (rd_T89 l i) t = true then (rd_T89 l i).f2 else p
def pitchM (l : List S89) (v t : Int) : Int := if scoreM l = true then foldM (pitSt l v t) l.length 0 0 else 0
theorem specPitchAt_ev (l : List S89) (v t : Int) (h : l.length ≤ 1048576) : Ev (fun k => spec_PitchAt.f k l v t) (pitchM l v t) := by
  simp only [spec_PitchAt.f, pitchM]
  have hs := specIsScore_ev l h
  by_cases hsc : scoreM l = true
  · rw [if_pos hsc]
    rw [hsc] at hs
    refine ev_fold (L := fun k p i => spec_PitchAt.l0 k l v t p i) (st := pitSt l v t) (fin := id) (n := l.length) (s0 := 0) (fun _ _ => True) (fun _ _ _ _ _ => trivial) (fun i p _ hi _ r e => ?_) (fun p _ => ?_) l.length 0 0 (by omega) (by omega) trivial
    · have w1 : Aside0 (wrap64 ((i : Int) + 1) = (i : Int) + 1) := ⟨wrap_id (by omega) (by omega)⟩
      refine ev_tail ?_
      simp only [spec_PitchAt.l0]
      refine ev_pos (by omega) (Ev.bind hs (ev_tail ?_))
      simp only [spec_PitchAt.j1, w1.out]
      refine ev_pos (by trivial) (ev_pos (by omega) (ev_pos (by omega) ?_))
      unfold pitSt sounds at e
      refine ev_ite (fun c1 => ev_ite (fun c2 => ev_ite (fun c3 => ?_) (fun c3 => ?_)) (fun c2 => ?_)) (fun c1 => ?_)
      · rw [if_pos ⟨c1, by simpa using ⟨c2, c3⟩⟩] at e; exact e
      · rw [if_neg (fun z => c3 (by simpa using (of_decide_eq_true z.2).2))] at e; exact e
      · rw [if_neg (fun z => c2 (of_decide_eq_true z.2).1)] at e; exact e
      · rw [if_neg (fun z => c1 z.1)] at e; exact e
    · refine ev_tail ?_
      simp only [spec_PitchAt.l0]
      refine ev_neg (by omega) (ev_tail ?_)
      simp only [spec_PitchAt.j1]
      exact ev_neg (by simp) (Ev.now _)
  · rw [if_neg hsc]
    rw [Bool.eq_false_iff.mpr hsc] at hs
    refine ev_tail ?_
    simp only [spec_PitchAt.l0]
    refine ev_ite (fun _ => Ev.bind hs (ev_tail ?_)) (fun _ => ev_tail ?_)
    · simp only [spec_PitchAt.j1]
      exact ev_neg (by simp) (Ev.now _)
    · simp only [spec_PitchAt.j1]
      exact ev_neg (by simp) (Ev.now _)
theorem implPitchAt_ev (l : List S89) (v t : Int) (h : l.length ≤ 1048576) : Ev (fun k => impl_PitchAt.f k l v t) (pitchM l v t) := by
  simp only [impl_PitchAt.f, pitchM]
  refine Ev.bind (implIsScore_ev l h) (ev_ite (fun hsc => ?_) (fun hsc => ?_))
  · rw [if_pos hsc]
    refine ev_fold (L := fun k p i => impl_PitchAt.l0 k v t p l (l.length : Int) i) (st := pitSt l v t) (fin := id) (n := l.length) (s0 := 0) (fun _ _ => True) (fun _ _ _ _ _ => trivial) (fun i p _ hi _ r e => ?_) (fun p _ => ?_) l.length 0 0 (by omega) (by omega) trivial
    · have w1 : Aside0 (wrap64 ((i : Int) + 1) = (i : Int) + 1) := ⟨wrap_id (by omega) (by omega)⟩
      refine ev_tail ?_
      simp only [impl_PitchAt.l0, sounds_eq, Option.bind_some, w1.out]
      refine ev_pos (by omega) (ev_pos (by omega) (ev_pos (by omega) ?_))
      unfold pitSt at e
      refine ev_ite (fun c1 => ev_ite (fun c2 => ?_) (fun c2 => ?_)) (fun c1 => ?_)
      · rw [if_pos ⟨c1, c2⟩] at e; exact e
      · rw [if_neg (fun z => c2 z.2)] at e; exact e
      · rw [if_neg (fun z => c1 z.1)] at e; exact e
    · refine ev_tail ?_
      simp only [impl_PitchAt.l0]
      exact ev_neg (by omega) (Ev.now _)
  · rw [if_neg hsc]
    exact Ev.now _

theorem FnExactPitchAt : ∀ (l0 : List (S91)) (a1 : Int) (a2 : Int), (l0.length ≤ maxLen) → (∀ x ∈ l0, ((Lit.int .i64 x.f0).wf = true) ∧ ((Lit.int .i64 x.f1).wf = true) ∧ ((Lit.int .i64 x.f2).wf = true) ∧ ((Lit.int .i64 x.f3).wf = true)) → (Lit.int .i64 a1).wf = true → (Lit.int .i64 a2).wf = true → ∃ k, laws_FnExactPitchAt.f k l0 a1 a2 = some true := by
  intro l v t hl _ _ _
  refine Ev.rounds ?_
  simp only [laws_FnExactPitchAt.f]
  obtain ⟨r, hr, hb⟩ := szEventS_some l hl
  refine ev_val hr (ev_ite (fun _ => Ev.now _) (fun h => ?_))
  have hn := hb h
  have hm : (l.map cvEvent).length ≤ 1048576 := by rw [List.length_map]; exact hn
  have t1 := toEventS_ev l hn
  refine Ev.bind t1 (Ev.bind (specPitchAt_ev _ v t hm) (Ev.bind t1 (Ev.bind (implPitchAt_ev _ v t hm) (ev_pos (by trivial) ?_))))
  exact Ev.bind t1 (Ev.bind (eqEventS_ev _ hm) (ev_pos (by trivial) (Ev.now _)))
end Go.Proofs.Ytnaoogkklkhpnaa.Pure
