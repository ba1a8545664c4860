/-
Small laws on printed loops: an answer from some number of rounds on ('Ev'), reading at a split list, sums in range.
Conditions: none.
-/
import Derived.Test.YtcgkmcnfhobkiaaWWords
import Derived.Test.YtcgkmcnfhobkiaaWMore
namespace Go.Proofs.Ytcgkmcnfhobkiaa.Base
open Go.RowKit Go.Proofs.YtcgkmcnfhobkiaaW.PrintWords Go.Proofs.YtcgkmcnfhobkiaaW.PrintMore
set_option linter.unusedVariables false

theorem ev_pos {α : Type} {c : Prop} [Decidable c] {a b : Nat → Option α} {r : α} (h : c) (e : Ev a r) : Ev (fun k => if c then a k else b k) r := by
  simpa only [if_pos h] using e
theorem ev_neg {α : Type} {c : Prop} [Decidable c] {a b : Nat → Option α} {r : α} (h : ¬ c) (e : Ev b r) : Ev (fun k => if c then a k else b k) r := by
  simpa only [if_neg h] using e
theorem ev_ite {α : Type} {c : Prop} [Decidable c] {a b : Nat → Option α} {r : α} (h1 : c → Ev a r) (h2 : ¬ c → Ev b r) : Ev (fun k => if c then a k else b k) r := by
  by_cases h : c
  · exact ev_pos h (h1 h)
  · exact ev_neg h (h2 h)
theorem ev_val {α β : Type} {g : Option α} {f : Nat → α → Option β} {a : α} {r : β} (h : g = some a) (e : Ev (fun k => f k a) r) : Ev (fun k => g.bind (f k)) r := by
  simpa only [h, Option.bind_some] using e
theorem ev_tail {α : Type} {g : Nat → Option α} {r : α} (e : Ev (fun k => g (k + 1)) r) : Ev g r := Ev.step (fun _ => rfl) e
theorem ev_const {α : Type} {g : Option α} {r : α} (h : g = some r) : Ev (fun _ => g) r := ⟨0, fun _ _ => h⟩
theorem ev_eq {α : Type} {g : Nat → Option α} {r r' : α} (h : Ev g r) (e : r = r') : Ev g r' := e ▸ h
theorem ev_unique {α : Type} {g : Nat → Option α} {r r' : α} (h : Ev g r) (h' : Ev g r') : r = r' := by
  obtain ⟨K, h⟩ := h
  obtain ⟨K', h'⟩ := h'
  have a := h (max K K') (by omega)
  have b := h' (max K K') (by omega)
  rw [a] at b
  exact Option.some.inj b

/-- An int of Go's. -/
def I64 (n : Int) : Prop := -9223372036854775808 ≤ n ∧ n ≤ 9223372036854775807
theorem i64_wf {n : Int} (h : (Lit.int .i64 n).wf = true) : I64 n := by
  simp only [Lit.wf, IntKind.min, IntKind.max, IntKind.signed, IntKind.bits, Bool.and_eq_true, decide_eq_true_eq, if_true] at h
  unfold I64
  omega
theorem wrap_id {n : Int} (h1 : -9223372036854775808 ≤ n) (h2 : n ≤ 9223372036854775807) : wrap64 n = n := by
  unfold wrap64
  omega
theorem wrap_I64 (n : Int) : I64 (wrap64 n) := by
  unfold wrap64 I64
  omega
theorem wrap_succ {n : Nat} (h : n < 9223372036854775807) : wrap64 ((n : Int) + 1) = ((n + 1 : Nat) : Int) := by
  unfold wrap64
  omega
theorem wrap_pred {n : Nat} (h0 : 0 < n) (h : n < 9223372036854775807) : wrap64 ((n : Int) - 1) = ((n - 1 : Nat) : Int) := by
  unfold wrap64
  omega

theorem getD_mid {α : Type} (pre : List α) (x : α) (suf : List α) (d : α) : (pre ++ x :: suf).getD ((pre.length : Nat) : Int).toNat d = x := by
  simp [List.getD]
theorem rd_mid (pre : List Int) (x : Int) (suf : List Int) : rd (pre ++ x :: suf) ((pre.length : Nat) : Int) = x := getD_mid pre x suf 0
theorem rd_nat (xs : List Int) (i : Nat) : rd xs (i : Int) = xs.getD i 0 := by simp [rd]
theorem set_mid {α : Type} (pre : List α) (x y : α) (suf : List α) : (pre ++ x :: suf).set ((pre.length : Nat) : Int).toNat y = pre ++ y :: suf := by
  simp
theorem snoc_cons {α : Type} (pre : List α) (x : α) (suf : List α) : pre ++ x :: suf = (pre ++ [x]) ++ suf := by simp
theorem length_snoc {α : Type} (pre : List α) (x : α) : (pre ++ [x]).length = pre.length + 1 := by simp
theorem replicate_app {α : Type} (a b : Nat) (x : α) : List.replicate (a + b) x = List.replicate a x ++ List.replicate b x := by simp
theorem mx_eq (a b : Int) : mx a b = max a b := by unfold mx; omega
theorem mn_eq (a b : Int) : mn a b = min a b := by unfold mn; omega

/-- A test at every index from i on, d of them; fin behind the last. -/
def allF (c : Int → Bool) (fin : Bool) : Nat → Nat → Bool
  | 0, _ => fin
  | d + 1, i => c (i : Int) && allF c fin d (i + 1)
theorem allF_iff (c : Int → Bool) (fin : Bool) (d : Nat) : ∀ i, allF c fin d i = true ↔ fin = true ∧ ∀ j : Nat, i ≤ j → j < i + d → c (j : Int) = true := by
  induction d with
  | zero =>
    intro i
    simp only [allF]
    exact ⟨fun h => ⟨h, fun j h1 h2 => by omega⟩, fun h => h.1⟩
  | succ d ih =>
    intro i
    simp only [allF, Bool.and_eq_true, ih]
    constructor
    · rintro ⟨h0, h1, h2⟩
      refine ⟨h1, fun j hj hd => ?_⟩
      rcases Nat.lt_or_ge i j with h | h
      · exact h2 j h (by omega)
      · have : j = i := by omega
        subst this; exact h0
    · rintro ⟨h1, h2⟩
      exact ⟨h2 i (Nat.le_refl _) (by omega), h1, fun j hj hd => h2 j (by omega) (by omega)⟩
theorem ev_all_from {L : Nat → Int → Option Bool} {c : Int → Bool} {fin : Bool} {n s : Nat}
    (hstep : ∀ i : Nat, s ≤ i → i < n → (c (i : Int) = true → ∀ r, Ev (fun k => L k ((i : Int) + 1)) r → Ev (fun k => L k (i : Int)) r) ∧ (c (i : Int) = false → Ev (fun k => L k (i : Int)) false))
    (hfin : Ev (fun k => L k (n : Int)) fin) : ∀ d i : Nat, s ≤ i → i + d = n → Ev (fun k => L k (i : Int)) (allF c fin d i) := by
  intro d
  induction d with
  | zero =>
    intro i hs h
    obtain rfl : i = n := by omega
    exact hfin
  | succ d ih =>
    intro i hs h
    have e := ih (i + 1) (by omega) (by omega)
    obtain ⟨h1, h2⟩ := hstep i hs (by omega)
    cases hc : c (i : Int) with
    | true =>
      simp only [allF, hc, Bool.true_and]
      exact h1 hc _ (by simpa using e)
    | false =>
      simp only [allF, hc, Bool.false_and]
      exact h2 hc
theorem ev_all {L : Nat → Int → Option Bool} {c : Int → Bool} {fin : Bool} {n : Nat}
    (hstep : ∀ i : Nat, i < n → (c (i : Int) = true → ∀ r, Ev (fun k => L k ((i : Int) + 1)) r → Ev (fun k => L k (i : Int)) r) ∧ (c (i : Int) = false → Ev (fun k => L k (i : Int)) false))
    (hfin : Ev (fun k => L k (n : Int)) fin) : ∀ d i : Nat, i + d = n → Ev (fun k => L k (i : Int)) (allF c fin d i) :=
  fun d i h => ev_all_from (s := 0) (fun i _ hi => hstep i hi) hfin d i (Nat.zero_le _) h

/-- Rows of tests, one behind the other: n2 tests from s2 on for each of d rows from i on. -/
def allG (c : Int → Int → Bool) (n2 s2 : Nat) : Nat → Nat → Bool
  | 0, _ => true
  | d + 1, i => allF (c (i : Int)) (allG c n2 s2 d (i + 1)) n2 s2
theorem allG_iff (c : Int → Int → Bool) (n2 s2 d : Nat) : ∀ i, allG c n2 s2 d i = true ↔ ∀ a : Nat, i ≤ a → a < i + d → ∀ b : Nat, s2 ≤ b → b < s2 + n2 → c (a : Int) (b : Int) = true := by
  induction d with
  | zero => intro i; simp only [allG]; exact ⟨fun _ a h1 h2 => by omega, fun _ => trivial⟩
  | succ d ih =>
    intro i
    simp only [allG]
    rw [allF_iff, ih]
    constructor
    · rintro ⟨h1, h2⟩ a ha hd b hb hb'
      rcases Nat.lt_or_ge i a with h | h
      · exact h1 a h (by omega) b hb hb'
      · have : a = i := by omega
        subst this; exact h2 b hb hb'
    · intro h
      exact ⟨fun a ha hd => h a (by omega) (by omega), fun b hb hb' => h i (Nat.le_refl _) (by omega) b hb hb'⟩

/-- What a loop collects from i on, d rounds. -/
def colM {α : Type} (g : Int → Option α) : Nat → Nat → List α
  | 0, _ => []
  | d + 1, i => (g (i : Int)).toList ++ colM g d (i + 1)
theorem toList_le {α : Type} (o : Option α) : o.toList.length ≤ 1 := by cases o <;> simp
theorem ev_col {α R : Type} {L : Nat → List α → Int → Option R} {g : Int → Option α} {fin : List α → R} {n s : Nat}
    (hstep : ∀ (i : Nat) (out : List α), s ≤ i → i < n → out.length ≤ i → ∀ r, Ev (fun k => L k (out ++ (g (i : Int)).toList) ((i : Int) + 1)) r → Ev (fun k => L k out (i : Int)) r)
    (hfin : ∀ out : List α, Ev (fun k => L k out (n : Int)) (fin out)) : ∀ (d i : Nat) (out : List α), s ≤ i → i + d = n → out.length ≤ i → Ev (fun k => L k out (i : Int)) (fin (out ++ colM g d i)) := by
  intro d
  induction d with
  | zero =>
    intro i out hs h ho
    obtain rfl : i = n := by omega
    simpa [colM] using hfin out
  | succ d ih =>
    intro i out hs h ho
    have hl := toList_le (g (i : Int))
    have e := ih (i + 1) (out ++ (g (i : Int)).toList) (by omega) (by omega) (by rw [List.length_append]; omega)
    refine hstep i out hs (by omega) ho _ ?_
    rw [List.append_assoc] at e
    simpa [colM] using e
theorem colM_drop {α β : Type} (h : β → Option α) (z : β) (l : List β) (d : Nat) : ∀ i, i + d = l.length → colM (fun j => h (l.getD j.toNat z)) d i = (l.drop i).filterMap h := by
  induction d with
  | zero => intro i hi; rw [List.drop_of_length_le (by omega)]; rfl
  | succ d ih =>
    intro i hi
    have hlt : i < l.length := by omega
    have hg : l.getD i z = l[i] := by rw [List.getD_eq_getElem?_getD, List.getElem?_eq_getElem hlt, Option.getD_some]
    rw [List.drop_eq_getElem_cons hlt, List.filterMap_cons, ← ih (i + 1) (by omega)]
    simp only [colM, Int.toNat_natCast, hg]
    cases h l[i] <;> rfl
theorem colM_all {α β : Type} (h : β → Option α) (z : β) (l : List β) : colM (fun j => h (l.getD j.toNat z)) l.length 0 = l.filterMap h := by
  rw [colM_drop h z l l.length 0 (by omega), List.drop_zero]
/-- A loop that turns a state. -/
def foldM {σ : Type} (st : Int → σ → σ) : Nat → Nat → σ → σ
  | 0, _, s => s
  | d + 1, i, s => foldM st d (i + 1) (st (i : Int) s)
theorem ev_fold {σ R : Type} {L : Nat → σ → Int → Option R} {st : Int → σ → σ} {fin : σ → R} {n s0 : Nat} (I : Nat → σ → Prop)
    (hI : ∀ (i : Nat) (s : σ), s0 ≤ i → i < n → I i s → I (i + 1) (st (i : Int) s))
    (hstep : ∀ (i : Nat) (s : σ), s0 ≤ i → i < n → I i s → ∀ r, Ev (fun k => L k (st (i : Int) s) ((i : Int) + 1)) r → Ev (fun k => L k s (i : Int)) r)
    (hfin : ∀ s : σ, I n s → Ev (fun k => L k s (n : Int)) (fin s)) : ∀ (d i : Nat) (s : σ), s0 ≤ i → i + d = n → I i s → Ev (fun k => L k s (i : Int)) (fin (foldM st d i s)) := by
  intro d
  induction d with
  | zero =>
    intro i s hs h hi
    obtain rfl : i = n := by omega
    exact hfin s hi
  | succ d ih =>
    intro i s hs h hi
    have e := ih (i + 1) (st (i : Int) s) (by omega) (by omega) (hI i s hs (by omega) hi)
    exact hstep i s hs (by omega) hi _ (by simpa [foldM] using e)
theorem foldM_drop {σ β : Type} (f : β → σ → σ) (z : β) (l : List β) (d : Nat) : ∀ i s, i + d = l.length → foldM (fun j s => f (l.getD j.toNat z) s) d i s = (l.drop i).foldl (fun s x => f x s) s := by
  induction d with
  | zero => intro i s hi; rw [List.drop_of_length_le (by omega)]; rfl
  | succ d ih =>
    intro i s hi
    have hlt : i < l.length := by omega
    have hg : l.getD i z = l[i] := by rw [List.getD_eq_getElem?_getD, List.getElem?_eq_getElem hlt, Option.getD_some]
    rw [List.drop_eq_getElem_cons hlt, List.foldl_cons, ← ih (i + 1) _ (by omega)]
    simp only [foldM, Int.toNat_natCast, hg]
theorem foldM_all {σ β : Type} (f : β → σ → σ) (z : β) (l : List β) (s : σ) : foldM (fun j s => f (l.getD j.toNat z) s) l.length 0 s = l.foldl (fun s x => f x s) s := by
  rw [foldM_drop f z l l.length 0 s (by omega), List.drop_zero]

/-- The marks that a law lays: k, k + 1, .. -/
def marks : Nat → Int → List Int
  | 0, _ => []
  | n + 1, k => k :: marks n (k + 1)
theorem marks_length (n : Nat) (k : Int) : (marks n k).length = n := by
  induction n generalizing k with
  | zero => rfl
  | succ n ih => simp [marks, ih]
end Go.Proofs.Ytcgkmcnfhobkiaa.Base
