-- Written for this claim by a program of this repository (wip/tools/print2.py), out of the translation; Lean checks it.
import Derived.Test.YtpdhhpgdjbeaeaaPFnExactIsOfKeyx0
import Derived.Test.YtpdhhpgdjbeaeaaPFnExactIsOfKeyx1
import Derived.Test.YtpdhhpgdjbeaeaaPFnExactIsOfKeyx4
namespace Go.Proofs.Ytpdhhpgdjbeaeaa.PFnExactIsOfKey
open Go.RowKit Go.Proofs.YtpdhhpgdjbeaeaaW.PrintWords Go.Proofs.YtpdhhpgdjbeaeaaW.PrintLast Go.Proofs.YtpdhhpgdjbeaeaaW.PrintMore
attribute [local go_sem] max2_int min2_int max_two min_two max_three min_three max_four min_four   -- for this text's walks alone
set_option linter.unusedVariables false
set_option linter.unusedSimpArgs false
-- SHORT
theorem q6_5 {p : Prop} (f : p := by repeat (first | (with_reducible first | exact HB.out | apply below_alloc | apply pw_below_drewN | apply below_drew1) | exact HB.out)) : p := f
theorem q4_5 {p : Prop} (f : p := by repeat (first | (with_reducible first | exact HB.out | apply below_alloc | apply pw_below_drewN | apply below_drew1 | refine below_set ?_ q7.out) | exact HB.out)) : p := f
theorem q0_5 {p : Prop} (h : p) : Aside0 p := ⟨h⟩
/-! ### impl_IsOfKey: function 22 -/
def scaleL : List Int := [0, 2, 4, 5, 7, 9, 11]
theorem mod12_some (x : Int) : ∃ m, impl_Mod.f x 12 = some m := by
 unfold impl_Mod.f impl_InRange.f; exact ⟨_, by simp; rfl⟩
def tonicM (a0 : Int) : Int := (impl_TonicOf.f a0).getD 0
theorem tonic_some (a0 : Int) : impl_TonicOf.f a0 = some (tonicM a0) := by
 unfold tonicM
 have : ∃ m, impl_TonicOf.f a0 = some m := by
  obtain ⟨m, hm⟩ := mod12_some (wrap64 (7 * a0)); unfold impl_TonicOf.f impl_IsKey.f impl_InRange.f; rw [hm]
  by_cases h1 : -7 ≤ a0 <;> by_cases h2 : a0 ≤ 7 <;> exact ⟨_, by simp [h1, h2]; rfl⟩
 obtain ⟨m, hm⟩ := this; rw [hm]; rfl
theorem index_some (l : List Int) (v : Int) (hl : l.length ≤ 1000) (d : Nat) : ∀ i : Nat, i + d = l.length → ∃ b, slices_Index_int_int.l0 (d + 1) l v (l.length : Int) (i : Int) = some b := by
 induction d with
 | zero =>
  intro i hi; simp only [slices_Index_int_int.l0]; rw [if_neg (by omega)]; exact ⟨_, rfl⟩
 | succ d ih =>
  intro i hi; obtain ⟨b, hb⟩ := ih (i + 1) (by omega); simp only [slices_Index_int_int.l0]; rw [if_pos (by omega), if_pos (by omega), if_pos (by omega)]
  by_cases e : v = rd l (i : Int)
  · rw [if_pos e]; exact ⟨_, rfl⟩
  · rw [if_neg e, show wrap64 ((i : Int) + 1) = ((i + 1 : Nat) : Int) by unfold wrap64; omega]
    exact ⟨b, by simpa only [slices_Index_int_int.l0] using hb⟩
theorem cont_some (m : Int) : ∃ b, slices_Contains_int_int.f 8 scaleL m = some b := by
 obtain ⟨b, hb⟩ := index_some scaleL m (by decide) 7 0 rfl; unfold slices_Contains_int_int.f slices_Index_int_int.f; exact ⟨_, by rw [show (0 : Int) = ((0 : Nat) : Int) from rfl, hb]; rfl⟩
def modM (x : Int) : Int := (impl_Mod.f x 12).getD 0
theorem modM_some (x : Int) : impl_Mod.f x 12 = some (modM x) := by
 obtain ⟨m, hm⟩ := mod12_some x; unfold modM; rw [hm]; rfl
def inScale (a0 c : Int) : Bool := (slices_Contains_int_int.f 8 scaleL (modM (wrap64 (c - tonicM a0)))).getD false
theorem inScale_some (a0 c : Int) : slices_Contains_int_int.f 8 scaleL (modM (wrap64 (c - tonicM a0))) = some (inScale a0 c) := by
 obtain ⟨b, hb⟩ := cont_some (modM (wrap64 (c - tonicM a0))); unfold inScale; rw [hb]; rfl
def impl_IsOfKey.f (k : Nat) (a0 : Int) (a1_0 : Int) (a1_1 : Int) : Option (Bool) := (impl_IsKey.f a0).bind fun t => (if t = true then ((impl_IsChord.f a1_0 a1_1).bind fun u => (if u = true then ((impl_TonesOf.f k a1_0 a1_1).bind fun ts => (if ts.length ≤ 1000 then (some (!(ts.any fun c => !inScale a0 c))) else (none))) else (some false))) else (some false))
theorem impl_IsOfKey.mono : ∀ a0 a1 a2 k, LeO (impl_IsOfKey.f k a0 a1 a2) (impl_IsOfKey.f (k + 1) a0 a1 a2) := by
 (intro a0 a1 a2 k; unfold impl_IsOfKey.f)
 repeat' first
  | (with_reducible exact impl_TonesOf.mono _ _ _)
  | (with_reducible exact LeO.refl _)
  | (with_reducible exact LeO.none _)
  | (with_reducible refine LeO.ite ?_ ?_)
  | (with_reducible refine LeO.bind ?_ (fun _ => ?_))
set_option maxHeartbeats 8000000 in
theorem isofkey_1 (a0 c : Int) (B : Nat) (W : World) (hB : B < W.heap.size) (hc : W.cell? ⟨B, 0, none⟩ = some (.int .i64 a0)) :
 Calls Try.prog 48 #[.int .i64 c, .pointer (some ⟨B, 0, none⟩)] W fun e w' => e = .returned (.bool (!inScale a0 c)) ∧ Below W.heap.size W w' := by
 have h1 := fun w => impl_scale.calls scaleL w rfl
 have h2 := fun w => impl_TonicOf.calls a0 _ w (tonic_some a0)
 have h3 := fun w => impl_Mod.calls (wrap64 (c - tonicM a0)) 12 _ w (modM_some _)
 have h4 := inScale_some a0 c; generalize inScale a0 c = b at h4 ⊢; generalize modM (wrap64 (c - tonicM a0)) = m at h3 h4; go_enter Try.func48, Try.ntmps48; (go_wp2); refine start_ (n := 9) (S := fun w' => w'.cell? ⟨B, 0, none⟩ = some (.int .i64 a0)) (ds := []) (bq 0 9) (by kernel_rfl) rfl rfl hc (fun hHeld => ?_); refine pure_ (i := 1) (N := some 5) (v := ?_) (a' := ?_) (bq 2 9) rfl rfl (by kernel_rfl) (fun _ _ _ h => h) (Or.inl ⟨by rfl, ?_⟩) ?_ ?_; rotate_left; (intro w'; go_simp; with_reducible rfl); rotate_left; (exact pb); refine take_ (i := 2) (N := some 6) (v := ?_) (a' := ?_) (bq 6 9) rfl rfl (by kernel_rfl) (fun _ _ _ h => h) (Or.inl ⟨by rfl, ?_⟩) hHeld ?_ ?_; rotate_left; (intro w' s0; go_simp; with_reducible rfl); rotate_left; (exact pb); refine one_ (i := 0) (N := some 4) (bq 7 9) rfl rfl (by kernel_rfl) (by decide) (fun K hK => ?_); refine goes_ Try.func50 (by kernel_rfl) rfl #[] (by rfl) rfl rfl ma ?_; refine (h1 _).mono ?_; rintro e w2 ⟨v, rfl, hR, hb⟩; obtain ⟨A, cc, rfl, hlc, hC⟩ := Kd.R_reads hR; refine ⟨_, rfl, ?_⟩; refine hK.out _ _ ((hb.cell (p := ⟨B, 0, none⟩) hB).trans hc) (fun hHeld => ?_); clear hK K; refine norm_ (a' := ?_) ?_ ?_; rotate_left; (show Act.put _ (some 4) _ = _; simp only [Act.put, List.setIfInBounds_toArray, List.set_cons_zero, List.set_cons_succ, i64_w, i32_w]; rfl); refine one_ (i := 3) (N := some 7) (bq 15 9) rfl rfl (by kernel_rfl) (by decide) (fun K hK => ?_); refine goes_ Try.func51 (by kernel_rfl) rfl #[.int .i64 a0] (by rfl) rfl rfl ma ?_; refine (h2 _).mono ?_; rintro e w' ⟨rfl, ⟨q, rfl⟩⟩; refine ⟨_, rfl, ?_⟩; refine hK.out _ _ hHeld (fun hHeld => ?_); clear hK K; refine norm_ (a' := ?_) ?_ ?_; rotate_left; (show Act.put _ (some 7) _ = _; simp only [Act.put, List.setIfInBounds_toArray, List.set_cons_zero, List.set_cons_succ, i64_w, i32_w]; rfl); refine pure_ (i := 4) (N := some 8) (v := ?_) (a' := ?_) (bq 31 9) rfl rfl (by kernel_rfl) (fun _ _ _ h => h) (Or.inl ⟨by rfl, ?_⟩) ?_ ?_; rotate_left; (intro w'; go_simp; with_reducible rfl); rotate_left; (exact pb); refine one_ (i := 5) (N := some 9) (bq 63 9) rfl rfl (by kernel_rfl) (by decide) (fun K hK => ?_); refine goes_ Try.func36 (by kernel_rfl) rfl #[.int .i64 (wrap64 (c - tonicM a0)), .int .i64 12] (by rfl) rfl rfl ma ?_; refine (h3 _).mono ?_; rintro e w' ⟨rfl, ⟨q2, rfl⟩⟩; refine ⟨_, rfl, ?_⟩; refine hK.out _ _ hHeld (fun hHeld => ?_); clear hK K; refine norm_ (a' := ?_) ?_ ?_; rotate_left; (show Act.put _ (some 9) _ = _; simp only [Act.put, List.setIfInBounds_toArray, List.set_cons_zero, List.set_cons_succ, i64_w, i32_w]; rfl)
 refine one_ (i := 6) (N := some 10) (bq 127 9) rfl rfl (by kernel_rfl) (by decide) (fun K hK => ?_); refine goes_ Try.func49 (by kernel_rfl) rfl #[.slice A scaleL.length cc, .int .i64 m] (by rfl) rfl rfl ma ?_; refine (slices_Contains_int_int.calls 8 A cc scaleL m b _ (Kd.C_drewN (Kd.C_drewN hC _) _) hlc h4).mono ?_; rintro e w' ⟨rfl, ⟨q3, rfl⟩⟩; refine ⟨_, rfl, ?_⟩; refine hK.out _ _ hHeld (fun hHeld => ?_); clear hK K; refine norm_ (a' := ?_) ?_ ?_; rotate_left; (show Act.put _ (some 10) _ = _; simp only [Act.put, List.setIfInBounds_toArray, List.set_cons_zero, List.set_cons_succ, i64_w, i32_w]; rfl); refine pure_ (i := 7) (N := some 11) (v := ?_) (a' := ?_) (bq 255 9) rfl rfl (by kernel_rfl) (fun _ _ _ h => h) (Or.inl ⟨by rfl, ?_⟩) ?_ ?_; rotate_left; (intro w'; go_simp; with_reducible rfl); rotate_left; (exact pb); refine pure_ (i := 8) (N := some 3) (v := ?_) (a' := ?_) (bq 511 9) rfl rfl (by kernel_rfl) (fun _ _ _ h => h) (Or.inl ⟨by rfl, ?_⟩) ?_ ?_; rotate_left; (intro w'; go_simp; with_reducible rfl); rotate_left; (exact pb); refine done_ (by kernel_rfl) ?_; (go_wp2); go_ret; exact ⟨rfl, pw_below_drewN (pw_below_drewN (pw_below_drewN ((below_drew1 (Below.refl _ _)).trans hb) _) _) _⟩
theorem isofkey_pred (a0 : Int) (B : Nat) (w3 : World) (hB : B < w3.heap.size) (hc : w3.cell? ⟨B, 0, none⟩ = some (.int .i64 a0)) : PredBelow Try.prog 48 #[.pointer (some ⟨B, 0, none⟩)] (Value.int .i64) (fun c => !inScale a0 c) w3 := by
 intro W x hW; refine (isofkey_1 a0 x B W (Nat.lt_of_lt_of_le hB hW.size) ((hW.cell (p := ⟨B, 0, none⟩) hB).trans hc)).mono ?_; rintro e w' ⟨rfl, hb⟩; exact ⟨rfl, hW.trans (hb.mono hW.size)⟩
theorem isofkey_cell {w3 : World} {g : Nat} {ts : List Int} (hC : Kd.C (Kd.int .i64) w3 (some ⟨g, 0, none⟩) ts.length ts) (j : Nat) (hj : j < ts.length) : w3.cell? ⟨g, 0 + j, none⟩ = some (.int .i64 ts[j]!) := by
 obtain ⟨ad, e, hx⟩ := Kd.at_int hC (j : Int) (by omega) (by omega); obtain rfl := Option.some.inj e; rw [Int.toNat_natCast] at hx; (have e1 : ((⟨g, 0, none⟩ : Addr).add j) = ⟨g, j, none⟩ := by unfold Addr.add; by_cases h0 : j = 0 <;> simp [h0]); rw [e1] at hx; rw [Nat.zero_add, hx, getElem!_pos ts j hj]; (simp [rd, List.getD, hj])
theorem isofkey_box {w : World} (o1 o2 : Obj) (nd : Nat) : Below w.heap.size w (((w.alloc o1).alloc o2).drewN nd) := pw_below_drewN (below_alloc (below_alloc (Below.refl _ _) _) _) _
theorem isofkey_size {w : World} (o1 o2 : Obj) (nd : Nat) : (((w.alloc o1).alloc o2).drewN nd).heap.size = w.heap.size + 2 := by show ((w.heap.push o1).push o2).size = _; rw [Array.size_push, Array.size_push]
theorem isofkey_bx {w w2 : World} (o1 o2 : Obj) (nd : Nat) (hb : Below (((w.alloc o1).alloc o2).drewN nd).heap.size (((w.alloc o1).alloc o2).drewN nd) w2) : Below w.heap.size w w2 := (isofkey_box o1 o2 nd).trans (hb.mono (by rw [isofkey_size]; omega))
theorem isofkey_c1 {w w2 : World} (v : Value) (t : TypeId) (o2 : Obj) (nd : Nat) (hb : Below (((w.alloc (.cells #[v] t)).alloc o2).drewN nd).heap.size (((w.alloc (.cells #[v] t)).alloc o2).drewN nd) w2) : w2.cell? ⟨w.heap.size, 0, none⟩ = some v := by
 rw [hb.cell (p := ⟨w.heap.size, 0, none⟩) (by rw [isofkey_size]; show w.heap.size < w.heap.size + 2; omega)]; (have h1 : (w.alloc (.cells #[v] t)).cell? ⟨w.heap.size, 0, none⟩ = some v := by simp only [World.cell?, heap_alloc_new]; rfl); exact ((below_alloc (Below.refl (w.alloc (.cells #[v] t)).heap.size _) o2).cell (p := ⟨w.heap.size, 0, none⟩) (by show w.heap.size < (w.heap.push _).size; rw [Array.size_push]; omega)).trans h1
theorem isofkey_c2 {w w2 : World} (o1 : Obj) (v0 v1 : Value) (t : TypeId) (nd : Nat) (hb : Below (((w.alloc o1).alloc (.cells #[v0, v1] t)).drewN nd).heap.size (((w.alloc o1).alloc (.cells #[v0, v1] t)).drewN nd) w2) : w2.cell? ⟨w.heap.size + 1, 0, none⟩ = some v0 ∧ w2.cell? ⟨w.heap.size + 1, 1, none⟩ = some v1 := by
 have hs : (w.alloc o1).heap.size = w.heap.size + 1 := by show (w.heap.push o1).size = _; rw [Array.size_push]
 have h1 : ((w.alloc o1).alloc (.cells #[v0, v1] t)).heap[w.heap.size + 1]? = some (.cells #[v0, v1] t (0, 0)) := by rw [← hs]; exact heap_alloc_new _ _
 (constructor); (rw [hb.cell (p := ⟨w.heap.size + 1, 0, none⟩) (by rw [isofkey_size]; show w.heap.size + 1 < w.heap.size + 2; omega)]; (show World.cell? ((w.alloc o1).alloc (.cells #[v0, v1] t)) _ = _); (simp only [World.cell?, h1]; rfl)); (rw [hb.cell (p := ⟨w.heap.size + 1, 1, none⟩) (by rw [isofkey_size]; show w.heap.size + 1 < w.heap.size + 2; omega)]; (show World.cell? ((w.alloc o1).alloc (.cells #[v0, v1] t)) _ = _); (simp only [World.cell?, h1]; rfl))
set_option maxHeartbeats 8000000 in
theorem impl_IsOfKey.calls (k : Nat) (a0 : Int) (a1_0 : Int) (a1_1 : Int) (r : Bool) (w : World) (h : impl_IsOfKey.f k a0 a1_0 a1_1 = some r) :
 Calls Try.prog 22 #[.int .i64 a0, .agg #[.int .i64 a1_0, .int .i64 a1_1]] w fun e w' => e = .returned (.bool r) ∧ Below w.heap.size w w' := by
 unfold impl_IsOfKey.f at h; obtain ⟨t, ht, h⟩ := Option.bind_eq_some_iff.1 h
 cases t with
 | false =>
  rw [if_neg (by simp)] at h; obtain rfl := Option.some.inj h; go_enter Try.func22, Try.ntmps22; (go_wp2_with (go_at_call 46; refine (impl_IsKey.calls a0 false _ ht).mono ?_; rintro e w' ⟨rfl, ⟨nd, rfl⟩⟩)); go_ret; exact ⟨rfl, isofkey_box _ _ _⟩
 | true =>
  rw [if_pos rfl] at h; obtain ⟨u, hu, h⟩ := Option.bind_eq_some_iff.1 h
  cases u with
  | false =>
   rw [if_neg (by simp)] at h; obtain rfl := Option.some.inj h; go_enter Try.func22, Try.ntmps22; (go_wp2_with (first | (go_at_call 46; refine (impl_IsKey.calls a0 true _ ht).mono ?_; rintro e w' ⟨rfl, ⟨nd, rfl⟩⟩) | (go_at_call 41; refine (impl_IsChord.calls a1_0 a1_1 false _ hu).mono ?_; rintro e w2 ⟨rfl, hb⟩))); go_ret; exact ⟨rfl, isofkey_bx _ _ _ hb⟩
  | true =>
   rw [if_pos rfl] at h; obtain ⟨ts, hts, h⟩ := Option.bind_eq_some_iff.1 h
   by_cases hl : ts.length ≤ 1000
   · rw [if_pos hl] at h
     obtain rfl := Option.some.inj h
     by_cases h0 : ts.length = 0
     · obtain rfl := List.length_eq_zero_iff.1 h0
       go_enter Try.func22, Try.ntmps22; (go_wp2_with (first | (go_at_call 46; refine (impl_IsKey.calls a0 true _ ht).mono ?_; rintro e w' ⟨rfl, ⟨nd, rfl⟩⟩) | (go_at_call 41; refine (impl_IsChord.calls a1_0 a1_1 true _ hu).mono ?_; rintro e w2 ⟨rfl, hb⟩; have hB2 := isofkey_bx _ _ _ hb; obtain ⟨hx0, hx1⟩ := isofkey_c2 _ _ _ _ _ hb) | (go_at_call 17; refine (impl_TonesOf.calls k a1_0 a1_1 [] _ hts).mono ?_; rintro e w3 ⟨v, rfl, hR, hb3⟩; obtain ⟨A, cc, rfl, hlc, hC⟩ := Kd.R_reads hR) | (go_at_call 47; refine (AnyB.any0 A cc _ _).mono ?_; rintro e w4 ⟨rfl, rfl⟩))); go_ret; exact ⟨rfl, hB2.trans (hb3.mono hB2.size)⟩
     · have eg : ∀ args w, (callFunc 48 args).run Try.prog w = .ok (.enter 48 args) w := enters_of Try.func48 (by kernel_rfl) rfl
       go_enter Try.func22, Try.ntmps22; (go_wp2_with (first | (go_at_call 46; refine (impl_IsKey.calls a0 true _ ht).mono ?_; rintro e w' ⟨rfl, ⟨nd, rfl⟩⟩) | (go_at_call 41; refine (impl_IsChord.calls a1_0 a1_1 true _ hu).mono ?_; rintro e w2 ⟨rfl, hb⟩; have hB2 := isofkey_bx _ _ _ hb; have hk2 := isofkey_c1 _ _ _ _ hb; have hs2 := hb.size; rw [isofkey_size] at hs2; obtain ⟨hx0, hx1⟩ := isofkey_c2 _ _ _ _ _ hb) | (go_at_call 17; refine (impl_TonesOf.calls k a1_0 a1_1 ts _ hts).mono ?_; rintro e w3 ⟨v, rfl, hR, hb3⟩; obtain ⟨g, cc, rfl, hbg, hgw, hcells⟩ := Kd.R_form hR (Nat.pos_of_ne_zero h0); have hany := AnyB.any (fun c => !inScale a0 c) 48 #[.pointer (some ⟨w.heap.size, 0, none⟩)] eg g 0 ts.length cc ts w3 (isofkey_pred a0 w.heap.size w3 (Nat.lt_of_lt_of_le (Nat.lt_of_lt_of_le (Nat.lt_add_of_pos_right (by decide)) hs2) hb3.size) ((hb3.cell (p := ⟨w.heap.size, 0, none⟩) (Nat.lt_of_lt_of_le (Nat.lt_add_of_pos_right (by decide)) hs2)).trans hk2)) (Nat.le_refl _) (Nat.le_trans hl (by decide)) hgw (fun j hj => isofkey_cell (Kd.R_reads' hR).2.2 j hj); rw [List.take_length] at hany) | (go_at_call 47; refine hany.mono ?_; rintro e w4 ⟨rfl, hb4⟩))); go_ret; exact ⟨rfl, (hB2.trans (hb3.mono hB2.size)).trans (hb4.mono (Nat.le_trans hB2.size hb3.size))⟩
   · rw [if_neg hl] at h; cases h
/-! ### laws_FnExactIsOfKey: function 6 -/
def laws_FnExactIsOfKey.f (k : Nat) (a0 : Int) (a1_0 : Int) (a1_1 : Int) : Option (Bool) := (laws_toChord.f a1_0 a1_1).bind fun bt277 => ((spec_IsOfKey.f k a0 bt277.1 bt277.2).bind fun t279 => ((laws_toChord.f a1_0 a1_1).bind fun bt280 => ((impl_IsOfKey.f k a0 bt280.1 bt280.2).bind fun t282 => (if (t282 != t279) = true then (some false) else (some true)))))
theorem laws_FnExactIsOfKey.mono : ∀ a0 a1 a2 k, LeO (laws_FnExactIsOfKey.f k a0 a1 a2) (laws_FnExactIsOfKey.f (k + 1) a0 a1 a2) := by
 intro a0 a1 a2 k; unfold laws_FnExactIsOfKey.f
 repeat' first
  | (with_reducible exact impl_IsOfKey.mono _ _ _ _)
  | (with_reducible exact spec_IsOfKey.mono _ _ _ _)
  | (with_reducible exact LeO.refl _)
  | (with_reducible exact LeO.none _)
  | (with_reducible refine LeO.ite ?_ ?_)
  | (with_reducible refine LeO.bind ?_ (fun _ => ?_))
  | exact impl_IsOfKey.mono _ _ _ _
  | exact spec_IsOfKey.mono _ _ _ _
  | exact LeO.none _
  | refine LeO.ite ?_ ?_
  | refine LeO.bind ?_ (fun _ => ?_)
set_option maxHeartbeats 8000000 in
set_option maxRecDepth 100000 in
theorem laws_FnExactIsOfKey.calls_true (k : Nat) (a0 : Int) (a1_0 : Int) (a1_1 : Int) (w : World) (h : laws_FnExactIsOfKey.f k a0 a1_0 a1_1 = some true) :
 Calls Try.prog 6 #[.int .i64 a0, .agg #[.int .i64 a1_0, .int .i64 a1_1]] w fun e w' => e = .returned (.bool true) ∧ Below w.heap.size w w' := by
 have hu28 := Try.underlying28; have HB := q0_5 (Below.refl w.heap.size w); (have H : ((laws_toChord.f a1_0 a1_1).bind fun bt277 => ((spec_IsOfKey.f k a0 bt277.1 bt277.2).bind fun t279 => ((laws_toChord.f a1_0 a1_1).bind fun bt280 => ((impl_IsOfKey.f k a0 bt280.1 bt280.2).bind fun t282 => (if (t282 != t279) = true then (some false) else (some true)))))) = some true := h); clear h; replace H := Option.bind_eq_some_iff.mp H; obtain ⟨⟨t277, t278⟩, A30, H⟩ := H; (try dsimp only at H); have A3 := q0_5 A30; clear A30; replace H := Option.bind_eq_some_iff.mp H; obtain ⟨t279, A40, H⟩ := H; (try dsimp only at H); have A4 := q0_5 A40; clear A40; replace H := Option.bind_eq_some_iff.mp H; obtain ⟨⟨t280, t281⟩, A50, H⟩ := H; (try dsimp only at H); have A5 := q0_5 A50; clear A50; replace H := Option.bind_eq_some_iff.mp H; obtain ⟨t282, A60, H⟩ := H; (try dsimp only at H); have A6 := q0_5 A60; clear A60
 by_cases c7 : (t282 != t279) = true
 · rw [if_pos c7] at H
   (have c7b0 : (t282 != t279) = true := c7); ((try (have c7b1 : decide (t282 = t279) = false := by simpa using c7))); ((try (have c7b2 : (t282 == t279) = false := by simpa using c7))); ((try (have c7b3 : ¬ (t282 = t279) := by simpa using c7))); clear c7; exact absurd H (by simp)
 · rw [if_neg c7] at H
   have c7b0 : (t282 != t279) = false := by simpa using c7
   ((try (have c7b1 : decide (t282 = t279) = true := by simpa using c7))); ((try (have c7b2 : (t282 == t279) = true := by simpa using c7))); clear c7 H; go_enter Try.func6, Try.ntmps6
   (go_wp2_with (first | ((with_reducible refine gate_dst (N := 3) rfl ?_); refine box_event ?hg (N := 3) ?hd (cs := #[.int .i64 a1_0, .int .i64 a1_1]) (t := 28) ?hr ?_; (case hd => rfl); (case hg => rfl); (case hr => first | (go_simp; done) | (go_simp; rfl)); intro q5 hg w15 hbox hb; have n0_ := q0_5 (below_step (q6_5) hb); have n1_ := q0_5 (hbox); have n2_ := q0_5 ((by rw [hg]; exact (below_size (q6_5)) : w.heap.size ≤ q5)); have n3_ := q0_5 ((by rw [hg]; exact (below_size (q6_5)) : w.heap.size ≤ q5)); clear HB; have HB := n0_; have q1 := n1_; have GW276 := n2_; have q7 := n3_; clear n0_ n1_ n2_ n3_; clear hb hbox hg; have hcz16_0 : w15.cell? ⟨q5, 0, none⟩ = some (.int .i64 a1_0) := (blk_cell q1.out 0).trans rfl; have hcz16_1 : w15.cell? ⟨q5, 1, none⟩ = some (.int .i64 a1_1) := (blk_cell q1.out 1).trans rfl; have hfz16_0 := blk_frozen q1.out 0; have hfz16_1 := blk_frozen q1.out 1) | ((with_reducible refine gate_callee (f := 16) rfl ?_); refine goesL_ (some 9) rfl rfl Try.func16 (by kernel_rfl) rfl #[.agg #[.int .i64 a1_0, .int .i64 a1_1]] rfl ma ?_; (with_reducible refine (laws_toChord.calls a1_0 a1_1 t277 t278 _ A3.out).mono ?_); rintro e w17 ⟨rfl, hb⟩; refine ⟨_, rfl, ?_⟩; have n0_ := q0_5 (bb q1.out hb); have n1_ := q0_5 (below_step (q4_5) hb); clear q1; clear HB; have q1 := n0_; have HB := n1_; clear n0_ n1_; (try clear hb); (try clear hb2); (try clear hk); (try clear hi)) | ((with_reducible refine gate_callee (f := 21) rfl ?_); refine goesL_ (some 10) rfl rfl Try.func21 (by kernel_rfl) rfl #[.int .i64 a0, .agg #[.int .i64 t277, .int .i64 t278]] rfl ma ?_; (with_reducible refine (spec_IsOfKey.calls k a0 t277 t278 t279 _ A4.out).mono ?_); rintro e w18 ⟨rfl, hb⟩; refine ⟨_, rfl, ?_⟩; have n0_ := q0_5 (bb q1.out hb); have n1_ := q0_5 (below_step (q4_5) hb); clear q1; clear HB; have q1 := n0_; have HB := n1_; clear n0_ n1_; (try clear hb); (try clear hb2); (try clear hk); (try clear hi); have hcz19_0 : w18.cell? ⟨q5, 0, none⟩ = some (.int .i64 a1_0) := (blk_cell q1.out 0).trans rfl; have hcz19_1 : w18.cell? ⟨q5, 1, none⟩ = some (.int .i64 a1_1) := (blk_cell q1.out 1).trans rfl; have hfz19_0 := blk_frozen q1.out 0; have hfz19_1 := blk_frozen q1.out 1) | ((with_reducible refine gate_callee (f := 16) rfl ?_); refine goesL_ (some 13) rfl rfl Try.func16 (by kernel_rfl) rfl #[.agg #[.int .i64 a1_0, .int .i64 a1_1]] rfl ma ?_; (with_reducible refine (laws_toChord.calls a1_0 a1_1 t280 t281 _ A5.out).mono ?_); rintro e w20 ⟨rfl, hb⟩; refine ⟨_, rfl, ?_⟩; have n0_ := q0_5 (bb q1.out hb); have n1_ := q0_5 (below_step (q4_5) hb); clear q1; clear HB; have q1 := n0_; have HB := n1_; clear n0_ n1_; (try clear hb); (try clear hb2); (try clear hk); (try clear hi)) | ((with_reducible refine gate_callee (f := 22) rfl ?_); refine goesL_ (some 14) rfl rfl Try.func22 (by kernel_rfl) rfl #[.int .i64 a0, .agg #[.int .i64 t280, .int .i64 t281]] rfl ma ?_; (with_reducible refine (impl_IsOfKey.calls k a0 t280 t281 t282 _ A6.out).mono ?_); rintro e w21 ⟨rfl, hb⟩; refine ⟨_, rfl, ?_⟩; have n0_ := q0_5 (bb q1.out hb); have n1_ := q0_5 (below_step (q4_5) hb); clear q1; clear HB; have q1 := n0_; have HB := n1_; clear n0_ n1_; (try clear hb); (try clear hb2); (try clear hk); (try clear hi))))
   go_ret; (exact ⟨by first | rfl | (simp [errW_none, errW_some] <;> rfl) | (simp [*, errW_none, errW_some] <;> rfl), by exact (q4_5)⟩)
end Go.Proofs.Ytpdhhpgdjbeaeaa.PFnExactIsOfKey
