/-
slices.DeleteFunc at a struct of k cells, with a predicate that may lay blocks of its own: walked at this program.
Conditions: none.
-/
import Derived.Lib.OwnBridge
import Derived.Shelf.SlicesE.DeleteFunc
import Derived.Shelf.SlicesQ.IndexFunc
import Derived.Shelf.SlicesQ.Reverse
import Derived.Shelf.SlSortCmp.InsertionK
import Derived.Shelf.SlSortFuncK.RowK2
import Derived.Test.YtcgkmcnfhobkiaaProg
import Derived.Test.YtcgkmcnfhobkiaaLayIdxE
namespace Go.Proofs.Ytcgkmcnfhobkiaa.DelFunc
open Go.Shelf Go.RowKit Go.Lib Go.Sort Go.Proofs
variable {α : Type} [Inhabited α]

/-- What is asked of the predicate while the row is rewritten: it hands back 'p x'; it may draw and lay blocks. -/
def PredLays (P : Program) (g : Nat) (lb : Array Value) (enc : α → List Value) (k : Nat) (p : α → Bool) (blk off size : Nat) (w : World) : Prop :=
  ∀ (m : Nat) (os : Array Obj) (dk : Array α) (x : α), dk.size = size →
    Calls P g (#[.agg (enc x).toArray] ++ lb) (sortWorldK enc k w blk off m dk os) fun e w' => e = .returned (.bool (p x)) ∧ ∃ q os', w' = grow ((sortWorldK enc k w blk off m dk os).drewN q) os'

theorem flat_set (enc : α → List Value) (k : Nat) (hk : ∀ x, (enc x).length = k) (d : Array α) (i : Nat) (u : α) (hi : i < d.size) :
    setMany (flatK enc k d) (i * k) (enc u) = flatK enc k (d.setIfInBounds i u) := by
  refine ext_get! (by simp) fun t ht => ?_
  have ht' : t < d.size * k := by simpa using ht
  have k0 : 0 < k := by
    rcases Nat.eq_zero_or_pos k with h | h
    · subst h; simp at ht'
    · exact h
  rw [get_setMany _ _ _ t (by simpa using ht'), get_flatK _ _ _ t ht', get_flatK _ _ _ t (by simpa using ht'), hk]
  by_cases a : t / k = i
  · rw [if_pos ((blk_iff k i t k0).2 a), a, getElem!_set_same d i u hi]
    have : t - i * k = t % k := by subst a; rw [Nat.mod_eq_sub_div_mul]
    rw [this]
  · rw [if_neg (fun h => a ((blk_iff k i t k0).1 h)), getElem!_set_other d i (t / k) u a]

omit [Inhabited α] in
theorem size_lay_ : ∀ (xs : List α) (d : Array α) (k : Nat), (lay d k xs).size = d.size
  | [], _, _ => rfl
  | x :: r, d, k => by rw [lay, size_lay_ r]; simp
theorem flat_fill (enc : α → List Value) (k : Nat) (hk : ∀ x, (enc x).length = k) (d : Array α) (i m : Nat) (z : α) (hi : i + m ≤ d.size) :
    setMany (flatK enc k d) (i * k) (Builtin.zeroCells (enc z).toArray m).toList = flatK enc k (lay d i (List.replicate m z)) := by
  have hsz : (lay d i (List.replicate m z)).size = d.size := size_lay_ _ _ _
  have hl : (Builtin.zeroCells (enc z).toArray m).toList.length = m * k := by simp [Builtin.zeroCells, hk]
  refine ext_get! (by simp [hsz]) fun t ht => ?_
  have ht' : t < d.size * k := by simpa using ht
  have k0 : 0 < k := by
    rcases Nat.eq_zero_or_pos k with h | h
    · subst h; simp at ht'
    · exact h
  have hq : t / k < d.size := Nat.div_lt_of_lt_mul (by rw [Nat.mul_comm]; exact ht')
  rw [get_setMany _ _ _ t (by simpa using ht'), get_flatK _ _ _ t ht', get_flatK _ _ _ t (by rw [hsz]; exact ht'), hl]
  have hg := lay_get? (List.replicate m z) d i (t / k) (by simpa using hi)
  simp only [List.length_replicate] at hg
  have e0 : (lay d i (List.replicate m z))[t / k]! = ((lay d i (List.replicate m z))[t / k]?).getD default := by
    rw [getElem!_pos _ _ (by rw [hsz]; exact hq), Array.getElem?_eq_getElem (by rw [hsz]; exact hq), Option.getD_some]
  rw [e0, hg]
  have d1 : i ≤ t / k ↔ i * k ≤ t := Nat.le_div_iff_mul_le k0
  have d2 : t / k < i + m ↔ t < (i + m) * k := Nat.div_lt_iff_lt_mul k0
  rw [Nat.add_mul] at d2
  by_cases a : i ≤ t / k ∧ t / k < i + m
  · rw [if_pos ⟨d1.1 a.1, d2.1 a.2⟩, if_pos a]
    rw [List.getElem?_replicate, if_pos (by omega), Option.getD_some]
    have h1 : t - i * k < m * k := by have := d2.1 a.2; have := d1.1 a.1; omega
    rw [getElem!_pos _ (t - i * k) (by rw [hl]; exact h1)]
    simp only [Builtin.zeroCells, Array.getElem_toList, Array.getElem_map, Array.getElem_range, List.size_toArray, hk]
    have hh : (t - i * k) % k = t % k := by
      rw [Nat.mul_comm i k]
      exact Nat.sub_mul_mod (by rw [Nat.mul_comm]; exact d1.1 a.1)
    rw [hh]
    simp
  · rw [if_neg (fun h => a ⟨d1.2 h.1, d2.2 h.2⟩), if_neg a, getElem!_pos d (t / k) hq, Array.getElem?_eq_getElem hq, Option.getD_some]

theorem run_clear_sliceK {P : Program} (w w' : World) (t e ty : TypeId) (z : Value) (cs : Array Value) (ht : P.underlying t = some (.slice e)) (hv : ∀ w, (zeroValue e).run P w = .ok z w) (hz : z.cells = cs) (b o n c : Nat) (hn : 0 < n)
    (hst : Sem.run P (storeCells ⟨b, o, none⟩ (Builtin.zeroCells cs n).toList 0) w = .ok () w') :
    (Builtin.clear_ #[t] ty #[.slice (some ⟨b, o, none⟩) n c]).run P w = .ok (.tuple #[]) w' := by
  obtain ⟨m, rfl⟩ : ∃ m, n = m + 1 := ⟨n - 1, by omega⟩
  simp [Builtin.clear_, run_underlying ht, hv, hz, hst]

theorem bnd_ (k : Nat) {x n : Nat} (hx : x < n) : x * k + k ≤ n * k := by
  have := Nat.mul_le_mul_right k (show x + 1 ≤ n from hx); rwa [Nat.add_mul, Nat.one_mul] at this
theorem sortWorldK_set (enc : α → List Value) (k : Nat) (hk : ∀ x, (enc x).length = k) (w : World) (blk off m : Nat) (dk : Array α) (os : Array Obj) (hblk : blk < w.heap.size) (i : Nat) (u : α) (hi : i < dk.size) :
    (sortWorldK enc k w blk off m dk os).setCells blk (off + i * k) (enc u) = sortWorldK enc k w blk off m (dk.setIfInBounds i u) os := by
  unfold sortWorldK
  rw [setCells_grow os blk _ _ _ (by rw [size_putRowK]; exact hblk)]
  congr 1
  unfold putRowK
  rw [setCells_putRow _ _ _ _ _ _ (by rw [hk, size_flatK]; exact bnd_ k hi), flat_set enc k hk dk i u hi]
theorem sortWorldK_fill (enc : α → List Value) (k : Nat) (hk : ∀ x, (enc x).length = k) (w : World) (blk off m : Nat) (dk : Array α) (os : Array Obj) (hblk : blk < w.heap.size) (i n : Nat) (z : α) (hi : i + n ≤ dk.size) :
    (sortWorldK enc k w blk off m dk os).setCells blk (off + i * k) (Builtin.zeroCells (enc z).toArray n).toList = sortWorldK enc k w blk off m (lay dk i (List.replicate n z)) os := by
  unfold sortWorldK
  rw [setCells_grow os blk _ _ _ (by rw [size_putRowK]; exact hblk)]
  congr 1
  unfold putRowK
  rw [setCells_putRow _ _ _ _ _ _ (by
    have := Nat.mul_le_mul_right k hi
    rw [Nat.add_mul] at this
    simpa [Builtin.zeroCells, hk] using this), flat_fill enc k hk dk i n z hi]

/-- What the walk leans on of the program: slices.IndexFunc's laying, this text's function. -/
structure DelLays (P : Program) : Prop where
  i6 : SlLaysH0.n6 P Lay.layIdxE_ren
  fD : P.funcs[70]? = some Try.f70
theorem layDel : DelLays Try.prog := ⟨Lay.layIdxE, Try.func70⟩
theorem alloc_grow (w : World) (o : Obj) : w.alloc o = grow w #[o] := by
  unfold World.alloc grow
  simp
theorem setCells_new (w : World) (e : TypeId) (Z : Array Value) (cs : List Value) (h : Z.size = cs.length) : (w.alloc (.cells Z e)).setCells w.heap.size 0 cs = grow w #[.cells cs.toArray e] := by
  rw [← alloc_grow]
  suffices H : ∀ (r : List Value) (i : Nat) (Z : Array Value), Z.size = i + r.length → (w.alloc (.cells Z e)).setCells w.heap.size i r = w.alloc (.cells (Z.toList.take i ++ r).toArray e) by
    have := H cs 0 Z (by omega)
    simpa using this
  intro r
  induction r with
  | nil =>
    intro i Z hZ
    simp only [World.setCells, List.append_nil]
    rw [List.take_of_length_le (by simp only [Array.length_toList]; simp only [List.length_nil] at hZ; omega)]
  | cons v r ih =>
    intro i Z hZ
    simp only [List.length_cons] at hZ
    have h1 : (w.alloc (.cells Z e)).setCell ⟨w.heap.size, i, none⟩ v = w.alloc (.cells (Z.setIfInBounds i v) e) := by
      exact World.setCell_alloc_at Z e _ i v rfl
    rw [World.setCells, h1, ih (i + 1) (Z.setIfInBounds i v) (by simp; omega)]
    congr 3
    rw [Array.toList_setIfInBounds, List.take_set, List.take_add_one, List.getElem?_eq_getElem (by simp; omega)]
    simp only [Option.toList_some]
    rw [List.set_append_right _ _ (by simp; omega)]
    have : i - (Z.toList.take i).length = 0 := by simp; omega
    rw [this]
    simp

set_option maxHeartbeats 4000000 in
set_option maxRecDepth 1000000 in
theorem delFunc {P : Program} (L : DelLays P) (k : Nat) (hkp : 0 < k) (aE : ∀ w, (isAgg 35).run P w = .ok true w) (zE : ∀ w, (Go.sizeOf 35).run P w = .ok k w) (enc : α → List Value) (hk : ∀ x, (enc x).length = k) (h1 : ∀ x, ∀ v ∈ enc x, v.oneCell' = true) (zr : α) (hzr : (Value.agg (enc zr).toArray).cells = (enc zr).toArray ∧ ∀ w, (zeroValue 35).run P w = .ok (.agg (enc zr).toArray) w)
    (p : α → Bool) (g : Nat) (lb : Array Value) (eg : ∀ args w, (callFunc g args).run P w = .ok (.enter g args) w) (blk off cap : Nat) (d : Array α) (w : World)
    (hp : PredBelow P g lb (fun x => .agg (enc x).toArray) p w) (hpo : ∀ W, Below w.heap.size w W → PredLays P g lb enc k p blk off d.size W) (hH : HoldsK enc k w blk off d) (hblk : blk < w.heap.size) (hsz : d.size ≤ 9223372036854775807) (hcap : d.size ≤ cap) :
    Calls P 70 #[.slice (some ⟨blk, off, none⟩) d.size cap, .func (.func g) #[] lb] w fun e w' => e = .returned (.slice (some ⟨blk, off, none⟩) (d.toList.filter fun x => !p x).length cap) ∧
      ∃ w1 q os, Below w.heap.size w w1 ∧ w' = sortWorldK enc k w1 blk off q ((d.toList.filter fun x => !p x) ++ List.replicate (d.size - (d.toList.filter fun x => !p x).length) zr).toArray os := by
  have L6 := L.i6
  have mixed := L6.mixed; have t3 : P.underlying 3 = some (TypeDesc.int IntKind.i64) := L6.t3; have a3 : ∀ w, (isAgg 3).run P w = .ok false w := L6.a3; have z3 : ∀ w, (Go.sizeOf 3).run P w = .ok 1 w := L6.z3; have a4 : ∀ w, (isAgg 4).run P w = .ok false w := L6.a4; have z4 : ∀ w, (Go.sizeOf 4).run P w = .ok 1 w := L6.z4
  have t22 : P.underlying 24 = some (TypeDesc.slice 35) := L6.t22
  have a22 : ∀ w, (isAgg 24).run P w = .ok false w := L6.a22
  have z22 : ∀ w, (Go.sizeOf 24).run P w = .ok 1 w := L6.z22
  have v22 : ∀ w, (zeroValue 24).run P w = .ok (Value.slice none 0 0) w := L6.v22
  have a25 : ∀ w, (isAgg 108).run P w = .ok false w := L6.a25
  have z25 : ∀ w, (Go.sizeOf 108).run P w = .ok 1 w := L6.z25
  have e6 : ∀ args w, (callFunc 88 args).run P w = .ok (.enter 88 args) w := L.i6.f6.enters rfl
  have tl : ∀ j, j < d.size → d.toList[j]! = d[j]! := fun j hj => by rw [getElem!_pos d j hj, getElem!_pos d.toList j (by simpa using hj)]; simp
  have hcI : ∀ j, j < d.toList.length → ∀ i v, (enc d.toList[j]!)[i]? = some v → w.cell? ⟨blk, off + j * k + i, none⟩ = some v := fun j hj i v hv => by
    have hj' : j < d.size := by simpa using hj
    rw [tl j hj'] at hv
    have := HoldsK.cells hH hk hj' i v hv
    rw [Addr.add_lit] at this
    exact this
  have hIF := AnyQ.slices_IndexFunc L.i6 k aE zE enc hk p g lb eg blk off d.size cap d.toList w hp (by simp) hsz hblk hcI
  change Calls P 88 _ _ _ at hIF
  rw [show d.toList.take d.size = d.toList from List.take_of_length_le (by simp)] at hIF
  obtain ⟨kp, HK⟩ : ∃ kp : Nat → Bool, Hid (kp = fun j => !p d[j]!) := ⟨_, rfl⟩
  have hfil : (d.toList.filter fun x => !p x) = keptUpTo kp d d.size := by rw [HK.out]; exact (keptUpTo_filter (fun x => !p x) d).symm
  rw [hfil]
  rcases idxByFrom_spec (fun _ y => p y) default d.toList 0 with ⟨e1, hall⟩ | ⟨k0, hk0, e1, ht, hall⟩
  · have e2 : Lib.idxBy (fun _ y => p y) d.toList default = -1 := e1
    rw [e2] at hIF
    have hkeep : ∀ j, j < d.size → kp j = true := fun j hj => by rw [HK.out]; show (!p d[j]!) = true; rw [← tl j hj, hall j (by simpa using hj)]; rfl
    have e3 : keptUpTo kp d d.size = d.toList := by rw [keptUpTo_all kp d _ hkeep, range_map_get]
    have HH : Aside (HoldsK enc k w blk off d) := hH
    have HB : Aside (blk < w.heap.size) := hblk
    clear hH hpo hp hcI hall
    have FG := L.fD
    go_enter FG, Try.ntmps70
    go_wp2_with (go_at_fn 88; refine hIF.mono ?_; rintro e w1 ⟨rfl, hb⟩)
    go_ret
    rw [e3]
    refine ⟨by simp, w1, 0, #[], hb, ?_⟩
    simp only [Array.length_toList, Nat.sub_self, List.replicate_zero, List.append_nil, Array.toArray_toList]
    have hH1 : HoldsK enc k w1 blk off d := fun j hj => ⟨(hb.cell (p := ⟨blk, off + j, none⟩) HB.out).trans (HH.out j hj).1, (by have := (HH.out j hj).2; unfold World.frozen? at this ⊢; rw [hb.block blk HB.out]; exact this)⟩
    unfold sortWorldK
    rw [grow_empty]
    exact (putRowK_self enc k w1 blk off d hH1).symm
  · have hk0' : k0 < d.size := by simpa using hk0
    have e2 : Lib.idxBy (fun _ y => p y) d.toList default = (k0 : Int) := by unfold Lib.idxBy; rw [e1]; simp
    rw [e2] at hIF
    have hkeep : ∀ j, j < k0 → kp j = true := fun j hj => by rw [HK.out]; show (!p d[j]!) = true; rw [← tl j (by omega), hall j hj]; rfl
    have hdrop : kp k0 = false := by rw [HK.out]; show (!p d[k0]!) = false; rw [← tl k0 hk0']; rw [show p d.toList[k0]! = true from ht]; rfl
    have hne1 : ((k0 : Int) == -1) = false := beq_eq_false_iff_ne.2 (by omega)
    have HP : Aside (∀ W, Below w.heap.size w W → PredLays P g lb enc k p blk off d.size W) := hpo
    have HH : Aside (HoldsK enc k w blk off d) := hH
    have HB : Aside (blk < w.heap.size) := hblk
    have HKK : Hid (∀ x, (enc x).length = k) := hk
    have H1 : Hid (∀ x, ∀ v ∈ enc x, v.oneCell' = true) := h1
    have HZ := (show Hid ((Value.agg (enc zr).toArray).cells = (enc zr).toArray) from hzr.1)
    have hzv := hzr.2
    clear hpo hp hH hall ht e1 e2 tl hcI hk h1 hzr hblk
    have FG := L.fD
    go_enter FG, Try.ntmps70
    go_wp2_with (go_at_fn 88; refine hIF.mono ?_; rintro e w1 ⟨rfl, hb⟩)
    have hH1 : HoldsK enc k w1 blk off d := fun j hj => ⟨(hb.cell (p := ⟨blk, off + j, none⟩) HB.out).trans (HH.out j hj).1, (by have := (HH.out j hj).2; unfold World.frozen? at this ⊢; rw [hb.block blk HB.out]; exact this)⟩
    have hB1 : blk < w1.heap.size := Nat.lt_of_lt_of_le HB.out hb.size
    have HC : Aside (PredLays P g lb enc k p blk off d.size w1) := HP.out w1 hb
    have HH1 : Aside (HoldsK enc k w1 blk off d) := hH1
    have HB1 : Aside (blk < w1.heap.size) := hB1
    have HBW : Aside (Below w.heap.size w w1) := hb
    clear hH1 hB1 hb
    go_loopg [5, 6, 7] d.size (fun gg s5 s6 _ wr => ∃ (i j q : Nat) (dk : Array α) (os : Array Obj), s5 = .int .i64 i ∧ s6 = .int .i64 j ∧ j ≤ d.size ∧ d.size - j ≤ gg ∧ wr = sortWorldK enc k w1 blk off q dk os ∧ Aside (KeptInv kp d j i dk))
    case atStart =>
      refine ⟨k0, k0 + 1, 0, d, #[], rfl, by go_num, by omega, by omega, ?_, KeptInv.start hkeep hdrop⟩
      unfold sortWorldK
      rw [grow_empty]
      exact (putRowK_self enc k w1 blk off d HH1.out).symm
    case round =>
      obtain ⟨i, j, q, dk, os, rfl, rfl, hjd, hgg, hwr, I2⟩ := hrel
      have hI := I2.out
      have hij := hI.lt
      have hds := hI.size
      have hHk : HoldsK enc k wr blk off dk := by rw [hwr]; exact holdsK_sortWorldK_c enc k w1 blk off d dk q os HH1.out HB1.out hds
      have W2 : Aside (wr = sortWorldK enc k w1 blk off q dk os) := hwr
      by_cases hlt : j < d.size
      · have hltz : (j : Int) < (d.size : Int) := by omega
        have lj : Sem.run P (loadCellsFrom ⟨blk, off + j * k, none⟩ 0 k #[]) wr = .ok (enc dk[j]!).toArray wr := run_loadCellsFrom_list _ _ _ _ k (HKK.out _) (HoldsK.cells hHk HKK.out (by omega))
        rw [hI.high j (by omega)] at lj
        have hsu : (enc d[j]!).length = k := HKK.out _
        obtain ⟨cu, hcu⟩ : ∃ c, c = enc d[j]! := ⟨_, rfl⟩
        rw [← hcu] at lj
        have hsu : cu.length = k := by rw [hcu]; exact HKK.out _
        have h1u : ∀ v ∈ cu, v.oneCell' = true := by rw [hcu]; exact H1.out _
        obtain ⟨o, ho⟩ : ∃ o : Obj, o = .cells cu.toArray 35 := ⟨_, rfl⟩
        have hnew : ∀ c, c < k → ∀ X : World, (grow wr #[o]).heap.size ≤ X.heap.size → X.heap[wr.heap.size]? = some o → X.cell? ⟨wr.heap.size, c, none⟩ = cu[c]? := fun c hc X _ hX => by
          rw [ho] at hX
          simp [World.cell?, hX]
        have hg0 : (grow wr #[o]).heap[wr.heap.size]? = some o := by rw [← alloc_grow]; exact heap_alloc_new wr o
        have hsb : Sem.run P (storeCells ⟨wr.heap.size, 0, none⟩ cu 0) (wr.alloc (.cells (enc zr).toArray 35)) = .ok () (grow wr #[o]) := by
          have hz4 : (enc zr).toArray.size = k := by simp [HKK.out]
          have hh := heap_alloc_new wr (.cells (enc zr).toArray 35)
          have h2 : ∀ c, c < k → ((wr.alloc (.cells (enc zr).toArray 35)).cell? ⟨wr.heap.size, c, none⟩).isSome = true := fun c hc => by
            have hc4 : c < (enc zr).length := by rw [HKK.out]; exact hc
            simp only [World.cell?, hh]
            simp [hc4]
          have h3 := run_storeCells_cells (P := P) wr.heap.size 0 cu 0 (wr.alloc (.cells (enc zr).toArray 35)) (fun c hc => by simp only [Nat.zero_add]; exact h2 c (by omega)) (fun c hc => by simp only [World.frozen?, hh]; rfl) h1u
          rw [h3, ho]
          exact congrArg (Result.ok ()) (setCells_new wr 35 _ cu (by rw [hz4, hsu]))
        have hlb : Sem.run P (loadCellsFrom ⟨wr.heap.size, 0, none⟩ 0 k #[]) (grow wr #[o]) = .ok cu.toArray (grow wr #[o]) := run_loadCellsFrom_list _ _ _ cu k hsu (fun c v hv => by
          have hc : c < k := by have := (List.getElem?_eq_some_iff.1 hv).1; omega
          rw [Addr.add_lit, Nat.zero_add, hnew c hc _ (Nat.le_refl _) hg0]; exact hv)
        have hW2 : grow wr #[o] = sortWorldK enc k w1 blk off q dk (os ++ #[o]) := by
          rw [W2.out]; exact sortWorldK_grown_c enc k w1 blk off q 0 dk os #[o]
        have hcall := HC.out q (os ++ #[o]) dk d[j]! hds
        rw [← hW2, ← hcu] at hcall
        have hl3 : ∀ qq os', Sem.run P (loadCellsFrom ⟨wr.heap.size, 0, none⟩ 0 k #[]) (grow ((grow wr #[o]).drewN qq) os') = .ok cu.toArray (grow ((grow wr #[o]).drewN qq) os') := fun qq os' => run_loadCellsFrom_list _ _ _ cu k hsu (fun c v hv => by
          have hc : c < k := by have := (List.getElem?_eq_some_iff.1 hv).1; omega
          have hlt2 : wr.heap.size < ((grow wr #[o]).drewN qq).heap.size := by show wr.heap.size < (wr.heap ++ #[o]).size; simp
          rw [Addr.add_lit, Nat.zero_add, hnew c hc _ (by show _ ≤ ((wr.heap ++ #[o]) ++ os').size; rw [Array.size_append]; exact Nat.le_add_right _ _) (by rw [heap_grow_old _ _ hlt2]; exact hg0)]; exact hv)
        have hst : ∀ qq os', Sem.run P (storeCells ⟨blk, off + i * k, none⟩ cu 0) (grow ((grow wr #[o]).drewN qq) os') = .ok () ((grow ((grow wr #[o]).drewN qq) os').setCells blk (off + i * k) cu) := fun qq os' => by
          have hH2 : HoldsK enc k (grow ((grow wr #[o]).drewN qq) os') blk off dk := by
            rw [hW2, sortWorldK_grown_c]; exact holdsK_sortWorldK_c enc k w1 blk off d dk _ _ HH1.out HB1.out hds
          exact stores_of_holds P hH2 (i * k) _ (by rw [hsu, size_flatK]; exact bnd_ k (by omega)) h1u
        have HW2 : Aside (grow wr #[o] = sortWorldK enc k w1 blk off q dk (os ++ #[o])) := hW2
        have HO : Aside (o = .cells cu.toArray 35) := ho
        have CU : Hid (cu = enc d[j]!) := hcu
        clear hHk hI hwr hnew hg0 hW2 h1u ho hcu
        generalize grow wr #[o] = W3 at hsb hlb hcall hl3 hst HW2
        cases hq : p d[j]! with
        | false =>
          rw [hq] at hcall
          go_wp2_with (go_at_fn g; refine hcall.mono ?_; rintro e w' ⟨rfl, qq, os', rfl⟩)
          go_roundg (d.size - (j + 1))
          case measure => omega
          case rel =>
            refine ⟨i + 1, j + 1, q + qq, dk.setIfInBounds i d[j]!, os ++ #[o] ++ os', by go_num, by go_num, by omega, Nat.le_refl _, ?_, (show Aside _ from ?_)⟩
            · rw [HW2.out, sortWorldK_grown_c, CU.out, sortWorldK_set enc k HKK.out w1 blk off _ dk _ HB1.out i _ (by omega)]
            · exact I2.out.keep hlt (by rw [HK.out]; show (!p d[j]!) = true; rw [hq]; rfl)
        | true =>
          rw [hq] at hcall
          go_wp2_with (go_at_fn g; refine hcall.mono ?_; rintro e w' ⟨rfl, qq, os', rfl⟩)
          go_roundg (d.size - (j + 1))
          case measure => omega
          case rel => exact ⟨i, j + 1, q + qq, dk, os ++ #[o] ++ os', rfl, by go_num, by omega, Nat.le_refl _, by rw [HW2.out, sortWorldK_grown_c], I2.out.skip (by rw [HK.out]; show (!p d[j]!) = false; rw [hq]; rfl)⟩
      · obtain rfl : j = d.size := by omega
        have hltz : ¬ (d.size : Int) < (d.size : Int) := by omega
        have hcl : ∀ ty, (Builtin.clear_ #[24] ty #[.slice (some ⟨blk, off + i * k, none⟩) (d.size - i) (cap - i)]).run P wr = .ok (.tuple #[]) (wr.setCells blk (off + i * k) (Builtin.zeroCells (enc zr).toArray (d.size - i)).toList) :=
          fun ty => run_clear_sliceK wr _ _ _ ty _ _ t22 hzv HZ.out blk (off + i * k) _ _ (by omega)
            (stores_of_holds P hHk (i * k) _ (by
              have := Nat.mul_le_mul_right k (show i + (d.size - i) ≤ dk.size by omega)
              rw [Nat.add_mul] at this
              simpa [Builtin.zeroCells, HKK.out] using this) (fun v hv => by
                simp only [Builtin.zeroCells, Array.mem_toList_iff, Array.mem_map, Array.mem_range] at hv
                obtain ⟨a, ha, rfl⟩ := hv
                have hz4 : (enc zr).toArray.size = k := by simp [HKK.out]
                have hlt4 : a % (enc zr).toArray.size < (enc zr).toArray.size := Nat.mod_lt _ (by rw [hz4]; exact hkp)
                rw [getElem!_pos (enc zr).toArray (a % (enc zr).toArray.size) hlt4]
                exact H1.out zr _ (by simp)))
        clear hHk hI hwr
        go_wp2
        go_ret
        have hI := I2.out
        refine ⟨by rw [hI.len]; rfl, ?_⟩
        first | refine ⟨w1, HBW.out, q, os, ?_⟩ | refine ⟨w1, q, os, HBW.out, ?_⟩
        rw [hI.len, ← hI.done zr, W2.out, sortWorldK_fill enc k HKK.out w1 blk off q dk os HB1.out i _ zr (by omega)]
end Go.Proofs.Ytcgkmcnfhobkiaa.DelFunc
