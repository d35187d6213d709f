/- Written by this session's program out of the kit's print and this session's contracts. -/
import Derived.Test.YtmffjekpnibnfaaPFnMatchingx0
import Derived.Test.YtmffjekpnibnfaaPFnMatchingx2
namespace Go.Proofs.Ytmffjekpnibnfaa.PFnMatching
open Go.RowKit Go.Proofs.YtmffjekpnibnfaaW.PrintWords Go.Proofs.YtmffjekpnibnfaaW.PrintLast Go.Proofs.YtmffjekpnibnfaaW.PrintMore
attribute [local go_sem] max2_int min2_int max_two min_two max_three min_three max_four min_four   -- for this text's walks alone
set_option linter.unusedVariables false
set_option linter.unusedSimpArgs false

/-! ### impl_matchings: function 65 -/
def impl_matchings.l0 : Nat → Int → Int → Option (Int)
  | 0, _, _ => none
  | k + 1, x3, x4 => if x4 > 1 then (impl_matchings.l0 k (wrap64 (x3 * x4)) (wrap64 (x4 - 2))) else (some x3)
def impl_matchings.f (k : Nat) (a0 : Int) : Option (Int) := impl_matchings.l0 k 1 (wrap64 (a0 - 1))
theorem impl_matchings.mono_l : ∀ k, (∀ y0 y1, LeO (impl_matchings.l0 k y0 y1) (impl_matchings.l0 (k + 1) y0 y1))
  | 0 => fun _ _ r h => by simp [impl_matchings.l0] at h
  | k + 1 => by
    have ih0 := impl_matchings.mono_l k
    · intro y0 y1
      unfold impl_matchings.l0
      repeat' first
      | (with_reducible exact ih0 _ _)
      | (with_reducible exact LeO.refl _)
      | (with_reducible exact LeO.none _)
      | (with_reducible refine LeO.ite ?_ ?_)
      | (with_reducible refine LeO.bind ?_ (fun _ => ?_))
      | exact ih0 _ _
      | exact LeO.none _
      | refine LeO.ite ?_ ?_
      | refine LeO.bind ?_ (fun _ => ?_)
theorem impl_matchings.mono : ∀ a0 k, LeO (impl_matchings.f k a0) (impl_matchings.f (k + 1) a0) := by
  intro a0 k
  have ih0 := impl_matchings.mono_l k
  unfold impl_matchings.f
  repeat' first
      | (with_reducible exact ih0 _ _)
      | (with_reducible exact LeO.refl _)
      | (with_reducible exact LeO.none _)
      | (with_reducible refine LeO.ite ?_ ?_)
      | (with_reducible refine LeO.bind ?_ (fun _ => ?_))
      | exact ih0 _ _
      | exact LeO.none _
      | refine LeO.ite ?_ ?_
      | refine LeO.bind ?_ (fun _ => ?_)
set_option maxHeartbeats 8000000 in
set_option maxRecDepth 100000 in
theorem impl_matchings.calls (k : Nat) (a0 : Int) (r : Int) (w : World) (h : impl_matchings.f k a0 = some r) :
    Calls Try.prog 65 #[.int .i64 a0] w fun e w' => e = .returned (.int .i64 r) ∧ Drawn0 w w' := by
  have H : (impl_matchings.l0 k 1 (wrap64 (a0 - 1))) = some r := h
  clear h
  have H' := Aside0.mk H
  clear H
  go_enter Try.func65, Try.ntmps65
  go_wp2
  go_loopg [3, 4] k (fun kq v3 v4 w' => ∃ (x3_1 : Int) (x4_1 : Int), v3 = .int .i64 x3_1 ∧ v4 = .int .i64 x4_1 ∧ Aside0 (impl_matchings.l0 kq x3_1 x4_1 = some r) ∧ Aside0 (kq ≤ k) ∧ Drawn0 w w')
  case atStart => exact ⟨(1), (wrap64 (a0 - 1)), (by first | rfl | (simp; done) | (simp [*]; done)), (by first | rfl | (simp; done) | (simp [*]; done)), H', ⟨Nat.le_refl _⟩, by repeat (first | exact Drawn0.refl _ | apply Drawn0.step)⟩
  case round =>
    clear H'
    obtain ⟨x3_1, x4_1, rfl, rfl, HA, HK1, ⟨m1, rfl⟩⟩ := hrel
    cases gk with
    | zero => exact absurd HA.out (by simp [impl_matchings.l0])
    | succ k1 =>
      have H := HA.out
      clear HA
      simp only [impl_matchings.l0] at H
      by_cases c2 : x4_1 > 1
      · rw [if_pos c2] at H
        have c2b0 : decide (1 < x4_1) = true := decide_eq_true c2
        clear c2
        have H' := Aside0.mk H
        clear H
        go_wp2
        go_roundg k1
        case measure => have := HK1.out; omega
        case rel => exact ⟨(wrap64 (x3_1 * x4_1)), (wrap64 (x4_1 - 2)), (by first | rfl | (simp; done) | (simp [*]; done)), (by first | rfl | (simp; done) | (simp [*]; done)), H', ⟨by have := HK1.out; omega⟩, by repeat (first | exact Drawn0.refl _ | apply Drawn0.step)⟩
      · rw [if_neg c2] at H
        have c2b0 : decide (1 < x4_1) = false := decide_eq_false c2
        clear c2
        obtain rfl := Option.some.inj H
        go_wp2
        go_ret
        exact ⟨by first | rfl | (simp; done) | (simp [*]; done), by repeat (first | exact Drawn0.refl _ | apply Drawn0.step)⟩

/-! ### slices_Delete_int64_int64: function 69 -/
set_option maxHeartbeats 8000000 in
set_option maxRecDepth 1000000 in
/-- slices.Delete(s, i, i + 1), turned from the library's walk to this program's own instance. -/
theorem deleteInts (blk off cap i : Nat) (d : Array Int) (w : World) (hH : Go.Sort.Holds (Value.int .i64) w blk off d) (hcap : d.size ≤ cap) (hm : cap ≤ 9223372036854775807) (hi : i + 1 ≤ d.size) :
    Calls Try.prog 69 #[.slice (some ⟨blk, off, none⟩) d.size cap, .int .i64 i, .int .i64 ((i + 1 : Nat) : Int)] w fun e w' => e = .returned (.slice (some ⟨blk, off, none⟩) (d.size - 1) cap) ∧ ∃ q, w' = Go.Sort.putRow (Value.int .i64) (Go.Sort.ahead w q) blk off (d.toList.take i ++ d.toList.drop (i + 1) ++ List.replicate (i + 1 - i) (0 : Int)).toArray := by
  obtain ⟨i0, hi0, hz0, hz1, hz2⟩ := info_parts info2
  obtain ⟨j, hjj⟩ : ∃ j, j = i + 1 := ⟨_, rfl⟩
  rw [← hjj] at hi ⊢
  have hne : decide ((i : Int) = (j : Int)) = false := decide_eq_false (by omega)
  have hlt : i < j := by omega
  have hij : i ≤ j := by omega
  have hj : j ≤ d.size := hi
  have h1 : ∀ x : Int, (Value.int .i64 x).oneCell' = true := fun _ => rfl
  obtain ⟨news, hnews⟩ : ∃ news, news = (d.toList.drop j).map (Value.int .i64) := ⟨_, rfl⟩
  have hlen : news.length = d.size - j := by rw [hnews]; simp
  have hget : ∀ t, t < d.size - j → news[t]? = some (Value.int .i64 d[j + t]!) := by
    intro t ht
    rw [hnews, List.getElem?_map, List.getElem?_drop, Array.getElem?_toList, getElem!_pos d (j + t) (by omega), Array.getElem?_eq_getElem (by omega)]
    rfl
  obtain ⟨A, hA, hsrc⟩ : ∃ A : Addr, (if cap = j then some (⟨blk, off, none⟩ : Addr) else some ⟨blk, off + j, none⟩) = some A ∧ Hid (∀ t u, news[t]? = some u → w.drew.cell? (A.add t) = some u) := by
    by_cases h : cap = j
    · refine ⟨⟨blk, off, none⟩, by simp [h], fun t u hu => ?_⟩
      have h0 : news.length = 0 := by rw [hlen]; omega
      rw [List.length_eq_zero_iff.1 h0] at hu
      simp at hu
    · refine ⟨⟨blk, off + j, none⟩, by simp [h], fun t u hu => ?_⟩
      have ht : t < d.size - j := by
        have := (List.getElem?_eq_some_iff.1 hu).1
        rwa [hlen] at this
      rw [hget t ht] at hu
      rw [Addr.add_lit, show off + j + t = off + (j + t) by omega]
      exact (hH (j + t) (by omega)).1.trans hu
  have s1 : Hid (news.length = (d.size - j) * 1) := by rw [Nat.mul_one]; exact hlen
  have s2 : Hid (∀ u ∈ news, u.oneCell' = true) := by
    intro u hu
    rw [hnews] at hu
    obtain ⟨x, _, rfl⟩ := List.mem_map.1 hu
    exact h1 x
  have s3 : Hid (∀ t, t < news.length → (w.drew.cell? ⟨blk, off + i * 1 + t, none⟩).isSome = true ∧ w.drew.frozen? ⟨blk, off + i * 1 + t, none⟩ = false) := by
    intro t ht
    rw [hlen] at ht
    rw [Nat.mul_one, Nat.add_assoc]
    exact ⟨by show (w.cell? _).isSome = true; rw [(hH (i + t) (by omega)).1]; rfl, (hH (i + t) (by omega)).2⟩
  obtain ⟨W1, hW1⟩ : ∃ W1, W1 = w.drew.setCells blk (off + i * 1) news := ⟨_, rfl⟩
  have hW1' : W1 = Go.Sort.putRow (Value.int .i64) (Go.Sort.ahead w 1) blk off (Go.Lib.lay d i (d.toList.drop j)) := by
    rw [hW1, hnews, Nat.mul_one, ← Go.Lib.putRow_setCells (Value.int .i64) (Go.Sort.ahead w 1) blk off _ d i (by simp; omega), Go.Sort.putRow_self (Value.int .i64) (Go.Sort.ahead w 1) blk off d (Go.Sort.holds_ahead (Value.int .i64) w 1 blk off d hH)]
    rfl
  have hH1 : Go.Sort.Holds (Value.int .i64) W1 blk off (Go.Lib.lay d i (d.toList.drop j)) := by rw [hW1']; exact Go.Sort.holds_putRow (Value.int .i64) _ blk off d _ (Go.Sort.holds_ahead (Value.int .i64) w 1 blk off d hH) (Go.Lib.lay_size _ _ _)
  have hcl : ∀ ty, (Builtin.clear_ #[26] ty #[.slice (some ⟨blk, off + (i + (d.size - j)), none⟩) (d.size - (i + (d.size - j))) (cap - (i + (d.size - j)))]).run Try.prog W1 = .ok (.tuple #[]) (W1.setCells blk (off + (i + (d.size - j))) (List.replicate (d.size - (i + (d.size - j))) (Value.int .i64 0))) :=
    fun ty => Go.Lib.run_clear_slice W1 _ _ ty _ Try.underlying26 (fun w => Try.zeroValue2 w) rfl rfl blk (off + (i + (d.size - j))) _ _ (by omega) (fun t ht => by rw [show off + (i + (d.size - j)) + t = off + (i + (d.size - j) + t) by omega, (hH1 _ (by rw [Go.Lib.lay_size]; omega)).1]; rfl) (fun t ht => by rw [show off + (i + (d.size - j)) + t = off + (i + (d.size - j) + t) by omega]; exact (hH1 _ (by rw [Go.Lib.lay_size]; omega)).2)
  have X : Aside (W1 = Go.Sort.putRow (Value.int .i64) (Go.Sort.ahead w 1) blk off (Go.Lib.lay d i (d.toList.drop j))) := hW1'
  have hW : Hid (W1 = w.drew.setCells blk (off + i * 1) news) := hW1
  have hic : i ≤ cap := by omega
  have hjc : j ≤ cap := by omega
  have mixed : Try.prog.follows Departure.mixedOrders = true := by kernel_rfl
  have hd1 : d.size - 1 = i + (d.size - j) := by omega
  clear hW1 hW1' hH1 hH hget hnews hlen hjj
  go_enter Try.func69, Try.ntmps69
  go_wp2_with fail
  go_region_law_o (refine step_append_room rfl (.tmp 22) (.tmp 25) 26 rfl 2 i0 1 Try.underlying26 hi0 hz1 blk off i cap (by simp [Act.eval, Act.put]) A (d.size - j) (cap - j) news (by simp [Act.eval, Act.put]) s1.out hsrc.out s2.out (by omega) s3.out ?_; rw [← hW.out])
  go_wp2
  go_ret
  refine ⟨by rw [hd1]; rfl, 1, ?_⟩
  rw [← Go.Lib.delete_arr d i j 0 hij hj, ← Go.Lib.putRow_setCells (Value.int .i64) _ blk off _ _ (i + (d.size - j)) (by rw [Go.Lib.lay_size]; simp; omega), ← X.out, List.map_replicate, show d.size - (i + (d.size - j)) = j - i by omega]


/-! ### impl_perm: function 48 -/
/-- What the rounds of perm make: the rest of the number, the four cells of 'left', the images. -/
def pSt (n : Nat) : Nat → Int × List Int × List Int
  | 0 => ((n : Int), [0, 1, 2, 3], [0, 0, 0, 0])
  | i + 1 =>
    let s := pSt n i
    let b : Int := rd [6, 2, 1, 1] i
    let k := s.1.tdiv b
    (s.1.tmod b, ((s.2.1.take (4 - i)).take k.toNat ++ (s.2.1.take (4 - i)).drop (k.toNat + 1) ++ List.replicate (k.toNat + 1 - k.toNat) (0 : Int)) ++ s.2.1.drop (4 - i), s.2.2.set i (rd s.2.1 k))
def permL (n : Nat) : List Int := (pSt n 4).2.2
theorem pSt_ok : ∀ n, n < 24 → ∀ i, i < 4 → (0 ≤ (pSt n i).1 ∧ (pSt n i).1 < 24) ∧ (0 ≤ (pSt n i).1.tdiv (rd [6, 2, 1, 1] i) ∧ (pSt n i).1.tdiv (rd [6, 2, 1, 1] i) < 4 - i) ∧ (pSt n i).2.1.length = 4 ∧ (pSt n i).2.2.length = 4 := by decide +kernel
theorem permL_ok : ∀ n, n < 24 → (permL n).length = 4 ∧ (∀ x ∈ permL n, 0 ≤ x ∧ x < 4) := by decide +kernel
theorem holds_blk {w : World} {g t : Nat} {L : List Int} (h : w.heap[g]? = some (.cells (nums .i64 L).toArray t (0, 0))) (n : Nat) : Go.Sort.Holds (Value.int .i64) w g 0 (L.take n).toArray := by
  intro j hj
  have hj' : j < (L.take n).length := by simpa using hj
  refine ⟨?_, by rw [Nat.zero_add]; exact blk_frozen h j⟩
  rw [Nat.zero_add, blk_cell h j]
  have h1 : (L.take n).toArray[j]! = (L.take n)[j]'hj' := by rw [getElem!_pos _ j hj]; simp
  rw [h1]
  simp [nums] at hj' ⊢
theorem put_blk {w : World} {g t : Nat} {L : List Int} (h : w.heap[g]? = some (.cells (nums .i64 L).toArray t (0, 0))) (q : Nat) (M : List Int) (hM : M.length ≤ L.length) : (Go.Sort.putRow (Value.int .i64) (Go.Sort.ahead w q) g 0 M.toArray).heap[g]? = some (.cells (nums .i64 (M ++ L.drop M.length)).toArray t (0, 0)) := by
  show (w.heap.modify g _)[g]? = _
  rw [Array.getElem?_modify, if_pos rfl, h]
  simp only [Option.map_some, Go.Sort.onCells]
  congr 2
  apply Array.ext_getElem?
  intro k
  simp only [Go.Sort.putCells, Array.getElem?_mapIdx, List.getElem?_toArray, nums, List.getElem?_map, Nat.zero_le, true_and, Nat.zero_add, Nat.sub_zero, List.size_toArray]
  by_cases hk : k < M.length
  · rw [List.getElem?_append_left hk, List.getElem?_eq_getElem hk, List.getElem?_eq_getElem (show k < L.length by omega)]
    simp [hk]
  · rw [List.getElem?_append_right (by omega), List.getElem?_drop, show M.length + (k - M.length) = k by omega]
    cases hL : L[k]? with
    | none => rfl
    | some y => simp [hk]
theorem put_far {w : World} {g k : Nat} (q : Nat) (M : Array Int) (hk : k ≠ g) : (Go.Sort.putRow (Value.int .i64) (Go.Sort.ahead w q) g 0 M).heap[k]? = w.heap[k]? := by
  show (w.heap.modify g _)[k]? = _
  rw [Array.getElem?_modify, if_neg (Ne.symm hk)]
theorem put_below {B : Nat} {v w : World} (h : Below B v w) {g : Nat} (hg : B ≤ g) (q : Nat) (M : Array Int) : Below B v (Go.Sort.putRow (Value.int .i64) (Go.Sort.ahead w q) g 0 M) :=
  ⟨h.os, h.tape, h.output, by show _ ≤ (w.heap.modify g _).size; rw [Array.size_modify]; exact h.size, fun k hk => (put_far q M (by omega)).trans (h.block k hk)⟩

theorem nums_at (L : List Int) (i : Nat) (h : i < L.length) : (nums .i64 L).toArray[i]? = some (.int .i64 (rd L i)) := by
  simp [nums, rd, List.getD, List.getElem?_eq_getElem h]
theorem nums_set (L : List Int) (i : Nat) (x : Int) : (nums .i64 L).toArray.setIfInBounds i (.int .i64 x) = (nums .i64 (L.set i x)).toArray := by
  simp [nums, List.map_set]
theorem del_blk (g t : Nat) (L : List Int) (m k : Nat) (W : World) (h : W.heap[g]? = some (.cells (nums .i64 L).toArray t (0, 0))) (hL : L.length = 4) (hm : m ≤ 4) (hk : k < m) :
    Calls Try.prog 69 #[.slice (some ⟨g, 0, none⟩) m 4, .int .i64 k, .int .i64 ((k + 1 : Nat) : Int)] W fun e w' => e = .returned (.slice (some ⟨g, 0, none⟩) (m - 1) 4) ∧ w'.heap[g]? = some (.cells (nums .i64 ((L.take m).take k ++ (L.take m).drop (k + 1) ++ List.replicate (k + 1 - k) (0 : Int) ++ L.drop m)).toArray t (0, 0)) ∧ (∀ B v, B ≤ g → Below B v W → Below B v w') ∧ (∀ q, q ≠ g → w'.heap[q]? = W.heap[q]?) := by
  have hs : (L.take m).toArray.size = m := by simp; omega
  have hc := deleteInts g 0 4 k (L.take m).toArray W (holds_blk h m) (by rw [hs]; exact hm) (by decide) (by rw [hs]; exact hk)
  rw [hs] at hc
  refine hc.mono ?_
  rintro e w' ⟨rfl, q, rfl⟩
  have hl : ((L.take m).toArray.toList.take k ++ (L.take m).toArray.toList.drop (k + 1) ++ List.replicate (k + 1 - k) (0 : Int)).length = m := by
    simp
    omega
  refine ⟨rfl, ?_, fun B v hB hw => put_below hw hB q _, fun j hj => put_far q _ hj⟩
  have hp := put_blk h q _ (by rw [hl, hL]; exact hm)
  rw [hl] at hp
  exact hp
def impl_perm.f (a0 : Int) : Option (List Int) := if 0 ≤ a0 ∧ a0 < 24 then some (permL a0.toNat) else none
theorem results_arr {P : Program} {fn : Func} {p : Tmp} {ty : TypeId} (h : fn.results = #[.cell p ty]) (tmps : Array Value) (w : World) (g : Nat) (t : TypeId) (cs : Array Value) (fr : Nat × Nat) (d : TypeDesc)
    (hp : tmps.getD p undef = .pointer (some ⟨g, 0, none⟩)) (hg : w.heap[g]? = some (.cells cs t fr))
    (hu : P.underlying ty = some d) (hd : (match d with | .struct _ | .array _ _ => true | _ => false) = true) (hi : (P.info? ty).map (·.size) = some cs.size) :
    (results fn tmps).run P w = .ok (.agg cs) w := by
  have hp' : tmps[p]?.getD undef = .pointer (some ⟨g, 0, none⟩) := by simpa using hp
  simp [results, h, hp', asAddr, run_loadVar_row w g t ty cs fr d hg hu hd hi]
theorem run_index4 (cs : Array Value) (m : Nat) (x : Value) (hx : cs[m]? = some x) (hm : m < 4) (w : World) : (Instr.index 45 (.agg cs) (.int .i64 (m : Int))).run Try.prog w = .ok x w := by
  have hi : (m : Int) < 4 := by omega
  simp [Instr.index, asIntOf, part, Try.isAgg2, Try.sizeOf2, Try.underlying45, run_underlying, hx, hi, go_sem]
  exact fun h => absurd h (by omega)
theorem run_slice4 (g i : Nat) (hi : i ≤ 4) (W : World) : (Instr.sliceAt 45 (.pointer (some ⟨g, 0, none⟩)) none (some (.int .i64 (i : Int))) none).run Try.prog W = .ok (.slice (some ⟨g, 0, none⟩) i 4) W := by
  have hal : Try.prog.arrayLen 45 = 4 := by simp [Program.arrayLen, Try.underlying45]
  rw [run_sliceAt_array_h W 45 ⟨g, 0, none⟩ (by simp [Program.arrayLen, Program.elem, Try.underlying45]) .i64 (i : Int) (by omega) (by rw [hal]; omega)]
  simp only [hal]
  go_simp
theorem heap_allocs (w : World) (o0 o1 o2 o3 : Obj) (W : World) (hW : W = (((w.alloc o0).alloc o1).alloc o2).alloc o3) : Below w.heap.size w W ∧ W.heap[w.heap.size]? = some o0 ∧ W.heap[w.heap.size + 1]? = some o1 ∧ W.heap[w.heap.size + 1 + 1]? = some o2 ∧ W.heap[w.heap.size + 1 + 1 + 1]? = some o3 := by
  subst hW
  have s1 : ∀ (v : World) (o : Obj), (v.alloc o).heap.size = v.heap.size + 1 := fun v o => by show (v.heap.push o).size = _; simp
  have n1 : ∀ (v : World) (o : Obj) (k : Nat), k = v.heap.size → (v.alloc o).heap[k]? = some o := fun v o k hk => by rw [hk]; exact heap_alloc_new v o
  refine ⟨Below.alloc (Below.alloc (Below.alloc (Below.alloc (Below.refl _ _) (Nat.le_refl _) _) (by rw [s1]; omega) _) (by rw [s1, s1]; omega) _) (by rw [s1, s1, s1]; omega) _, ?_, ?_, ?_, ?_⟩
  · rw [Below.heap_alloc _ _ _ (by rw [s1, s1, s1]; omega), Below.heap_alloc _ _ _ (by rw [s1, s1]; omega), Below.heap_alloc _ _ _ (by rw [s1]; omega)]
    exact n1 _ _ _ rfl
  · rw [Below.heap_alloc _ _ _ (by rw [s1, s1, s1]; omega), Below.heap_alloc _ _ _ (by rw [s1, s1]; omega)]
    exact n1 _ _ _ (by rw [s1])
  · rw [Below.heap_alloc _ _ _ (by rw [s1, s1, s1]; omega)]
    exact n1 _ _ _ (by rw [s1, s1])
  · exact n1 _ _ _ (by rw [s1, s1, s1])
structure PermW (n i : Nat) (w wr : World) : Prop where
  b : Below w.heap.size w wr
  h0 : wr.heap[w.heap.size]? = some (.cells (nums .i64 [0, 0, 0, 0]).toArray 45 (0, 0))
  h1 : wr.heap[w.heap.size + 1]? = some (.cells (nums .i64 (pSt n i).2.2).toArray 45 (0, 0))
  h2 : wr.heap[w.heap.size + 1 + 1]? = some (.cells (nums .i64 (pSt n i).2.1).toArray 2 (0, 0))
  h3 : wr.heap[w.heap.size + 1 + 1 + 1]? = some (.cells (nums .i64 [6, 2, 1, 1]).toArray 2 (0, 0))
set_option maxHeartbeats 8000000 in
set_option maxRecDepth 100000 in
theorem impl_perm.calls (a0 : Int) (r : List Int) (w : World) (h : impl_perm.f a0 = some r) :
    Calls Try.prog 48 #[.int .i64 a0] w fun e w' => e = .returned (.agg (nums .i64 r).toArray) ∧ Below w.heap.size w w' := by
  unfold impl_perm.f at h
  by_cases hc : 0 ≤ a0 ∧ a0 < 24
  case neg => rw [if_neg hc] at h; exact absurd h (by simp)
  rw [if_pos hc] at h
  obtain rfl := Option.some.inj h
  obtain ⟨n, rfl⟩ : ∃ n : Nat, a0 = n := ⟨a0.toNat, by omega⟩
  have hn : n < 24 := by omega
  rw [Int.toNat_natCast]
  clear hc h
  have HN := Aside0.mk hn
  clear hn
  go_enter Try.func48, Try.ntmps48
  go_wp2
  go_loopg [0, 4, 11] 4 (fun gg s0 s4 s11 wr => ∃ i : Nat, gg + i = 4 ∧ s0 = .int .i64 (pSt n i).1 ∧ s4 = .slice (some ⟨w.heap.size + 1 + 1, 0, none⟩) (4 - i) 4 ∧ s11 = .int .i64 i ∧ Aside0 (PermW n i w wr))
  case atStart =>
    obtain ⟨hb, h0, h1, h2, h3⟩ := heap_allocs w _ _ _ _ _ rfl
    exact ⟨0, rfl, rfl, rfl, rfl, ⟨hb, h0, h1, h2, h3⟩⟩
  case round =>
    obtain ⟨i, hi, rfl, rfl, rfl, HW⟩ := hrel
    by_cases h4 : i = 4
    · subst h4
      have hp4 : ∀ j, j < 4 → wr.cell? ⟨w.heap.size + 1, j, none⟩ = some (.int .i64 (rd (permL n) j)) := fun j hj => by
        rw [blk_cell HW.out.h1 j]
        exact nums_at _ j (by have := (permL_ok n HN.out).1; unfold permL at this; omega)
      have a0 := hp4 0 (by decide)
      have a1 := hp4 1 (by decide)
      have a2 := hp4 2 (by decide)
      have a3 := hp4 3 (by decide)
      clear hp4
      have z0 : wr.cell? ⟨w.heap.size, 0, none⟩ = some (.int .i64 0) := (blk_cell HW.out.h0 0).trans rfl
      have z1 : wr.cell? ⟨w.heap.size, 1, none⟩ = some (.int .i64 0) := (blk_cell HW.out.h0 1).trans rfl
      have z2 : wr.cell? ⟨w.heap.size, 2, none⟩ = some (.int .i64 0) := (blk_cell HW.out.h0 2).trans rfl
      have z3 : wr.cell? ⟨w.heap.size, 3, none⟩ = some (.int .i64 0) := (blk_cell HW.out.h0 3).trans rfl
      have f0 := blk_frozen HW.out.h0 0
      have f1 := blk_frozen HW.out.h0 1
      have f2 := blk_frozen HW.out.h0 2
      have f3 := blk_frozen HW.out.h0 3
      go_wp2
      have hblk := blk_set (blk_set (blk_set (blk_set HW.out.h0 0 (.int .i64 (rd (permL n) 0))) 1 (.int .i64 (rd (permL n) 1))) 2 (.int .i64 (rd (permL n) 2))) 3 (.int .i64 (rd (permL n) 3))
      have hbel := (((HW.out.b.setCell (p := ⟨w.heap.size, 0, none⟩) (Nat.le_refl _) (.int .i64 (rd (permL n) 0))).setCell (p := ⟨w.heap.size, 1, none⟩) (Nat.le_refl _) (.int .i64 (rd (permL n) 1))).setCell (p := ⟨w.heap.size, 2, none⟩) (Nat.le_refl _) (.int .i64 (rd (permL n) 2))).setCell (p := ⟨w.heap.size, 3, none⟩) (Nat.le_refl _) (.int .i64 (rd (permL n) 3))
      refine bodyPost_ret (results_arr (p := 2) (ty := 45) rfl _ _ w.heap.size _ _ _ _ rfl hblk Try.underlying45 rfl (by kernel_rfl)) rfl ⟨?_, hbel⟩
      have hl := (permL_ok n HN.out).1
      generalize permL n = q at hl ⊢
      match q, hl with
      | [x0, x1, x2, x3], _ => rfl
    · have hd : decide ((i : Int) < 4) = true := decide_eq_true (by omega)
      have hi4 : i < 4 := by omega
      have hi4t : ((i : Int) < 4) = True := eq_true (by omega)
      obtain ⟨⟨p0, p1⟩, ⟨k0, k1⟩, hL, hO⟩ := pSt_ok n HN.out i hi4
      have hSt : pSt n (i + 1) = ((pSt n i).1.tmod (rd [6, 2, 1, 1] i), (((pSt n i).2.1.take (4 - i)).take ((pSt n i).1.tdiv (rd [6, 2, 1, 1] i)).toNat ++ ((pSt n i).2.1.take (4 - i)).drop (((pSt n i).1.tdiv (rd [6, 2, 1, 1] i)).toNat + 1) ++ List.replicate (((pSt n i).1.tdiv (rd [6, 2, 1, 1] i)).toNat + 1 - ((pSt n i).1.tdiv (rd [6, 2, 1, 1] i)).toNat) (0 : Int)) ++ (pSt n i).2.1.drop (4 - i), (pSt n i).2.2.set i (rd (pSt n i).2.1 ((pSt n i).1.tdiv (rd [6, 2, 1, 1] i)))) := rfl
      have hb : rd [6, 2, 1, 1] (i : Int) = 6 ∨ rd [6, 2, 1, 1] (i : Int) = 2 ∨ rd [6, 2, 1, 1] (i : Int) = 1 := (by decide : ∀ i < 4, rd [6, 2, 1, 1] ((i : Nat) : Int) = 6 ∨ rd [6, 2, 1, 1] ((i : Nat) : Int) = 2 ∨ rd [6, 2, 1, 1] ((i : Nat) : Int) = 1) i hi4
      have hcb : wr.cell? ⟨w.heap.size + 1 + 1 + 1, i, none⟩ = some (.int .i64 (rd [6, 2, 1, 1] i)) := by rw [blk_cell HW.out.h3 i]; exact nums_at _ i hi4
      have HS := Aside0.mk hSt
      clear hSt
      have h1_ := HW.out.h1
      have h2_ := HW.out.h2
      generalize rd [6, 2, 1, 1] (i : Int) = b at *
      generalize (pSt n i).1 = p at *
      generalize (pSt n i).2.1 = L at *
      generalize (pSt n i).2.2 = O at *
      obtain ⟨k, hk⟩ : ∃ k : Nat, p.tdiv b = k := ⟨(p.tdiv b).toNat, by omega⟩
      rw [hk] at k0 k1 HS
      rw [Int.toNat_natCast] at HS
      have kL : k < 4 - i := by omega
      have q1 : (k < 4 - i) = True := eq_true kL
      have hcl : wr.cell? ⟨w.heap.size + 1 + 1, k, none⟩ = some (.int .i64 (rd L k)) := by rw [blk_cell h2_ k]; exact nums_at L k (by omega)
      have hco : wr.cell? ⟨w.heap.size + 1, i, none⟩ = some (.int .i64 (rd O i)) := by rw [blk_cell h1_ i]; exact nums_at O i (by omega)
      have hfo := blk_frozen h1_ i
      have w1 : IntKind.i64.wrap (p.tdiv b) = (k : Int) := by rw [hk, i64_w]; unfold wrap64; omega
      have w2 : IntKind.i64.wrap ((k : Int) + 1) = ((k + 1 : Nat) : Int) := by rw [i64_w]; unfold wrap64; omega
      have w3 : IntKind.i64.wrap ((i : Int) + 1) = ((i + 1 : Nat) : Int) := by rw [i64_w]; unfold wrap64; omega
      have b0 : (b = 0) = False := eq_false (by omega)
      have HO := Aside0.mk hO
      have HL := Aside0.mk hL
      have HK := Aside0.mk kL
      have H1 := Aside0.mk h1_
      have H2 := Aside0.mk h2_
      have HI := Aside0.mk hi
      have HK4 := Aside0.mk hi4
      clear hO hL kL h1_ h2_ hi hi4 h4 hk k0 k1 p0 p1 hb
      go_wp2_with (go_at_call 69; refine (del_blk (w.heap.size + 1 + 1) _ L (4 - i) k _ ((Below.heap_setCell wr _ _ _ (by show w.heap.size + 1 + 1 ≠ w.heap.size + 1; omega)).trans H2.out) HL.out (Nat.sub_le _ _) HK.out).mono ?_; rintro e w5 ⟨rfl, h2', hbel', hfar'⟩)
      go_roundg (gk - 1)
      case measure => have := HI.out; have := HK4.out; omega
      case rel =>
        have hi_ := HI.out
        have hk_ := HK4.out
        refine ⟨i + 1, by omega, by rw [HS.out], by rw [show 4 - i - 1 = 4 - (i + 1) by omega], rfl, ⟨?_, ?_, ?_, ?_, ?_⟩⟩
        · exact hbel' _ _ (by omega) (HW.out.b.setCell (by show w.heap.size ≤ w.heap.size + 1; omega) _)
        · exact (hfar' _ (by omega)).trans ((Below.heap_setCell wr _ _ _ (by show w.heap.size ≠ w.heap.size + 1; omega)).trans HW.out.h0)
        · rw [HS.out]
          exact ((hfar' _ (by omega)).trans (blk_set H1.out i _)).trans (by rw [nums_set])
        · rw [HS.out]
          exact h2'
        · exact (hfar' _ (by omega)).trans ((Below.heap_setCell wr _ _ _ (by show w.heap.size + 1 + 1 + 1 ≠ w.heap.size + 1; omega)).trans HW.out.h3)


/-! ### impl_size_int64: function 70 -/
def impl_size_int64.f (l0 : List Int) : Option (Int) := some (l0.length : Int)
set_option maxHeartbeats 8000000 in
set_option maxRecDepth 100000 in
theorem impl_size_int64.calls (A0 : Option Addr) (c0 : Nat) (l0 : List Int) (r : Int) (w : World) (hr0 : Kd.C (Kd.int .i64) w A0 l0.length l0) (hc0 : l0.length ≤ c0) (h : impl_size_int64.f l0 = some r) :
    Calls Try.prog 70 #[.slice A0 l0.length c0] w fun e w' => e = .returned (.int .i64 r) ∧ Drawn0 w w' := by
  have HR0 := Aside0.mk hr0
  have HC0 := Aside0.mk hc0
  clear hr0 hc0
  have H : (some (l0.length : Int)) = some r := h
  clear h
  obtain rfl := Option.some.inj H
  go_enter Try.func70, Try.ntmps70
  go_wp2
  go_ret
  exact ⟨by first | rfl | (simp; done) | (simp [*]; done), by repeat (first | exact Drawn0.refl _ | apply Drawn0.step)⟩

theorem sizeInts (A : Option Addr) (c : Nat) (l : List Int) (w : World) : Calls Try.prog 70 #[.slice A l.length c] w fun e w' => e = .returned (.int .i64 l.length) ∧ w' = w := by
  go_enter Try.func70, Try.ntmps70
  go_wp2
  go_ret
  exact ⟨rfl, rfl⟩

/-! ### impl_counting: function 75 -/
def impl_counting.l0 : Nat → List Int → Int → Int → Option (List Int)
  | 0, _, _, _ => none
  | k + 1, x3, x5, x6 => if x6 < x5 then (if x3.length < 17592186044416 then (impl_counting.l0 k (x3 ++ [x6]) x5 (wrap64 (x6 + 1))) else (none)) else (some x3)
def impl_counting.f (k : Nat) (a0 : Int) : Option (List Int) := impl_counting.l0 k ([] : List Int) a0 0
theorem impl_counting.mono_l : ∀ k, (∀ y0 y1 y2, LeO (impl_counting.l0 k y0 y1 y2) (impl_counting.l0 (k + 1) y0 y1 y2))
  | 0 => fun _ _ _ r h => by simp [impl_counting.l0] at h
  | k + 1 => by
    have ih0 := impl_counting.mono_l k
    · intro y0 y1 y2
      unfold impl_counting.l0
      repeat' first
      | (with_reducible exact ih0 _ _ _)
      | (with_reducible exact LeO.refl _)
      | (with_reducible exact LeO.none _)
      | (with_reducible refine LeO.ite ?_ ?_)
      | (with_reducible refine LeO.bind ?_ (fun _ => ?_))
      | exact ih0 _ _ _
      | exact LeO.none _
      | refine LeO.ite ?_ ?_
      | refine LeO.bind ?_ (fun _ => ?_)
theorem impl_counting.mono : ∀ a0 k, LeO (impl_counting.f k a0) (impl_counting.f (k + 1) a0) := by
  intro a0 k
  have ih0 := impl_counting.mono_l k
  unfold impl_counting.f
  repeat' first
      | (with_reducible exact ih0 _ _ _)
      | (with_reducible exact LeO.refl _)
      | (with_reducible exact LeO.none _)
      | (with_reducible refine LeO.ite ?_ ?_)
      | (with_reducible refine LeO.bind ?_ (fun _ => ?_))
      | exact ih0 _ _ _
      | exact LeO.none _
      | refine LeO.ite ?_ ?_
      | refine LeO.bind ?_ (fun _ => ?_)
set_option maxHeartbeats 8000000 in
set_option maxRecDepth 100000 in
theorem impl_counting.calls (k : Nat) (a0 : Int) (r : List Int) (w : World) (h : impl_counting.f k a0 = some r) :
    Calls Try.prog 75 #[.int .i64 a0] w fun e w' => ∃ v0_ : Value, e = .returned (v0_) ∧ Kd.R (Kd.int .i64) 2 w' w.heap.size (fun _ => True) v0_ r ∧ Below w.heap.size w w' := by
  have HB := Aside0.mk (Below.refl w.heap.size w)
  have H : (impl_counting.l0 k ([] : List Int) a0 0) = some r := h
  clear h
  have H' := Aside0.mk H
  clear H
  go_enter Try.func75, Try.ntmps75
  go_wp2
  go_loopg [3, 6] k (fun kq v3 v6 w' => ∃ (x3_1 : List Int) (x6_1 : Int), v6 = .int .i64 x6_1 ∧ Aside0 (impl_counting.l0 kq x3_1 a0 x6_1 = some r) ∧ Aside0 (kq ≤ k) ∧ Aside0 (Kd.R (Kd.int .i64) 2 w' w.heap.size (fun _ => True) v3 x3_1) ∧ Aside0 (Below w.heap.size w w'))
  case atStart => exact ⟨(([] : List Int)), (0), (by first | rfl | (simp; done) | (simp [*]; done)), H', ⟨Nat.le_refl _⟩, ⟨by first | exact Kd.R_nil _ _ _ _ _ | exact Kd.N_nil _ _ _ _ _ | exact Kd.V_nil _ _ _ _ _ | exact Kd.Q_nil _ _ _ _ _ | exact Kd.S_nil _ _ _ _ _⟩, ⟨by repeat (first | (with_reducible first | exact HB.out | apply below_alloc | apply pw_below_drewN | apply below_drew1) | exact HB.out)⟩⟩
  case round =>
    clear H'
    obtain ⟨x3_1, x6_1, rfl, HA, HK1, HO_3, HB⟩ := hrel
    cases gk with
    | zero => exact absurd HA.out (by simp [impl_counting.l0])
    | succ k1 =>
      have H := HA.out
      clear HA
      simp only [impl_counting.l0] at H
      by_cases c2 : x6_1 < a0
      · rw [if_pos c2] at H
        have c2b0 : decide (x6_1 < a0) = true := decide_eq_true c2
        clear c2
        by_cases c3 : x3_1.length < 17592186044416
        · rw [if_pos c3] at H
          have LMc3 := Aside0.mk c3
          clear c3
          obtain ⟨y145, hy145⟩ : ∃ y_ : List Int, y_ = (x3_1 ++ [x6_1]) := ⟨_, rfl⟩
          replace H : (impl_counting.l0 k1 y145 a0 (wrap64 (x6_1 + 1))) = some r := by first | (rw [hy145]; with_reducible exact H) | (have H2_ := (Option.bind_some _ _).symm.trans H; rw [hy145]; with_reducible exact H2_) | (have H2_ := (Option.bind_some _ _).symm.trans H; with_reducible exact H2_) | with_reducible exact H | (rw [hy145]; exact H) | exact H
          have Ny145 := Aside0.mk hy145
          clear hy145
          have H' := Aside0.mk H
          clear H
          go_wp2_with (first | ((with_reducible refine gate_builtin (b := .append) (xs := #[.tmp 9, .tmp 11]) rfl ?_); at_builtin; refine Kd.R_append (Kd.int .i64) (w0 := w) w.heap.size rfl (.tmp 9) (.tmp 11) 26 2 (.int .i64 0) 8 rfl Try.underlying26 info2 rfl (by decide) (by omega) u3 x3_1 x6_1 [.int .i64 x6_1] (fun _ => True) (fun _ => False) rfl rfl ?aP (fun _ hk => hk.elim) ?aF ?aO ?aB ?aS ?aL ?_; (case aP => exact rfl); (case aB => exact (by repeat (first | (with_reducible first | exact HB.out | apply below_alloc | apply pw_below_drewN | apply below_drew1) | exact HB.out))); (case aF => exact (fun _ _ => trivial)); (case aO => exact (by (with_reducible repeat (first | apply Kd.R_alloc | apply Kd.R_drewN | apply Kd.R_drew)); exact HO_3.out)); (case aS => exact (below_size (by repeat (first | (with_reducible first | exact HB.out | apply below_alloc | apply pw_below_drewN | apply below_drew1) | exact HB.out)))); (case aL => have := LMc3.out; omega); intro v146 w4 ho hb hg hat; rw [← Ny145.out] at ho; have n0_ := Aside0.mk (hb); have n1_ := Aside0.mk (ho); clear HB; clear HO_3; have HB := n0_; have HO147 := n1_; clear n0_ n1_; clear ho hb hg hat))
          go_roundg k1
          case measure => have := HK1.out; omega
          case rel => exact ⟨(y145), (wrap64 (x6_1 + 1)), (by first | rfl | (simp; done) | (simp [*]; done)), H', ⟨by have := HK1.out; omega⟩, ⟨by (with_reducible repeat (first | apply Kd.R_alloc | apply Kd.R_drewN | apply Kd.R_drew)); exact HO147.out⟩, ⟨by repeat (first | (with_reducible first | exact HB.out | apply below_alloc | apply pw_below_drewN | apply below_drew1) | exact HB.out)⟩⟩
        · rw [if_neg c3] at H
          exact absurd H (by simp)
      · rw [if_neg c2] at H
        have c2b0 : decide (x6_1 < a0) = false := decide_eq_false c2
        clear c2
        obtain rfl := Option.some.inj H
        go_wp2
        go_ret
        exact ⟨_, by first | rfl | (simp [errW_none, errW_some] <;> rfl) | (simp [*, errW_none, errW_some] <;> rfl), by (with_reducible repeat (first | apply Kd.R_alloc | apply Kd.R_drewN | apply Kd.R_drew)); exact HO_3.out, by repeat (first | (with_reducible first | exact HB.out | apply below_alloc | apply pw_below_drewN | apply below_drew1) | exact HB.out)⟩

/-! ### impl_matchingAt: function 66 -/
def impl_matchingAt.l0 : Nat → Int → List Int → List Int → Option (List Int)
  | 0, _, _, _ => none
  | k + 1, n, L, O => if 0 < L.length then (impl_matchings.f k (wrap64 ((L.length : Int) - 2))).bind fun t =>
      if (0 < t ∧ t ≤ 1000000000 ∧ 0 ≤ n ∧ n ≤ 1000000000) ∧ n.tdiv t + 1 < (L.length : Int) ∧ (0 ≤ rd L 0 ∧ rd L 0 < (O.length : Int)) ∧ 0 ≤ rd L (n.tdiv t + 1) ∧ rd L (n.tdiv t + 1) < (O.length : Int) then
        impl_matchingAt.l0 k (n.tmod t) (((L.take ((n.tdiv t).toNat + 1) ++ L.drop ((n.tdiv t).toNat + 1 + 1))).drop 1) ((O.set (rd L 0).toNat (rd L (n.tdiv t + 1))).set (rd L (n.tdiv t + 1)).toNat (rd L 0))
      else none
    else some O
def impl_matchingAt.f (k : Nat) (m n : Int) : Option (List Int) := (impl_counting.f k m).bind fun L => if 0 ≤ m ∧ m ≤ 1000 ∧ L.length ≤ 1000 then impl_matchingAt.l0 k n L (List.replicate m.toNat 0) else none
theorem impl_matchingAt.mono_l : ∀ k n L O, LeO (impl_matchingAt.l0 k n L O) (impl_matchingAt.l0 (k + 1) n L O)
  | 0, n, L, O => LeO.none _
  | k + 1, n, L, O => LeO.ite (LeO.bind (impl_matchings.mono _ k) fun t => LeO.ite (impl_matchingAt.mono_l k _ _ _) (LeO.refl _)) (LeO.refl _)
theorem impl_matchingAt.mono : ∀ m n k, LeO (impl_matchingAt.f k m n) (impl_matchingAt.f (k + 1) m n) := fun m n k =>
  LeO.bind (impl_counting.mono m k) fun _ => LeO.ite (impl_matchingAt.mono_l k _ _ _) (LeO.refl _)
theorem w64s (x : Int) (h0 : -4611686018427387904 ≤ x) (h1 : x ≤ 4611686018427387904) : wrap64 x = x := by
  unfold wrap64
  omega
theorem wis (x : Int) (h0 : -4611686018427387904 ≤ x) (h1 : x ≤ 4611686018427387904) : IntKind.i64.wrap x = x := by
  rw [i64_w]
  exact w64s x h0 h1
theorem putrow_far {w : World} {g off k : Nat} (q : Nat) (M : Array Int) (hk : k ≠ g) : (Go.Sort.putRow (Value.int .i64) (Go.Sort.ahead w q) g off M).heap[k]? = w.heap[k]? := by
  show (w.heap.modify g _)[k]? = _
  rw [Array.getElem?_modify, if_neg (Ne.symm hk)]
theorem putrow_below {B : Nat} {v w : World} (h : Below B v w) {g off : Nat} (hg : B ≤ g) (q : Nat) (M : Array Int) : Below B v (Go.Sort.putRow (Value.int .i64) (Go.Sort.ahead w q) g off M) :=
  ⟨h.os, h.tape, h.output, by show _ ≤ (w.heap.modify g _).size; rw [Array.size_modify]; exact h.size, fun k hk => (putrow_far q M (by omega)).trans (h.block k hk)⟩
theorem holds_cell {w : World} {g off : Nat} {L : List Int} (h : Go.Sort.Holds (Value.int .i64) w g off L.toArray) (j : Nat) (hj : j < L.length) : w.cell? ⟨g, off + j, none⟩ = some (.int .i64 (rd L j)) := by
  rw [(h j (by simpa using hj)).1]
  congr 2
  rw [getElem!_pos _ j (by simpa using hj)]
  simp [rd, List.getD, List.getElem?_eq_getElem hj]
theorem holds_of_cells {w : World} {g off : Nat} {L : List Int} (h : ∀ j, j < L.length → w.cell? ⟨g, off + j, none⟩ = some (.int .i64 (rd L j)) ∧ w.frozen? ⟨g, off + j, none⟩ = false) : Go.Sort.Holds (Value.int .i64) w g off L.toArray := by
  intro j hj
  have hj' : j < L.length := by simpa using hj
  refine ⟨?_, (h j hj').2⟩
  rw [(h j hj').1]
  congr 2
  rw [getElem!_pos _ j hj]
  simp [rd, List.getD, List.getElem?_eq_getElem hj']
theorem holds_sub {w : World} {g off : Nat} {M : List Int} (h : Go.Sort.Holds (Value.int .i64) w g off M.toArray) (i : Nat) (L : List Int) (hl : i + L.length ≤ M.length) (he : ∀ j, j < L.length → rd L j = rd M ((i + j : Nat) : Int)) : Go.Sort.Holds (Value.int .i64) w g (off + i) L.toArray :=
  holds_of_cells fun j hj => by
    rw [Nat.add_assoc, he j hj]
    exact ⟨holds_cell h (i + j) (by omega), (h (i + j) (by simp; omega)).2⟩
theorem holds_blocks {w w' : World} {g off : Nat} {L : Array Int} (h : Go.Sort.Holds (Value.int .i64) w g off L) (e : w'.heap[g]? = w.heap[g]?) : Go.Sort.Holds (Value.int .i64) w' g off L := fun j hj => by
  have := h j hj
  exact ⟨by rw [← this.1]; exact World.cell?_of_block (w := w) e, by rw [← this.2]; exact World.frozen?_of_block (w := w) e⟩
theorem del_at (g off c j : Nat) (L : List Int) (W : World) (hH : Go.Sort.Holds (Value.int .i64) W g off L.toArray) (hc : L.length ≤ c) (hm : c ≤ 9223372036854775807) (hj : j < L.length) :
    Calls Try.prog 69 #[.slice (some ⟨g, off, none⟩) L.length c, .int .i64 j, .int .i64 ((j + 1 : Nat) : Int)] W fun e w' => e = .returned (.slice (some ⟨g, off, none⟩) (L.length - 1) c) ∧ ∃ q, w' = Go.Sort.putRow (Value.int .i64) (Go.Sort.ahead W q) g off (L.take j ++ L.drop (j + 1) ++ [0]).toArray := by
  have h := deleteInts g off c j L.toArray W hH (by simpa using hc) hm (by simp; omega)
  rw [List.size_toArray, show j + 1 - j = 1 by omega] at h
  exact h
/-- The walk's state: the slice that is filled, and the numbers that are left. -/
structure MatW (O L : List Int) (A : Option Addr) (c gO : Nat) (w wr : World) : Prop where
  b : Below w.heap.size w wr
  o : wr.heap[gO]? = some (.cells (nums .i64 O).toArray 2 (0, 0))
  og : w.heap.size ≤ gO
  l : 0 < L.length → ∃ g off, A = some ⟨g, off, none⟩ ∧ w.heap.size ≤ g ∧ g ≠ gO ∧ g < wr.heap.size ∧ Go.Sort.Holds (Value.int .i64) wr g off L.toArray ∧ L.length ≤ c ∧ c ≤ 9223372036854775807
theorem MatW.drewN {O L : List Int} {A : Option Addr} {c gO : Nat} {w wr : World} (h : MatW O L A c gO w wr) (n : Nat) : MatW O L A c gO w (wr.drewN n) := ⟨pw_below_drewN h.b n, h.o, h.og, h.l⟩
theorem matW_start {w w1 w2 : World} {v : Value} {L O : List Int} {gO : Nat} (hO : w1.heap[gO]? = some (.cells (nums .i64 O).toArray 2 (0, 0))) (hg : w.heap.size ≤ gO) (hb1 : Below w.heap.size w w1) (hb : Below w1.heap.size w1 w2) (hR : Kd.R (Kd.int .i64) 2 w2 w1.heap.size (fun _ => True) v L) :
    ∃ A c, v = .slice A L.length c ∧ MatW O L A c gO w w2 := by
  have ho := Kd.own_of_R hR
  have hlt := blk_lt hO
  obtain ⟨hlen, h | ⟨g, cap, cur, rfl, hbase, hh, h1, h2, h3, h4⟩⟩ := ho
  · refine ⟨none, 0, ?_, below_then hb1 hb1.size hb, (blk_below hO hb).trans rfl, hg, fun hp => by omega⟩
    rw [h.1, h.2]
  · refine ⟨some ⟨g, 0, none⟩, cap, rfl, below_then hb1 hb1.size hb, (blk_below hO hb).trans rfl, hg, fun _ => ⟨g, 0, rfl, by have := hb1.size; omega, by omega, blk_lt hh, ?_, h1, by unfold maxLen at h2; omega⟩⟩
    refine holds_of_cells fun j hj => ⟨?_, blk_frozen hh _⟩
    rw [Nat.zero_add, blk_cell hh j]
    have h5 : (cur.toList.take (L.length * 1))[j]? = (encs (Value.int .i64) L)[j]? := by rw [h4]
    rw [List.getElem?_take, if_pos (by omega), Array.getElem?_toList] at h5
    rw [h5]
    simp [encs, rd, List.getD, List.getElem?_eq_getElem hj]
set_option maxHeartbeats 8000000 in
set_option maxRecDepth 100000 in
theorem impl_matchingAt.calls (k : Nat) (m n : Int) (r : List Int) (w : World) (h : impl_matchingAt.f k m n = some r) :
    Calls Try.prog 66 #[.int .i64 m, .int .i64 n] w fun e w' => ∃ v0_ : Value, e = .returned (v0_) ∧ Kd.R (Kd.int .i64) 2 w' w.heap.size (fun _ => True) v0_ r ∧ Below w.heap.size w w' := by
  unfold impl_matchingAt.f at h
  obtain ⟨L, hL, h⟩ := Option.bind_eq_some_iff.mp h
  by_cases hc : 0 ≤ m ∧ m ≤ 1000 ∧ L.length ≤ 1000
  case neg => rw [if_neg hc] at h; exact absurd h (by simp)
  rw [if_pos hc] at h
  have CC := Aside0.mk (fun W => impl_counting.calls k m L W hL)
  obtain ⟨m', rfl⟩ : ∃ m' : Nat, m = m' := ⟨m.toNat, by omega⟩
  rw [Int.toNat_natCast] at h
  have HL := Aside0.mk h
  have HC := Aside0.mk hc
  have HM := Aside0.mk (show m' ≤ 1000 by omega)
  have hmk := print_make (P := Try.prog) 26 2 .i64 8 Try.underlying26 info2 (by decide) m' (by omega)
  clear h hc hL
  go_enter Try.func66, Try.ntmps66
  go_wp2_with (go_at_call 75; refine (CC.out _).mono ?_; rintro e w2 ⟨v, rfl, hR, hb2⟩)
  have hz : (madeCells #[Value.int .i64 0] m') = (nums .i64 (List.replicate m' 0)).toArray := by
    apply Array.ext'
    apply List.ext_getElem
    · simp [nums, madeCells]
    · intro i h1 h2
      simp [nums, madeCells, Nat.mod_one]
  rw [hz] at hR hb2
  obtain ⟨A, c, rfl, hW⟩ := matW_start (heap_alloc_new w _) (Nat.le_refl _) (below_alloc (Below.refl _ _) _) hb2 hR
  have HW := Aside0.mk hW
  clear hz hR hb2 hW CC hmk
  go_loopg [1, 6] k (fun gg s1 s6 wr => ∃ (n : Int) (L : List Int) (A : Option Addr) (c : Nat) (O : List Int), s1 = .int .i64 n ∧ s6 = .slice A L.length c ∧ Aside0 (O.length = m' ∧ L.length ≤ 1000) ∧ Aside0 (impl_matchingAt.l0 gg n L O = some r) ∧ Aside0 (gg ≤ k) ∧ Aside0 (MatW O L A c w.heap.size w wr))
  case atStart => exact ⟨n, L, A, c, _, rfl, rfl, ⟨by simp, HC.out.2.2⟩, HL, ⟨Nat.le_refl _⟩, HW⟩
  case round =>
    clear HL HW HC
    obtain ⟨n, L, A, c, O, rfl, rfl, HO, HL, HK, HW⟩ := hrel
    cases gk with
    | zero => exact absurd HL.out (by simp [impl_matchingAt.l0])
    | succ k1 =>
      have H := HL.out
      simp only [impl_matchingAt.l0] at H
      by_cases hp : 0 < L.length
      case neg =>
        rw [if_neg hp] at H
        obtain rfl := Option.some.inj H
        have hd : decide ((L.length : Int) > 0) = false := decide_eq_false (by omega)
        have hd2 : (L.length = 0) = True := eq_true (by omega)
        have hd3 : (0 < L.length) = False := eq_false hp
        clear H hp
        go_wp2
        go_ret
        refine ⟨_, rfl, ?_, HW.out.b⟩
        refine Kd.R_of_own ⟨by simp [encs], .inr ⟨w.heap.size, m', _, ?_, HW.out.og, HW.out.o, by have := HO.out.1; omega, ?_, ?_, ?_⟩⟩ (fun _ _ => trivial)
        · rw [HO.out.1]
          rfl
        · have := HO.out.1
          have := HM.out
          unfold maxLen
          omega
        · simp [nums]
          exact HO.out.1
        · rw [Nat.mul_one]
          exact List.take_of_length_le (by simp [nums])
      case pos =>
        rw [if_pos hp] at H
        obtain ⟨t, ht, H⟩ := Option.bind_eq_some_iff.mp H
        by_cases hcond : (0 < t ∧ t ≤ 1000000000 ∧ 0 ≤ n ∧ n ≤ 1000000000) ∧ n.tdiv t + 1 < (L.length : Int) ∧ (0 ≤ rd L 0 ∧ rd L 0 < (O.length : Int)) ∧ 0 ≤ rd L (n.tdiv t + 1) ∧ rd L (n.tdiv t + 1) < (O.length : Int)
        case neg => rw [if_neg hcond] at H; exact absurd H (by simp)
        rw [if_pos hcond] at H
        obtain ⟨⟨t0, t1, n0, n1⟩, hq, ⟨a0, a1⟩, b0, b1⟩ := hcond
        have q0 := Int.tdiv_nonneg n0 (Int.le_of_lt t0)
        obtain ⟨q, hqq⟩ : ∃ q : Nat, n.tdiv t = q := ⟨(n.tdiv t).toNat, by omega⟩
        rw [hqq] at hq b0 b1 H
        rw [Int.toNat_natCast, show ((q : Int) + 1) = ((q + 1 : Nat) : Int) from rfl] at H
        rw [show ((q : Int) + 1) = ((q + 1 : Nat) : Int) from rfl] at hq b0 b1
        obtain ⟨a, ha⟩ : ∃ a : Nat, rd L 0 = a := ⟨(rd L 0).toNat, by omega⟩
        obtain ⟨b, hb⟩ : ∃ b : Nat, rd L ((q + 1 : Nat) : Int) = b := ⟨(rd L ((q + 1 : Nat) : Int)).toNat, by omega⟩
        rw [ha] at a0 a1 H
        rw [hb] at b0 b1 H
        rw [Int.toNat_natCast, Int.toNat_natCast] at H
        have CM := Aside0.mk (fun W => impl_matchings.calls k1 _ t W ht)
        obtain ⟨g, off, rfl, hg0, hg1, hg2, hH, hLc, hcm⟩ := HW.out.l hp
        have hc0 : wr.cell? ⟨g, off, none⟩ = some (.int .i64 (a : Int)) := by have := holds_cell hH 0 hp; rw [show (((0 : Nat) : Int)) = 0 from rfl, ha] at this; exact this
        have hcq : wr.cell? ⟨g, off + (q + 1), none⟩ = some (.int .i64 (b : Int)) := by have := holds_cell hH (q + 1) (by omega); rw [hb] at this; exact this
        have hoa : wr.cell? ⟨w.heap.size, a, none⟩ = some (.int .i64 (rd O a)) := by rw [blk_cell HW.out.o a]; exact nums_at O a (by omega)
        have hob : wr.cell? ⟨w.heap.size, b, none⟩ = some (.int .i64 (rd O b)) := by rw [blk_cell HW.out.o b]; exact nums_at O b (by omega)
        have hfa := blk_frozen HW.out.o a
        have hfb := blk_frozen HW.out.o b
        have CS := Aside0.mk (fun W => sizeInts (some ⟨g, off, none⟩) c L W)
        have hd : decide ((L.length : Int) > 0) = true := decide_eq_true (by omega)
        have c1 : (0 < L.length) = True := eq_true hp
        have c3 : (t = 0) = False := eq_false (by omega)
        have c4 : (a < m') = True := eq_true (by have := HO.out.1; omega)
        have c5 : (b < m') = True := eq_true (by have := HO.out.1; omega)
        have c6 : (1 ≤ L.length - 1) = True := eq_true (by omega)
        have c7 : (c = 1) = False := eq_false (by omega)
        have c12 : ((1 : Int) ≤ ((L.length - 1 : Nat) : Int)) = True := eq_true (by omega)
        have c8 : (1 ≤ c) = True := eq_true (by omega)
        have c9 : (L.length - 1 ≤ c) = True := eq_true (by omega)
        have c10 : (L.length ≤ c) = True := eq_true hLc
        have c11 : (1 < L.length) = True := eq_true (by omega)
        have k0 : -4611686018427387904 ≤ (q : Int) + 1 := by omega
        have k1_ : (q : Int) + 1 ≤ 4611686018427387904 := by have := HO.out.2; omega
        have k2 : -4611686018427387904 ≤ (q : Int) + 2 := by omega
        have k3 : (q : Int) + 2 ≤ 4611686018427387904 := by have := HO.out.2; omega
        have k4 : -4611686018427387904 ≤ n.tdiv t := by omega
        have k5 : n.tdiv t ≤ 4611686018427387904 := by have := HO.out.2; omega
        obtain ⟨j, hj⟩ : ∃ j, j = q + 1 := ⟨_, rfl⟩
        have hql : j < L.length := by omega
        rw [← hj] at hcq
        have wq : wrap64 (n.tdiv t) = (q : Int) := (w64s _ k4 k5).trans hqq
        have wq' : IntKind.i64.wrap (n.tdiv t) = (q : Int) := (wis _ k4 k5).trans hqq
        have w1 : IntKind.i64.wrap ((q : Int) + 1) = (j : Int) := (wis _ k0 k1_).trans (by rw [hj]; rfl)
        have w2 : IntKind.i64.wrap ((q : Int) + 2) = ((j + 1 : Nat) : Int) := (wis _ k2 k3).trans (by rw [hj]; rfl)
        have w1' : wrap64 ((q : Int) + 1) = (j : Int) := (w64s _ k0 k1_).trans (by rw [hj]; rfl)
        have w2' : wrap64 ((q : Int) + 2) = ((j + 1 : Nat) : Int) := (w64s _ k2 k3).trans (by rw [hj]; rfl)
        have c2 : (j < L.length) = True := eq_true hql
        clear k0 k1_ k2 k3 k4 k5
        have HQ := Aside0.mk (And.intro hql hp)
        have HAB := Aside0.mk (show b < O.length by omega)
        have CD := Aside0.mk (fun (W : World) (hW : Go.Sort.Holds (Value.int .i64) W g off L.toArray) => del_at g off c j L W hW hLc hcm hql)
        have HR := Aside0.mk (show impl_matchingAt.l0 k1 (n.tmod t) ((L.take j ++ L.drop (j + 1)).drop 1) ((O.set a b).set b a) = some r from by rw [hj]; exact H)
        have HG := Aside0.mk (And.intro hg0 (And.intro hg1 (And.intro hg2 (And.intro hLc hcm))))
        have HH := Aside0.mk hH
        clear H ht hqq hql hj ha hb a0 a1 b0 b1 hq q0 t0 t1 n0 n1 hp hg0 hg1 hg2 hH hLc hcm
        go_wp2_with (first
          | (go_at_call 70; refine (CS.out _).mono ?_; rintro e w3 ⟨rfl, rfl⟩)
          | (go_at_call 65; refine (CM.out _).mono ?_; rintro e w4 ⟨rfl, hd4⟩; obtain ⟨n4, hn4⟩ := hd4.out; have HX4 := Aside0.mk (show MatW O L (some ⟨g, off, none⟩) c w.heap.size w w4 ∧ (w4.cell? ⟨g, off, none⟩ = some (.int .i64 (a : Int)) ∧ w4.cell? ⟨g, off + j, none⟩ = some (.int .i64 (b : Int)) ∧ w4.cell? ⟨w.heap.size, a, none⟩ = some (.int .i64 (rd O a)) ∧ w4.cell? ⟨w.heap.size, b, none⟩ = some (.int .i64 (rd O b)) ∧ w4.frozen? ⟨w.heap.size, a, none⟩ = false ∧ w4.frozen? ⟨w.heap.size, b, none⟩ = false) ∧ Go.Sort.Holds (Value.int .i64) w4 g off L.toArray ∧ g < w4.heap.size from by rw [hn4]; exact ⟨HW.out.drewN n4, ⟨hc0, hcq, hoa, hob, hfa, hfb⟩, HH.out, HG.out.2.2.1⟩); clear hn4 hd4 hc0 hcq hoa hob hfa hfb HW HH; obtain ⟨hc0, hcq, hoa, hob, hfa, hfb⟩ := HX4.out.2.1))
        go_quiet (fail)
        have hbs : ((w4.drewN nq).setCell ⟨w.heap.size, a, none⟩ (.int .i64 (b : Int))).heap[w.heap.size]? = some (.cells (nums .i64 (O.set a b)).toArray 2 (0, 0)) := (blk_set (blk_drewN HX4.out.1.o nq) a _).trans (by rw [nums_set])
        have hob2 : ((w4.drewN nq).setCell ⟨w.heap.size, a, none⟩ (.int .i64 (b : Int))).cell? ⟨w.heap.size, b, none⟩ = some (.int .i64 (rd (O.set a b) b)) := (blk_cell hbs b).trans (nums_at _ b (by rw [List.length_set]; exact HAB.out))
        have hfb2 := blk_frozen hbs b
        have HBS := Aside0.mk hbs
        clear hbs
        have hH5 : Go.Sort.Holds (Value.int .i64) (((w4.drewN nq).setCell ⟨w.heap.size, a, none⟩ (.int .i64 (b : Int))).setCell ⟨w.heap.size, b, none⟩ (.int .i64 (a : Int))) g off L.toArray := by
          refine holds_blocks HX4.out.2.2.1 ?_
          rw [Below.heap_setCell _ _ _ _ (by exact HG.out.2.1), Below.heap_setCell _ _ _ _ (by exact HG.out.2.1)]
          rfl
        have H5 := Aside0.mk hH5
        clear hH5
        go_wp2_with (go_at_call 69; refine (CD.out _ H5.out).mono ?_; rintro e w7 ⟨rfl, q7, hw7⟩; have HW7 := Aside0.mk hw7; clear hw7)
        go_roundg k1
        case measure => omega
        case rel =>
          have hjl := HQ.out.1
          have hlen : ((L.take j ++ L.drop (j + 1)).drop 1).length = L.length - 1 - 1 := by simp; omega
          have hlen2 : (L.take j ++ L.drop (j + 1) ++ [(0 : Int)]).length = L.length := by simp; omega
          refine ⟨n.tmod t, (L.take j ++ L.drop (j + 1)).drop 1, some ⟨g, off + 1, none⟩, c - 1, (O.set a b).set b a, rfl, by rw [hlen], ⟨by rw [List.length_set, List.length_set]; exact HO.out.1, by rw [hlen]; have := HO.out.2; omega⟩, HR, ⟨by have := HK.out; omega⟩, ⟨?_⟩⟩
          rw [HW7.out]
          refine ⟨putrow_below (((pw_below_drewN HX4.out.1.b nq).setCell (Nat.le_refl _) _).setCell (Nat.le_refl _) _) HG.out.1 q7 _, ?_, Nat.le_refl _, fun _ => ⟨g, off + 1, rfl, HG.out.1, HG.out.2.1, ?_, ?_, ?_, ?_⟩⟩
          · refine (putrow_far q7 _ (Ne.symm HG.out.2.1)).trans ((blk_set HBS.out b _).trans ?_)
            rw [nums_set]
          · show _ < (((((w4.drewN nq).setCell ⟨w.heap.size, a, none⟩ (.int .i64 (b : Int))).setCell ⟨w.heap.size, b, none⟩ (.int .i64 (a : Int))).heap.modify g _)).size
            rw [Array.size_modify]
            have h1 := (Below.setCell (Below.setCell (Below.refl 0 (w4.drewN nq)) (p := ⟨w.heap.size, a, none⟩) (Nat.zero_le _) (.int .i64 (b : Int))) (p := ⟨w.heap.size, b, none⟩) (Nat.zero_le _) (.int .i64 (a : Int))).size
            exact Nat.lt_of_lt_of_le HX4.out.2.2.2 h1
          · refine holds_sub (Go.Sort.holds_putRow (Value.int .i64) _ g off L.toArray _ (Go.Sort.holds_ahead _ _ _ _ _ _ H5.out) (by simpa using hlen2)) 1 _ (by rw [hlen, hlen2]; omega) ?_
            intro i hi
            rw [hlen] at hi
            have hXl : (L.take j ++ L.drop (j + 1)).length = L.length - 1 := by simp; omega
            generalize L.take j ++ L.drop (j + 1) = X at hXl ⊢
            simp only [rd, Int.toNat_natCast, List.getD]
            rw [List.getElem?_drop, List.getElem?_append_left (by omega)]
          · rw [hlen]
            have := HG.out.2.2.2.1
            omega
          · have := HG.out.2.2.2.2
            omega

/-! ### impl_MatchingAt: function 40 -/
def impl_MatchingAt.f (k : Nat) (a0 : Int) (a1 : Int) : Option (List Int × Bool) := (impl_isEven.f a0).bind fun t148 => (if t148 = true then ((impl_matchings.f k a0).bind fun t149 => ((impl_inRange.f a1 0 (wrap64 (t149 - 1))).bind fun t150 => (if t150 = true then ((impl_matchingAt.f k a0 a1).bind fun t151 => (some (t151, true))) else (some (([] : List Int), false))))) else (some (([] : List Int), false)))
theorem impl_MatchingAt.mono : ∀ a0 a1 k, LeO (impl_MatchingAt.f k a0 a1) (impl_MatchingAt.f (k + 1) a0 a1) := by
  intro a0 a1 k
  unfold impl_MatchingAt.f
  repeat' first
      | (with_reducible exact impl_matchingAt.mono _ _ _)
      | (with_reducible exact impl_matchings.mono _ _)
      | (with_reducible exact LeO.refl _)
      | (with_reducible exact LeO.none _)
      | (with_reducible refine LeO.ite ?_ ?_)
      | (with_reducible refine LeO.bind ?_ (fun _ => ?_))
      | exact impl_matchingAt.mono _ _ _
      | exact impl_matchings.mono _ _
      | exact LeO.none _
      | refine LeO.ite ?_ ?_
      | refine LeO.bind ?_ (fun _ => ?_)
set_option maxHeartbeats 8000000 in
set_option maxRecDepth 100000 in
theorem impl_MatchingAt.calls (k : Nat) (a0 : Int) (a1 : Int) (r1 : List Int) (r2 : Bool) (w : World) (h : impl_MatchingAt.f k a0 a1 = some (r1, r2)) :
    Calls Try.prog 40 #[.int .i64 a0, .int .i64 a1] w fun e w' => ∃ v0_ : Value, e = .returned (.tuple #[v0_, .bool r2]) ∧ Kd.R (Kd.int .i64) 2 w' w.heap.size (fun _ => True) v0_ r1 ∧ Below w.heap.size w w' := by
  have HB := Aside0.mk (Below.refl w.heap.size w)
  have H : ((impl_isEven.f a0).bind fun t148 => (if t148 = true then ((impl_matchings.f k a0).bind fun t149 => ((impl_inRange.f a1 0 (wrap64 (t149 - 1))).bind fun t150 => (if t150 = true then ((impl_matchingAt.f k a0 a1).bind fun t151 => (some (t151, true))) else (some (([] : List Int), false))))) else (some (([] : List Int), false)))) = some (r1, r2) := h
  clear h
  replace H := Option.bind_eq_some_iff.mp H
  obtain ⟨t148, A30, H⟩ := H
  replace H : (if t148 = true then ((impl_matchings.f k a0).bind fun t149 => ((impl_inRange.f a1 0 (wrap64 (t149 - 1))).bind fun t150 => (if t150 = true then ((impl_matchingAt.f k a0 a1).bind fun t151 => (some (t151, true))) else (some (([] : List Int), false))))) else (some (([] : List Int), false))) = some (r1, r2) := H
  have A3 := Aside0.mk A30
  clear A30
  by_cases c4 : t148 = true
  · subst c4
    have H1 : ((impl_matchings.f k a0).bind fun t149 => ((impl_inRange.f a1 0 (wrap64 (t149 - 1))).bind fun t150 => (if t150 = true then ((impl_matchingAt.f k a0 a1).bind fun t151 => (some (t151, true))) else (some (([] : List Int), false))))) = some (r1, r2) := by rw [if_pos rfl] at H; exact H
    clear H
    have H := H1
    clear H1
    replace H := Option.bind_eq_some_iff.mp H
    obtain ⟨t149, A50, H⟩ := H
    replace H : ((impl_inRange.f a1 0 (wrap64 (t149 - 1))).bind fun t150 => (if t150 = true then ((impl_matchingAt.f k a0 a1).bind fun t151 => (some (t151, true))) else (some (([] : List Int), false)))) = some (r1, r2) := H
    have A5 := Aside0.mk A50
    clear A50
    replace H := Option.bind_eq_some_iff.mp H
    obtain ⟨t150, A60, H⟩ := H
    replace H : (if t150 = true then ((impl_matchingAt.f k a0 a1).bind fun t151 => (some (t151, true))) else (some (([] : List Int), false))) = some (r1, r2) := H
    have A6 := Aside0.mk A60
    clear A60
    by_cases c7 : t150 = true
    · subst c7
      have H1 : ((impl_matchingAt.f k a0 a1).bind fun t151 => (some (t151, true))) = some (r1, r2) := by rw [if_pos rfl] at H; exact H
      clear H
      have H := H1
      clear H1
      replace H := Option.bind_eq_some_iff.mp H
      obtain ⟨t151, A80, H⟩ := H
      replace H : (some (t151, true)) = some (r1, r2) := H
      have A8 := Aside0.mk A80
      clear A80
      simp only [Option.some.injEq, Prod.mk.injEq] at H
      obtain ⟨rfl, rfl⟩ := H
      go_enter Try.func40, Try.ntmps40
      go_wp2_with (first | ((with_reducible refine gate_callee (f := 63) rfl ?_); refine goesL_ (some 7) rfl rfl Try.func63 (by kernel_rfl) rfl #[.int .i64 a0] rfl (by (try simp only [List.map_toArray, List.map_cons, List.map_nil]); first | done | rfl | (simp only [List.length_drop, List.length_take]; rfl)) ?_; (with_reducible refine (impl_isEven.calls a0 true _ A3.out).mono ?_); rintro e w' ⟨rfl, ⟨nd, rfl⟩⟩; refine ⟨_, rfl, ?_⟩) | (go_at_call 65; (with_reducible refine (impl_matchings.calls k a0 t149 _ A5.out).mono ?_); rintro e w' ⟨rfl, ⟨nd, rfl⟩⟩) | (go_at_call 64; (with_reducible refine (impl_inRange.calls a1 0 (wrap64 (t149 - 1)) true _ A6.out).mono ?_); rintro e w' ⟨rfl, ⟨nd, rfl⟩⟩) | ((with_reducible refine gate_callee (f := 66) rfl ?_); refine goesL_ (some 19) rfl rfl Try.func66 (by kernel_rfl) rfl #[.int .i64 a0, .int .i64 a1] rfl (by (try simp only [List.map_toArray, List.map_cons, List.map_nil]); first | done | rfl | (simp only [List.length_drop, List.length_take]; rfl)) ?_; (with_reducible refine (impl_matchingAt.calls k a0 a1 t151 _ A8.out).mono ?_); rintro e w9 ⟨v152, rfl, ho0, hb⟩; refine ⟨_, rfl, ?_⟩; have n0_ := Aside0.mk (Kd.R_lower ho0 (below_size (by repeat (first | (with_reducible first | exact HB.out | apply below_alloc | apply pw_below_drewN | apply below_drew1) | exact HB.out)))); have n1_ := Aside0.mk (below_step (by repeat (first | (with_reducible first | exact HB.out | apply below_alloc | apply pw_below_drewN | apply below_drew1) | exact HB.out)) hb); clear HB; have HO153 := n0_; have HB := n1_; clear n0_ n1_; (try clear hb); (try clear hb2); (try clear hk); (try clear hi); (try clear ho0)))
      go_ret2
      exact ⟨_, by first | rfl | (simp [errW_none, errW_some] <;> rfl) | (simp [*, errW_none, errW_some] <;> rfl), by (with_reducible repeat (first | apply Kd.R_alloc | apply Kd.R_drewN | apply Kd.R_drew)); exact HO153.out, by repeat (first | (with_reducible first | exact HB.out | apply below_alloc | apply pw_below_drewN | apply below_drew1) | exact HB.out)⟩
    · replace c7 := Bool.eq_false_iff.mpr c7
      subst c7
      have H1 : (some (([] : List Int), false)) = some (r1, r2) := by rw [if_neg (show ¬ (false = true) by decide)] at H; exact H
      clear H
      have H := H1
      clear H1
      simp only [Option.some.injEq, Prod.mk.injEq] at H
      obtain ⟨rfl, rfl⟩ := H
      go_enter Try.func40, Try.ntmps40
      go_wp2_with (first | ((with_reducible refine gate_callee (f := 63) rfl ?_); refine goesL_ (some 7) rfl rfl Try.func63 (by kernel_rfl) rfl #[.int .i64 a0] rfl (by (try simp only [List.map_toArray, List.map_cons, List.map_nil]); first | done | rfl | (simp only [List.length_drop, List.length_take]; rfl)) ?_; (with_reducible refine (impl_isEven.calls a0 true _ A3.out).mono ?_); rintro e w' ⟨rfl, ⟨nd, rfl⟩⟩; refine ⟨_, rfl, ?_⟩) | (go_at_call 65; (with_reducible refine (impl_matchings.calls k a0 t149 _ A5.out).mono ?_); rintro e w' ⟨rfl, ⟨nd, rfl⟩⟩) | (go_at_call 64; (with_reducible refine (impl_inRange.calls a1 0 (wrap64 (t149 - 1)) false _ A6.out).mono ?_); rintro e w' ⟨rfl, ⟨nd, rfl⟩⟩))
      go_ret2
      exact ⟨_, by first | rfl | (simp [errW_none, errW_some] <;> rfl) | (simp [*, errW_none, errW_some] <;> rfl), by first | exact Kd.R_nil _ _ _ _ _ | exact Kd.N_nil _ _ _ _ _ | exact Kd.V_nil _ _ _ _ _ | exact Kd.Q_nil _ _ _ _ _ | exact Kd.S_nil _ _ _ _ _, by repeat (first | (with_reducible first | exact HB.out | apply below_alloc | apply pw_below_drewN | apply below_drew1) | exact HB.out)⟩
  · replace c4 := Bool.eq_false_iff.mpr c4
    subst c4
    have H1 : (some (([] : List Int), false)) = some (r1, r2) := by rw [if_neg (show ¬ (false = true) by decide)] at H; exact H
    clear H
    have H := H1
    clear H1
    simp only [Option.some.injEq, Prod.mk.injEq] at H
    obtain ⟨rfl, rfl⟩ := H
    go_enter Try.func40, Try.ntmps40
    go_wp2_with (first | ((with_reducible refine gate_callee (f := 63) rfl ?_); refine goesL_ (some 7) rfl rfl Try.func63 (by kernel_rfl) rfl #[.int .i64 a0] rfl (by (try simp only [List.map_toArray, List.map_cons, List.map_nil]); first | done | rfl | (simp only [List.length_drop, List.length_take]; rfl)) ?_; (with_reducible refine (impl_isEven.calls a0 false _ A3.out).mono ?_); rintro e w' ⟨rfl, ⟨nd, rfl⟩⟩; refine ⟨_, rfl, ?_⟩))
    go_ret2
    exact ⟨_, by first | rfl | (simp [errW_none, errW_some] <;> rfl) | (simp [*, errW_none, errW_some] <;> rfl), by first | exact Kd.R_nil _ _ _ _ _ | exact Kd.N_nil _ _ _ _ _ | exact Kd.V_nil _ _ _ _ _ | exact Kd.Q_nil _ _ _ _ _ | exact Kd.S_nil _ _ _ _ _, by repeat (first | (with_reducible first | exact HB.out | apply below_alloc | apply pw_below_drewN | apply below_drew1) | exact HB.out)⟩

end Go.Proofs.Ytmffjekpnibnfaa.PFnMatching
