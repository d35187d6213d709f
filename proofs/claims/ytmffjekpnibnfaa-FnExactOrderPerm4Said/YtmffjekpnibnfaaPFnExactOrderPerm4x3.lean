/- Written by this session's program out of the kit's print and this session's contracts. -/
import Derived.Test.YtmffjekpnibnfaaPFnExactOrderPerm4x0
import Derived.Test.YtmffjekpnibnfaaPFnExactOrderPerm4x2
namespace Go.Proofs.Ytmffjekpnibnfaa.PFnExactOrderPerm4
open Go.RowKit Go.Proofs.YtmffjekpnibnfaaW.PrintWords Go.Proofs.YtmffjekpnibnfaaW.PrintLast Go.Proofs.YtmffjekpnibnfaaW.PrintMore
attribute [local go_sem] max2_int min2_int max_two min_two max_three min_three max_four min_four   -- for this text's walks alone
set_option linter.unusedVariables false
set_option linter.unusedSimpArgs false

/-! ### slices_Delete_int64_int64: function 69 -/
set_option maxHeartbeats 8000000 in
set_option maxRecDepth 1000000 in
/-- slices.Delete(s, i, i + 1), turned from the library's walk to this program's own instance. -/
theorem deleteInts (blk off cap i : Nat) (d : Array Int) (w : World) (hH : Go.Sort.Holds (Value.int .i64) w blk off d) (hcap : d.size ≤ cap) (hm : cap ≤ 9223372036854775807) (hi : i + 1 ≤ d.size) :
    Calls Try.prog 69 #[.slice (some ⟨blk, off, none⟩) d.size cap, .int .i64 i, .int .i64 ((i + 1 : Nat) : Int)] w fun e w' => e = .returned (.slice (some ⟨blk, off, none⟩) (d.size - 1) cap) ∧ ∃ q, w' = Go.Sort.putRow (Value.int .i64) (Go.Sort.ahead w q) blk off (d.toList.take i ++ d.toList.drop (i + 1) ++ List.replicate (i + 1 - i) (0 : Int)).toArray := by
  obtain ⟨i0, hi0, hz0, hz1, hz2⟩ := info_parts info2
  obtain ⟨j, hjj⟩ : ∃ j, j = i + 1 := ⟨_, rfl⟩
  rw [← hjj] at hi ⊢
  have hne : decide ((i : Int) = (j : Int)) = false := decide_eq_false (by omega)
  have hlt : i < j := by omega
  have hij : i ≤ j := by omega
  have hj : j ≤ d.size := hi
  have h1 : ∀ x : Int, (Value.int .i64 x).oneCell' = true := fun _ => rfl
  obtain ⟨news, hnews⟩ : ∃ news, news = (d.toList.drop j).map (Value.int .i64) := ⟨_, rfl⟩
  have hlen : news.length = d.size - j := by rw [hnews]; simp
  have hget : ∀ t, t < d.size - j → news[t]? = some (Value.int .i64 d[j + t]!) := by
    intro t ht
    rw [hnews, List.getElem?_map, List.getElem?_drop, Array.getElem?_toList, getElem!_pos d (j + t) (by omega), Array.getElem?_eq_getElem (by omega)]
    rfl
  obtain ⟨A, hA, hsrc⟩ : ∃ A : Addr, (if cap = j then some (⟨blk, off, none⟩ : Addr) else some ⟨blk, off + j, none⟩) = some A ∧ Hid (∀ t u, news[t]? = some u → w.drew.cell? (A.add t) = some u) := by
    by_cases h : cap = j
    · refine ⟨⟨blk, off, none⟩, by simp [h], fun t u hu => ?_⟩
      have h0 : news.length = 0 := by rw [hlen]; omega
      rw [List.length_eq_zero_iff.1 h0] at hu
      simp at hu
    · refine ⟨⟨blk, off + j, none⟩, by simp [h], fun t u hu => ?_⟩
      have ht : t < d.size - j := by
        have := (List.getElem?_eq_some_iff.1 hu).1
        rwa [hlen] at this
      rw [hget t ht] at hu
      rw [Addr.add_lit, show off + j + t = off + (j + t) by omega]
      exact (hH (j + t) (by omega)).1.trans hu
  have s1 : Hid (news.length = (d.size - j) * 1) := by rw [Nat.mul_one]; exact hlen
  have s2 : Hid (∀ u ∈ news, u.oneCell' = true) := by
    intro u hu
    rw [hnews] at hu
    obtain ⟨x, _, rfl⟩ := List.mem_map.1 hu
    exact h1 x
  have s3 : Hid (∀ t, t < news.length → (w.drew.cell? ⟨blk, off + i * 1 + t, none⟩).isSome = true ∧ w.drew.frozen? ⟨blk, off + i * 1 + t, none⟩ = false) := by
    intro t ht
    rw [hlen] at ht
    rw [Nat.mul_one, Nat.add_assoc]
    exact ⟨by show (w.cell? _).isSome = true; rw [(hH (i + t) (by omega)).1]; rfl, (hH (i + t) (by omega)).2⟩
  obtain ⟨W1, hW1⟩ : ∃ W1, W1 = w.drew.setCells blk (off + i * 1) news := ⟨_, rfl⟩
  have hW1' : W1 = Go.Sort.putRow (Value.int .i64) (Go.Sort.ahead w 1) blk off (Go.Lib.lay d i (d.toList.drop j)) := by
    rw [hW1, hnews, Nat.mul_one, ← Go.Lib.putRow_setCells (Value.int .i64) (Go.Sort.ahead w 1) blk off _ d i (by simp; omega), Go.Sort.putRow_self (Value.int .i64) (Go.Sort.ahead w 1) blk off d (Go.Sort.holds_ahead (Value.int .i64) w 1 blk off d hH)]
    rfl
  have hH1 : Go.Sort.Holds (Value.int .i64) W1 blk off (Go.Lib.lay d i (d.toList.drop j)) := by rw [hW1']; exact Go.Sort.holds_putRow (Value.int .i64) _ blk off d _ (Go.Sort.holds_ahead (Value.int .i64) w 1 blk off d hH) (Go.Lib.lay_size _ _ _)
  have hcl : ∀ ty, (Builtin.clear_ #[26] ty #[.slice (some ⟨blk, off + (i + (d.size - j)), none⟩) (d.size - (i + (d.size - j))) (cap - (i + (d.size - j)))]).run Try.prog W1 = .ok (.tuple #[]) (W1.setCells blk (off + (i + (d.size - j))) (List.replicate (d.size - (i + (d.size - j))) (Value.int .i64 0))) :=
    fun ty => Go.Lib.run_clear_slice W1 _ _ ty _ Try.underlying26 (fun w => Try.zeroValue2 w) rfl rfl blk (off + (i + (d.size - j))) _ _ (by omega) (fun t ht => by rw [show off + (i + (d.size - j)) + t = off + (i + (d.size - j) + t) by omega, (hH1 _ (by rw [Go.Lib.lay_size]; omega)).1]; rfl) (fun t ht => by rw [show off + (i + (d.size - j)) + t = off + (i + (d.size - j) + t) by omega]; exact (hH1 _ (by rw [Go.Lib.lay_size]; omega)).2)
  have X : Aside (W1 = Go.Sort.putRow (Value.int .i64) (Go.Sort.ahead w 1) blk off (Go.Lib.lay d i (d.toList.drop j))) := hW1'
  have hW : Hid (W1 = w.drew.setCells blk (off + i * 1) news) := hW1
  have hic : i ≤ cap := by omega
  have hjc : j ≤ cap := by omega
  have mixed : Try.prog.follows Departure.mixedOrders = true := by kernel_rfl
  have hd1 : d.size - 1 = i + (d.size - j) := by omega
  clear hW1 hW1' hH1 hH hget hnews hlen hjj
  go_enter Try.func69, Try.ntmps69
  go_wp2_with fail
  go_region_law_o (refine step_append_room rfl (.tmp 22) (.tmp 25) 26 rfl 2 i0 1 Try.underlying26 hi0 hz1 blk off i cap (by simp [Act.eval, Act.put]) A (d.size - j) (cap - j) news (by simp [Act.eval, Act.put]) s1.out hsrc.out s2.out (by omega) s3.out ?_; rw [← hW.out])
  go_wp2
  go_ret
  refine ⟨by rw [hd1]; rfl, 1, ?_⟩
  rw [← Go.Lib.delete_arr d i j 0 hij hj, ← Go.Lib.putRow_setCells (Value.int .i64) _ blk off _ _ (i + (d.size - j)) (by rw [Go.Lib.lay_size]; simp; omega), ← X.out, List.map_replicate, show d.size - (i + (d.size - j)) = j - i by omega]


/-! ### impl_perm: function 48 -/
/-- What the rounds of perm make: the rest of the number, the four cells of 'left', the images. -/
def pSt (n : Nat) : Nat → Int × List Int × List Int
  | 0 => ((n : Int), [0, 1, 2, 3], [0, 0, 0, 0])
  | i + 1 =>
    let s := pSt n i
    let b : Int := rd [6, 2, 1, 1] i
    let k := s.1.tdiv b
    (s.1.tmod b, ((s.2.1.take (4 - i)).take k.toNat ++ (s.2.1.take (4 - i)).drop (k.toNat + 1) ++ List.replicate (k.toNat + 1 - k.toNat) (0 : Int)) ++ s.2.1.drop (4 - i), s.2.2.set i (rd s.2.1 k))
def permL (n : Nat) : List Int := (pSt n 4).2.2
theorem pSt_ok : ∀ n, n < 24 → ∀ i, i < 4 → (0 ≤ (pSt n i).1 ∧ (pSt n i).1 < 24) ∧ (0 ≤ (pSt n i).1.tdiv (rd [6, 2, 1, 1] i) ∧ (pSt n i).1.tdiv (rd [6, 2, 1, 1] i) < 4 - i) ∧ (pSt n i).2.1.length = 4 ∧ (pSt n i).2.2.length = 4 := by decide +kernel
theorem permL_ok : ∀ n, n < 24 → (permL n).length = 4 ∧ (∀ x ∈ permL n, 0 ≤ x ∧ x < 4) := by decide +kernel
theorem holds_blk {w : World} {g t : Nat} {L : List Int} (h : w.heap[g]? = some (.cells (nums .i64 L).toArray t (0, 0))) (n : Nat) : Go.Sort.Holds (Value.int .i64) w g 0 (L.take n).toArray := by
  intro j hj
  have hj' : j < (L.take n).length := by simpa using hj
  refine ⟨?_, by rw [Nat.zero_add]; exact blk_frozen h j⟩
  rw [Nat.zero_add, blk_cell h j]
  have h1 : (L.take n).toArray[j]! = (L.take n)[j]'hj' := by rw [getElem!_pos _ j hj]; simp
  rw [h1]
  simp [nums] at hj' ⊢
theorem put_blk {w : World} {g t : Nat} {L : List Int} (h : w.heap[g]? = some (.cells (nums .i64 L).toArray t (0, 0))) (q : Nat) (M : List Int) (hM : M.length ≤ L.length) : (Go.Sort.putRow (Value.int .i64) (Go.Sort.ahead w q) g 0 M.toArray).heap[g]? = some (.cells (nums .i64 (M ++ L.drop M.length)).toArray t (0, 0)) := by
  show (w.heap.modify g _)[g]? = _
  rw [Array.getElem?_modify, if_pos rfl, h]
  simp only [Option.map_some, Go.Sort.onCells]
  congr 2
  apply Array.ext_getElem?
  intro k
  simp only [Go.Sort.putCells, Array.getElem?_mapIdx, List.getElem?_toArray, nums, List.getElem?_map, Nat.zero_le, true_and, Nat.zero_add, Nat.sub_zero, List.size_toArray]
  by_cases hk : k < M.length
  · rw [List.getElem?_append_left hk, List.getElem?_eq_getElem hk, List.getElem?_eq_getElem (show k < L.length by omega)]
    simp [hk]
  · rw [List.getElem?_append_right (by omega), List.getElem?_drop, show M.length + (k - M.length) = k by omega]
    cases hL : L[k]? with
    | none => rfl
    | some y => simp [hk]
theorem put_far {w : World} {g k : Nat} (q : Nat) (M : Array Int) (hk : k ≠ g) : (Go.Sort.putRow (Value.int .i64) (Go.Sort.ahead w q) g 0 M).heap[k]? = w.heap[k]? := by
  show (w.heap.modify g _)[k]? = _
  rw [Array.getElem?_modify, if_neg (Ne.symm hk)]
theorem put_below {B : Nat} {v w : World} (h : Below B v w) {g : Nat} (hg : B ≤ g) (q : Nat) (M : Array Int) : Below B v (Go.Sort.putRow (Value.int .i64) (Go.Sort.ahead w q) g 0 M) :=
  ⟨h.os, h.tape, h.output, by show _ ≤ (w.heap.modify g _).size; rw [Array.size_modify]; exact h.size, fun k hk => (put_far q M (by omega)).trans (h.block k hk)⟩

theorem nums_at (L : List Int) (i : Nat) (h : i < L.length) : (nums .i64 L).toArray[i]? = some (.int .i64 (rd L i)) := by
  simp [nums, rd, List.getD, List.getElem?_eq_getElem h]
theorem nums_set (L : List Int) (i : Nat) (x : Int) : (nums .i64 L).toArray.setIfInBounds i (.int .i64 x) = (nums .i64 (L.set i x)).toArray := by
  simp [nums, List.map_set]
theorem del_blk (g t : Nat) (L : List Int) (m k : Nat) (W : World) (h : W.heap[g]? = some (.cells (nums .i64 L).toArray t (0, 0))) (hL : L.length = 4) (hm : m ≤ 4) (hk : k < m) :
    Calls Try.prog 69 #[.slice (some ⟨g, 0, none⟩) m 4, .int .i64 k, .int .i64 ((k + 1 : Nat) : Int)] W fun e w' => e = .returned (.slice (some ⟨g, 0, none⟩) (m - 1) 4) ∧ w'.heap[g]? = some (.cells (nums .i64 ((L.take m).take k ++ (L.take m).drop (k + 1) ++ List.replicate (k + 1 - k) (0 : Int) ++ L.drop m)).toArray t (0, 0)) ∧ (∀ B v, B ≤ g → Below B v W → Below B v w') ∧ (∀ q, q ≠ g → w'.heap[q]? = W.heap[q]?) := by
  have hs : (L.take m).toArray.size = m := by simp; omega
  have hc := deleteInts g 0 4 k (L.take m).toArray W (holds_blk h m) (by rw [hs]; exact hm) (by decide) (by rw [hs]; exact hk)
  rw [hs] at hc
  refine hc.mono ?_
  rintro e w' ⟨rfl, q, rfl⟩
  have hl : ((L.take m).toArray.toList.take k ++ (L.take m).toArray.toList.drop (k + 1) ++ List.replicate (k + 1 - k) (0 : Int)).length = m := by
    simp
    omega
  refine ⟨rfl, ?_, fun B v hB hw => put_below hw hB q _, fun j hj => put_far q _ hj⟩
  have hp := put_blk h q _ (by rw [hl, hL]; exact hm)
  rw [hl] at hp
  exact hp
def impl_perm.f (a0 : Int) : Option (List Int) := if 0 ≤ a0 ∧ a0 < 24 then some (permL a0.toNat) else none
theorem results_arr {P : Program} {fn : Func} {p : Tmp} {ty : TypeId} (h : fn.results = #[.cell p ty]) (tmps : Array Value) (w : World) (g : Nat) (t : TypeId) (cs : Array Value) (fr : Nat × Nat) (d : TypeDesc)
    (hp : tmps.getD p undef = .pointer (some ⟨g, 0, none⟩)) (hg : w.heap[g]? = some (.cells cs t fr))
    (hu : P.underlying ty = some d) (hd : (match d with | .struct _ | .array _ _ => true | _ => false) = true) (hi : (P.info? ty).map (·.size) = some cs.size) :
    (results fn tmps).run P w = .ok (.agg cs) w := by
  have hp' : tmps[p]?.getD undef = .pointer (some ⟨g, 0, none⟩) := by simpa using hp
  simp [results, h, hp', asAddr, run_loadVar_row w g t ty cs fr d hg hu hd hi]
theorem run_index4 (cs : Array Value) (m : Nat) (x : Value) (hx : cs[m]? = some x) (hm : m < 4) (w : World) : (Instr.index 45 (.agg cs) (.int .i64 (m : Int))).run Try.prog w = .ok x w := by
  have hi : (m : Int) < 4 := by omega
  simp [Instr.index, asIntOf, part, Try.isAgg2, Try.sizeOf2, Try.underlying45, run_underlying, hx, hi, go_sem]
  exact fun h => absurd h (by omega)
theorem run_slice4 (g i : Nat) (hi : i ≤ 4) (W : World) : (Instr.sliceAt 45 (.pointer (some ⟨g, 0, none⟩)) none (some (.int .i64 (i : Int))) none).run Try.prog W = .ok (.slice (some ⟨g, 0, none⟩) i 4) W := by
  have hal : Try.prog.arrayLen 45 = 4 := by simp [Program.arrayLen, Try.underlying45]
  rw [run_sliceAt_array_h W 45 ⟨g, 0, none⟩ (by simp [Program.arrayLen, Program.elem, Try.underlying45]) .i64 (i : Int) (by omega) (by rw [hal]; omega)]
  simp only [hal]
  go_simp
theorem heap_allocs (w : World) (o0 o1 o2 o3 : Obj) (W : World) (hW : W = (((w.alloc o0).alloc o1).alloc o2).alloc o3) : Below w.heap.size w W ∧ W.heap[w.heap.size]? = some o0 ∧ W.heap[w.heap.size + 1]? = some o1 ∧ W.heap[w.heap.size + 1 + 1]? = some o2 ∧ W.heap[w.heap.size + 1 + 1 + 1]? = some o3 := by
  subst hW
  have s1 : ∀ (v : World) (o : Obj), (v.alloc o).heap.size = v.heap.size + 1 := fun v o => by show (v.heap.push o).size = _; simp
  have n1 : ∀ (v : World) (o : Obj) (k : Nat), k = v.heap.size → (v.alloc o).heap[k]? = some o := fun v o k hk => by rw [hk]; exact heap_alloc_new v o
  refine ⟨Below.alloc (Below.alloc (Below.alloc (Below.alloc (Below.refl _ _) (Nat.le_refl _) _) (by rw [s1]; omega) _) (by rw [s1, s1]; omega) _) (by rw [s1, s1, s1]; omega) _, ?_, ?_, ?_, ?_⟩
  · rw [Below.heap_alloc _ _ _ (by rw [s1, s1, s1]; omega), Below.heap_alloc _ _ _ (by rw [s1, s1]; omega), Below.heap_alloc _ _ _ (by rw [s1]; omega)]
    exact n1 _ _ _ rfl
  · rw [Below.heap_alloc _ _ _ (by rw [s1, s1, s1]; omega), Below.heap_alloc _ _ _ (by rw [s1, s1]; omega)]
    exact n1 _ _ _ (by rw [s1])
  · rw [Below.heap_alloc _ _ _ (by rw [s1, s1, s1]; omega)]
    exact n1 _ _ _ (by rw [s1, s1])
  · exact n1 _ _ _ (by rw [s1, s1, s1])
structure PermW (n i : Nat) (w wr : World) : Prop where
  b : Below w.heap.size w wr
  h0 : wr.heap[w.heap.size]? = some (.cells (nums .i64 [0, 0, 0, 0]).toArray 45 (0, 0))
  h1 : wr.heap[w.heap.size + 1]? = some (.cells (nums .i64 (pSt n i).2.2).toArray 45 (0, 0))
  h2 : wr.heap[w.heap.size + 1 + 1]? = some (.cells (nums .i64 (pSt n i).2.1).toArray 2 (0, 0))
  h3 : wr.heap[w.heap.size + 1 + 1 + 1]? = some (.cells (nums .i64 [6, 2, 1, 1]).toArray 2 (0, 0))
set_option maxHeartbeats 8000000 in
set_option maxRecDepth 100000 in
theorem impl_perm.calls (a0 : Int) (r : List Int) (w : World) (h : impl_perm.f a0 = some r) :
    Calls Try.prog 48 #[.int .i64 a0] w fun e w' => e = .returned (.agg (nums .i64 r).toArray) ∧ Below w.heap.size w w' := by
  unfold impl_perm.f at h
  by_cases hc : 0 ≤ a0 ∧ a0 < 24
  case neg => rw [if_neg hc] at h; exact absurd h (by simp)
  rw [if_pos hc] at h
  obtain rfl := Option.some.inj h
  obtain ⟨n, rfl⟩ : ∃ n : Nat, a0 = n := ⟨a0.toNat, by omega⟩
  have hn : n < 24 := by omega
  rw [Int.toNat_natCast]
  clear hc h
  have HN := Aside0.mk hn
  clear hn
  go_enter Try.func48, Try.ntmps48
  go_wp2
  go_loopg [0, 4, 11] 4 (fun gg s0 s4 s11 wr => ∃ i : Nat, gg + i = 4 ∧ s0 = .int .i64 (pSt n i).1 ∧ s4 = .slice (some ⟨w.heap.size + 1 + 1, 0, none⟩) (4 - i) 4 ∧ s11 = .int .i64 i ∧ Aside0 (PermW n i w wr))
  case atStart =>
    obtain ⟨hb, h0, h1, h2, h3⟩ := heap_allocs w _ _ _ _ _ rfl
    exact ⟨0, rfl, rfl, rfl, rfl, ⟨hb, h0, h1, h2, h3⟩⟩
  case round =>
    obtain ⟨i, hi, rfl, rfl, rfl, HW⟩ := hrel
    by_cases h4 : i = 4
    · subst h4
      have hp4 : ∀ j, j < 4 → wr.cell? ⟨w.heap.size + 1, j, none⟩ = some (.int .i64 (rd (permL n) j)) := fun j hj => by
        rw [blk_cell HW.out.h1 j]
        exact nums_at _ j (by have := (permL_ok n HN.out).1; unfold permL at this; omega)
      have a0 := hp4 0 (by decide)
      have a1 := hp4 1 (by decide)
      have a2 := hp4 2 (by decide)
      have a3 := hp4 3 (by decide)
      clear hp4
      have z0 : wr.cell? ⟨w.heap.size, 0, none⟩ = some (.int .i64 0) := (blk_cell HW.out.h0 0).trans rfl
      have z1 : wr.cell? ⟨w.heap.size, 1, none⟩ = some (.int .i64 0) := (blk_cell HW.out.h0 1).trans rfl
      have z2 : wr.cell? ⟨w.heap.size, 2, none⟩ = some (.int .i64 0) := (blk_cell HW.out.h0 2).trans rfl
      have z3 : wr.cell? ⟨w.heap.size, 3, none⟩ = some (.int .i64 0) := (blk_cell HW.out.h0 3).trans rfl
      have f0 := blk_frozen HW.out.h0 0
      have f1 := blk_frozen HW.out.h0 1
      have f2 := blk_frozen HW.out.h0 2
      have f3 := blk_frozen HW.out.h0 3
      go_wp2
      have hblk := blk_set (blk_set (blk_set (blk_set HW.out.h0 0 (.int .i64 (rd (permL n) 0))) 1 (.int .i64 (rd (permL n) 1))) 2 (.int .i64 (rd (permL n) 2))) 3 (.int .i64 (rd (permL n) 3))
      have hbel := (((HW.out.b.setCell (p := ⟨w.heap.size, 0, none⟩) (Nat.le_refl _) (.int .i64 (rd (permL n) 0))).setCell (p := ⟨w.heap.size, 1, none⟩) (Nat.le_refl _) (.int .i64 (rd (permL n) 1))).setCell (p := ⟨w.heap.size, 2, none⟩) (Nat.le_refl _) (.int .i64 (rd (permL n) 2))).setCell (p := ⟨w.heap.size, 3, none⟩) (Nat.le_refl _) (.int .i64 (rd (permL n) 3))
      refine bodyPost_ret (results_arr (p := 2) (ty := 45) rfl _ _ w.heap.size _ _ _ _ rfl hblk Try.underlying45 rfl (by kernel_rfl)) rfl ⟨?_, hbel⟩
      have hl := (permL_ok n HN.out).1
      generalize permL n = q at hl ⊢
      match q, hl with
      | [x0, x1, x2, x3], _ => rfl
    · have hd : decide ((i : Int) < 4) = true := decide_eq_true (by omega)
      have hi4 : i < 4 := by omega
      have hi4t : ((i : Int) < 4) = True := eq_true (by omega)
      obtain ⟨⟨p0, p1⟩, ⟨k0, k1⟩, hL, hO⟩ := pSt_ok n HN.out i hi4
      have hSt : pSt n (i + 1) = ((pSt n i).1.tmod (rd [6, 2, 1, 1] i), (((pSt n i).2.1.take (4 - i)).take ((pSt n i).1.tdiv (rd [6, 2, 1, 1] i)).toNat ++ ((pSt n i).2.1.take (4 - i)).drop (((pSt n i).1.tdiv (rd [6, 2, 1, 1] i)).toNat + 1) ++ List.replicate (((pSt n i).1.tdiv (rd [6, 2, 1, 1] i)).toNat + 1 - ((pSt n i).1.tdiv (rd [6, 2, 1, 1] i)).toNat) (0 : Int)) ++ (pSt n i).2.1.drop (4 - i), (pSt n i).2.2.set i (rd (pSt n i).2.1 ((pSt n i).1.tdiv (rd [6, 2, 1, 1] i)))) := rfl
      have hb : rd [6, 2, 1, 1] (i : Int) = 6 ∨ rd [6, 2, 1, 1] (i : Int) = 2 ∨ rd [6, 2, 1, 1] (i : Int) = 1 := (by decide : ∀ i < 4, rd [6, 2, 1, 1] ((i : Nat) : Int) = 6 ∨ rd [6, 2, 1, 1] ((i : Nat) : Int) = 2 ∨ rd [6, 2, 1, 1] ((i : Nat) : Int) = 1) i hi4
      have hcb : wr.cell? ⟨w.heap.size + 1 + 1 + 1, i, none⟩ = some (.int .i64 (rd [6, 2, 1, 1] i)) := by rw [blk_cell HW.out.h3 i]; exact nums_at _ i hi4
      have HS := Aside0.mk hSt
      clear hSt
      have h1_ := HW.out.h1
      have h2_ := HW.out.h2
      generalize rd [6, 2, 1, 1] (i : Int) = b at *
      generalize (pSt n i).1 = p at *
      generalize (pSt n i).2.1 = L at *
      generalize (pSt n i).2.2 = O at *
      obtain ⟨k, hk⟩ : ∃ k : Nat, p.tdiv b = k := ⟨(p.tdiv b).toNat, by omega⟩
      rw [hk] at k0 k1 HS
      rw [Int.toNat_natCast] at HS
      have kL : k < 4 - i := by omega
      have q1 : (k < 4 - i) = True := eq_true kL
      have hcl : wr.cell? ⟨w.heap.size + 1 + 1, k, none⟩ = some (.int .i64 (rd L k)) := by rw [blk_cell h2_ k]; exact nums_at L k (by omega)
      have hco : wr.cell? ⟨w.heap.size + 1, i, none⟩ = some (.int .i64 (rd O i)) := by rw [blk_cell h1_ i]; exact nums_at O i (by omega)
      have hfo := blk_frozen h1_ i
      have w1 : IntKind.i64.wrap (p.tdiv b) = (k : Int) := by rw [hk, i64_w]; unfold wrap64; omega
      have w2 : IntKind.i64.wrap ((k : Int) + 1) = ((k + 1 : Nat) : Int) := by rw [i64_w]; unfold wrap64; omega
      have w3 : IntKind.i64.wrap ((i : Int) + 1) = ((i + 1 : Nat) : Int) := by rw [i64_w]; unfold wrap64; omega
      have b0 : (b = 0) = False := eq_false (by omega)
      have HO := Aside0.mk hO
      have HL := Aside0.mk hL
      have HK := Aside0.mk kL
      have H1 := Aside0.mk h1_
      have H2 := Aside0.mk h2_
      have HI := Aside0.mk hi
      have HK4 := Aside0.mk hi4
      clear hO hL kL h1_ h2_ hi hi4 h4 hk k0 k1 p0 p1 hb
      go_wp2_with (go_at_call 69; refine (del_blk (w.heap.size + 1 + 1) _ L (4 - i) k _ ((Below.heap_setCell wr _ _ _ (by show w.heap.size + 1 + 1 ≠ w.heap.size + 1; omega)).trans H2.out) HL.out (Nat.sub_le _ _) HK.out).mono ?_; rintro e w5 ⟨rfl, h2', hbel', hfar'⟩)
      go_roundg (gk - 1)
      case measure => have := HI.out; have := HK4.out; omega
      case rel =>
        have hi_ := HI.out
        have hk_ := HK4.out
        refine ⟨i + 1, by omega, by rw [HS.out], by rw [show 4 - i - 1 = 4 - (i + 1) by omega], rfl, ⟨?_, ?_, ?_, ?_, ?_⟩⟩
        · exact hbel' _ _ (by omega) (HW.out.b.setCell (by show w.heap.size ≤ w.heap.size + 1; omega) _)
        · exact (hfar' _ (by omega)).trans ((Below.heap_setCell wr _ _ _ (by show w.heap.size ≠ w.heap.size + 1; omega)).trans HW.out.h0)
        · rw [HS.out]
          exact ((hfar' _ (by omega)).trans (blk_set H1.out i _)).trans (by rw [nums_set])
        · rw [HS.out]
          exact h2'
        · exact (hfar' _ (by omega)).trans ((Below.heap_setCell wr _ _ _ (by show w.heap.size + 1 + 1 + 1 ≠ w.heap.size + 1; omega)).trans HW.out.h3)


/-! ### impl_signOf: function 50 -/
/-- The sign, the numbers ahead of one image looked at up to j. -/
def sgIn (q : List Int) (x : Int) (o : Int) : Nat → Int
  | 0 => o
  | j + 1 => if rd q j > x then wrap64 (-(sgIn q x o j)) else sgIn q x o j
def sgOut (q : List Int) : Nat → Int
  | 0 => 1
  | i + 1 => sgIn q (rd q i) (sgOut q i) i
def impl_signOf.f (a0 : Int) : Option Int := if 0 ≤ a0 ∧ a0 < 24 then some (sgOut (permL a0.toNat) 4) else none
theorem perm_lit (a0 : Int) (ha : 0 ≤ a0 ∧ a0 < 24) : ∃ x0 x1 x2 x3, permL a0.toNat = [x0, x1, x2, x3] ∧ ∀ W, Calls Try.prog 48 #[.int .i64 a0] W fun e w' => e = .returned (.agg #[.int .i64 x0, .int .i64 x1, .int .i64 x2, .int .i64 x3]) ∧ Below W.heap.size W w' := by
  have hl := (permL_ok a0.toNat (by omega)).1
  have hc := fun W => impl_perm.calls a0 (permL a0.toNat) W (by unfold impl_perm.f; rw [if_pos ha])
  generalize permL a0.toNat = q at hl hc ⊢
  match q, hl with
  | [x0, x1, x2, x3], _ => exact ⟨x0, x1, x2, x3, rfl, hc⟩
theorem HB3_of (w w3 : World) (hb : Below w.heap.size w w3) (cs : Array Value) (t : Nat) : Below w.heap.size w (w3.alloc (.cells cs t (0, 0))) ∧ (w3.alloc (.cells cs t (0, 0))).heap[w3.heap.size]? = some (.cells cs t (0, 0)) := ⟨below_alloc hb _, heap_alloc_new w3 _⟩
set_option maxHeartbeats 8000000 in
set_option maxRecDepth 100000 in
theorem impl_signOf.calls (a0 : Int) (r : Int) (w : World) (h : impl_signOf.f a0 = some r) :
    Calls Try.prog 50 #[.int .i64 a0] w fun e w' => e = .returned (.int .i64 r) ∧ Below w.heap.size w w' := by
  unfold impl_signOf.f at h
  by_cases hp : 0 ≤ a0 ∧ a0 < 24
  case neg => rw [if_neg hp] at h; exact absurd h (by simp)
  rw [if_pos hp] at h
  obtain rfl := Option.some.inj h
  obtain ⟨x0, x1, x2, x3, hq, hc⟩ := perm_lit a0 hp
  have CF := Aside0.mk hc
  obtain ⟨q, hq'⟩ : ∃ q, q = permL a0.toNat := ⟨_, rfl⟩
  rw [← hq'] at hq ⊢
  have HQ := Aside0.mk hq
  clear h hp hc hq hq'
  go_enter Try.func50, Try.ntmps50
  go_wp2_with (go_at_call 48; refine (CF.out _).mono ?_; rintro e w3 ⟨rfl, hb3⟩)
  have hb3' := HB3_of w w3 hb3 #[.int .i64 x0, .int .i64 x1, .int .i64 x2, .int .i64 x3] 45
  obtain ⟨W, hW⟩ : ∃ W, W = w3.alloc (Obj.cells #[.int .i64 x0, .int .i64 x1, .int .i64 x2, .int .i64 x3] 45) := ⟨_, rfl⟩
  have HB := Aside0.mk hb3'.1
  have hblk : W.heap[w3.heap.size]? = some (.cells (nums .i64 q).toArray 45 (0, 0)) := by rw [hW, HQ.out]; exact hb3'.2
  rw [← hW] at HB ⊢
  have hat : ∀ j, j < 4 → W.cell? ⟨w3.heap.size, j, none⟩ = some (.int .i64 (rd q j)) := fun j hj => by
    rw [blk_cell hblk j]
    exact nums_at _ j (by rw [HQ.out]; exact hj)
  have HA := Aside0.mk hat
  have hix : ∀ i, i < 4 → ∀ w, (Instr.index 45 (.agg #[.int .i64 x0, .int .i64 x1, .int .i64 x2, .int .i64 x3]) (.int .i64 ((i : Nat) : Int))).run Try.prog w = .ok (.int .i64 (rd q i)) w := fun i hi w =>
    run_index4 _ i _ (by have := nums_at q i (by rw [HQ.out]; exact hi); rw [HQ.out] at this ⊢; exact this) hi w
  have HX := Aside0.mk hix
  clear hb3 hb3' hW hblk hat hix CF
  go_loopg [4, 12] 4 (fun gg s4 s12 wr => ∃ i : Nat, gg + i = 4 ∧ s4 = .int .i64 (sgOut q i) ∧ s12 = .int .i64 i ∧ wr = W)
  case atStart => exact ⟨0, rfl, rfl, rfl, rfl⟩
  case round =>
    obtain ⟨i, hi, rfl, rfl, rfl⟩ := hrel
    obtain ⟨g0, hg0⟩ : ∃ g0, g0 = gk := ⟨_, rfl⟩
    subst hg0
    by_cases h4 : i = 4
    · subst h4
      go_wp2
      go_ret
      exact ⟨rfl, HB.out⟩
    · have hi4 : i < 4 := by omega
      have hd : decide ((i : Int) < 4) = true := decide_eq_true (by omega)
      have hi4t : ((i : Int) < 4) = True := eq_true (by omega)
      have hi4n : (i ≤ 4) = True := eq_true (by omega)
      have hxi := HX.out i hi4
      have w3_ : IntKind.i64.wrap ((i : Int) + 1) = ((i + 1 : Nat) : Int) := by rw [i64_w]; unfold wrap64; omega
      have HI := Aside0.mk hi
      have HI4 := Aside0.mk hi4
      have hsl := run_slice4 w3.heap.size i (Nat.le_of_lt hi4)
      clear hi h4 hi4
      go_wp2
      go_loopg [4, 19] i (fun g2 s4 s19 wr2 => ∃ j : Nat, g2 + j = i ∧ s4 = .int .i64 (sgIn q (rd q i) (sgOut q i) j) ∧ s19 = .int .i64 j ∧ wr2 = wr)
      case atStart => exact ⟨0, rfl, rfl, rfl, rfl⟩
      case round =>
        obtain ⟨j, hj, rfl, rfl, rfl⟩ := hrel
        by_cases hji : j = i
        · subst hji
          go_wp2
          go_roundg (g0 - 1)
          case measure => have := HI.out; have := HI4.out; omega
          case rel => exact ⟨j + 1, by have := HI.out; have := HI4.out; omega, rfl, rfl, rfl⟩
        · have hji2 : j < i := by omega
          have hdj : decide ((j : Int) < (i : Int)) = true := decide_eq_true (by omega)
          have hjt : ((j : Int) < (i : Int)) = True := eq_true (by omega)
          have hjn : (j < i) = True := eq_true hji2
          have hcj := HA.out j (by have := HI4.out; omega)
          have w4_ : IntKind.i64.wrap ((j : Int) + 1) = ((j + 1 : Nat) : Int) := by rw [i64_w]; have := HI4.out; unfold wrap64; omega
          by_cases hgt : rd q j > rd q i
          · have hgd : decide (rd q (j : Int) > rd q (i : Int)) = true := decide_eq_true hgt
            have HJ := Aside0.mk hj
            have HJI := Aside0.mk hji2
            have hs : sgIn q (rd q i) (sgOut q i) (j + 1) = wrap64 (-(sgIn q (rd q i) (sgOut q i) j)) := if_pos hgt
            have HS := Aside0.mk hs
            clear hj hji hji2 hgt hs
            go_wp2
            go_roundg (gk - 1)
            case measure => have := HJ.out; have := HJI.out; omega
            case rel => exact ⟨j + 1, by have := HJ.out; have := HJI.out; omega, by rw [HS.out], rfl, rfl⟩
          · have hgd : decide (rd q (j : Int) > rd q (i : Int)) = false := decide_eq_false hgt
            have HJ := Aside0.mk hj
            have HJI := Aside0.mk hji2
            have hs : sgIn q (rd q i) (sgOut q i) (j + 1) = sgIn q (rd q i) (sgOut q i) j := if_neg hgt
            have HS := Aside0.mk hs
            clear hj hji hji2 hgt hs
            go_wp2
            go_roundg (gk - 1)
            case measure => have := HJ.out; have := HJI.out; omega
            case rel => exact ⟨j + 1, by have := HJ.out; have := HJI.out; omega, by rw [HS.out], rfl, rfl⟩


/-! ### impl_indexOf: function 53 -/
/-- One image, less the smaller ones ahead of it. -/
def ixIn (q : List Int) (i : Nat) : Nat → Int
  | 0 => rd q i
  | j + 1 => if rd q j < rd q i then wrap64 (ixIn q i j - 1) else ixIn q i j
def ixOut (q : List Int) : Nat → Int
  | 0 => 0
  | i + 1 => wrap64 (ixOut q i + wrap64 (ixIn q i i * rd [6, 2, 1, 1] i))
def impl_indexOf.f (q : List Int) : Option Int := if q.length = 4 then some (ixOut q 4) else none
theorem heap_allocs2 (w : World) (o0 o1 : Obj) (W : World) (hW : W = (w.alloc o0).alloc o1) : Below w.heap.size w W ∧ W.heap[w.heap.size]? = some o0 ∧ W.heap[w.heap.size + 1]? = some o1 := by
  subst hW
  have s1 : ∀ (v : World) (o : Obj), (v.alloc o).heap.size = v.heap.size + 1 := fun v o => by show (v.heap.push o).size = _; simp
  have n1 : ∀ (v : World) (o : Obj) (k : Nat), k = v.heap.size → (v.alloc o).heap[k]? = some o := fun v o k hk => by rw [hk]; exact heap_alloc_new v o
  refine ⟨Below.alloc (Below.alloc (Below.refl _ _) (Nat.le_refl _) _) (by rw [s1]; omega) _, ?_, ?_⟩
  · rw [Below.heap_alloc _ _ _ (by rw [s1]; omega)]
    exact n1 _ _ _ rfl
  · exact n1 _ _ _ (by rw [s1])
set_option maxHeartbeats 8000000 in
set_option maxRecDepth 100000 in
theorem impl_indexOf.calls (q : List Int) (r : Int) (w : World) (h : impl_indexOf.f q = some r) :
    Calls Try.prog 53 #[.agg (nums .i64 q).toArray] w fun e w' => e = .returned (.int .i64 r) ∧ Below w.heap.size w w' := by
  unfold impl_indexOf.f at h
  by_cases hp : q.length = 4
  case neg => rw [if_neg hp] at h; exact absurd h (by simp)
  rw [if_pos hp] at h
  obtain rfl := Option.some.inj h
  obtain ⟨x0, x1, x2, x3, hq⟩ : ∃ x0 x1 x2 x3, q = [x0, x1, x2, x3] := by
    match q, hp with
    | [x0, x1, x2, x3], _ => exact ⟨x0, x1, x2, x3, rfl⟩
  rw [show (nums .i64 q).toArray = #[.int .i64 x0, .int .i64 x1, .int .i64 x2, .int .i64 x3] by rw [hq]; rfl]
  have HQ := Aside0.mk hq
  clear h hp hq
  go_enter Try.func53, Try.ntmps53
  go_wp2
  obtain ⟨W, hW⟩ : ∃ W, W = (w.alloc (.cells #[.int .i64 x0, .int .i64 x1, .int .i64 x2, .int .i64 x3] 45 (0, 0))).alloc (.cells #[.int .i64 6, .int .i64 2, .int .i64 1, .int .i64 1] 2 (0, 0)) := ⟨_, rfl⟩
  obtain ⟨hb, h0, h1⟩ := heap_allocs2 w _ _ W hW
  rw [← hW]
  have HB := Aside0.mk hb
  have hat : ∀ j, j < 4 → W.cell? ⟨w.heap.size, j, none⟩ = some (.int .i64 (rd q j)) := fun j hj => by
    rw [blk_cell h0 j]
    exact (by rw [HQ.out]; rfl : (#[.int .i64 x0, .int .i64 x1, .int .i64 x2, .int .i64 x3] : Array Value) = (nums .i64 q).toArray) ▸ nums_at q j (by rw [HQ.out]; exact hj)
  have hab : ∀ j, j < 4 → W.cell? ⟨w.heap.size + 1, j, none⟩ = some (.int .i64 (rd [6, 2, 1, 1] j)) := fun j hj => by
    rw [blk_cell h1 j]
    exact nums_at [6, 2, 1, 1] j hj
  have HA := Aside0.mk hat
  have HAB := Aside0.mk hab
  clear hb h0 h1 hW hat hab
  go_loopg [3, 11] 4 (fun gg s3 s11 wr => ∃ i : Nat, gg + i = 4 ∧ s3 = .int .i64 (ixOut q i) ∧ s11 = .int .i64 i ∧ wr = W)
  case atStart => exact ⟨0, rfl, rfl, rfl, rfl⟩
  case round =>
    obtain ⟨i, hi, rfl, rfl, rfl⟩ := hrel
    obtain ⟨g0, hg0⟩ : ∃ g0, g0 = gk := ⟨_, rfl⟩
    subst hg0
    by_cases h4 : i = 4
    · subst h4
      go_wp2
      go_ret
      exact ⟨rfl, HB.out⟩
    · have hi4 : i < 4 := by omega
      have hd : decide ((i : Int) < 4) = true := decide_eq_true (by omega)
      have hi4t : ((i : Int) < 4) = True := eq_true (by omega)
      have hi4u : (i < 4) = True := eq_true (by omega)
      have hi4n : (i ≤ 4) = True := eq_true (by omega)
      have hcb := HAB.out i hi4
      have hci := HA.out i hi4
      have hsl := run_slice4 w.heap.size i (Nat.le_of_lt hi4)
      have w3_ : IntKind.i64.wrap ((i : Int) + 1) = ((i + 1 : Nat) : Int) := by rw [i64_w]; unfold wrap64; omega
      have HI := Aside0.mk hi
      have HI4 := Aside0.mk hi4
      clear hi h4 hi4
      go_wp2
      go_loopg [6, 22] i (fun g2 s6 s22 wr2 => ∃ j : Nat, g2 + j = i ∧ s6 = .int .i64 (ixIn q i j) ∧ s22 = .int .i64 j ∧ wr2 = wr)
      case atStart => exact ⟨0, by omega, rfl, rfl, rfl⟩
      case round =>
        obtain ⟨j, hj, rfl, rfl, rfl⟩ := hrel
        by_cases hji : j = i
        · subst hji
          go_wp2
          go_roundg (g0 - 1)
          case measure => have := HI.out; have := HI4.out; omega
          case rel => exact ⟨j + 1, by have := HI.out; have := HI4.out; omega, rfl, rfl, rfl⟩
        · have hji2 : j < i := by omega
          have hdj : decide ((j : Int) < (i : Int)) = true := decide_eq_true (by omega)
          have hjt : ((j : Int) < (i : Int)) = True := eq_true (by omega)
          have hjn : (j < i) = True := eq_true hji2
          have hcj := HA.out j (by have := HI4.out; omega)
          have w4_ : IntKind.i64.wrap ((j : Int) + 1) = ((j + 1 : Nat) : Int) := by rw [i64_w]; have := HI4.out; unfold wrap64; omega
          by_cases hgt : rd q j < rd q i
          · have hgd : decide (rd q (j : Int) < rd q (i : Int)) = true := decide_eq_true hgt
            have HJ := Aside0.mk hj
            have HJI := Aside0.mk hji2
            have hs : ixIn q i (j + 1) = wrap64 (ixIn q i j - 1) := if_pos hgt
            have HS := Aside0.mk hs
            clear hj hji hji2 hgt hs
            go_wp2
            go_roundg (gk - 1)
            case measure => have := HJ.out; have := HJI.out; omega
            case rel => exact ⟨j + 1, by have := HJ.out; have := HJI.out; omega, by rw [HS.out], rfl, rfl⟩
          · have hgd : decide (rd q (j : Int) < rd q (i : Int)) = false := decide_eq_false hgt
            have HJ := Aside0.mk hj
            have HJI := Aside0.mk hji2
            have hs : ixIn q i (j + 1) = ixIn q i j := if_neg hgt
            have HS := Aside0.mk hs
            clear hj hji hji2 hgt hs
            go_wp2
            go_roundg (gk - 1)
            case measure => have := HJ.out; have := HJI.out; omega
            case rel => exact ⟨j + 1, by have := HJ.out; have := HJI.out; omega, by rw [HS.out], rfl, rfl⟩


/-! ### impl_invert: function 57 -/
def inL (q : List Int) : Nat → List Int
  | 0 => [0, 0, 0, 0]
  | i + 1 => (inL q i).set (rd q i).toNat i
theorem inL_length (q : List Int) : ∀ i, (inL q i).length = 4
  | 0 => rfl
  | i + 1 => by unfold inL; rw [List.length_set, inL_length q i]
theorem rd_perm (n : Nat) (hn : n < 24) (i : Nat) (hi : i < 4) : 0 ≤ rd (permL n) i ∧ rd (permL n) i < 4 := by
  refine (permL_ok n hn).2 _ ?_
  have := (permL_ok n hn).1
  simp [rd, List.getD, List.getElem?_eq_getElem (show i < (permL n).length by omega)]
def impl_invert.f (a0 : Int) : Option Int := if 0 ≤ a0 ∧ a0 < 24 then some (ixOut (inL (permL a0.toNat) 4) 4) else none
structure InvW (q : List Int) (i : Nat) (w wr : World) : Prop where
  b : Below w.heap.size w wr
  h0 : wr.heap[w.heap.size]? = some (.cells (nums .i64 (inL q i)).toArray 45 (0, 0))
set_option maxHeartbeats 8000000 in
set_option maxRecDepth 100000 in
theorem impl_invert.calls (a0 : Int) (r : Int) (w : World) (h : impl_invert.f a0 = some r) :
    Calls Try.prog 57 #[.int .i64 a0] w fun e w' => e = .returned (.int .i64 r) ∧ Below w.heap.size w w' := by
  unfold impl_invert.f at h
  by_cases hp : 0 ≤ a0 ∧ a0 < 24
  case neg => rw [if_neg hp] at h; exact absurd h (by simp)
  rw [if_pos hp] at h
  obtain rfl := Option.some.inj h
  obtain ⟨x0, x1, x2, x3, hq, hc⟩ := perm_lit a0 hp
  have CF := Aside0.mk hc
  have hrd := rd_perm a0.toNat (by omega)
  obtain ⟨q, hq'⟩ : ∃ q, q = permL a0.toNat := ⟨_, rfl⟩
  rw [← hq'] at hq hrd ⊢
  have HQ := Aside0.mk hq
  have HR := Aside0.mk hrd
  have hix : ∀ i, i < 4 → ∀ w, (Instr.index 45 (.agg #[.int .i64 x0, .int .i64 x1, .int .i64 x2, .int .i64 x3]) (.int .i64 ((i : Nat) : Int))).run Try.prog w = .ok (.int .i64 (rd q i)) w := fun i hi w =>
    run_index4 _ i _ (by have := nums_at q i (by rw [HQ.out]; exact hi); rw [HQ.out] at this ⊢; exact this) hi w
  have HX := Aside0.mk hix
  obtain ⟨w0, hw0⟩ : ∃ w0, w0 = w.alloc (.cells #[.int .i64 0, .int .i64 0, .int .i64 0, .int .i64 0] 45 (0, 0)) := ⟨_, rfl⟩
  obtain ⟨hb0, hz0⟩ := HB3_of w w (Below.refl _ _) #[.int .i64 0, .int .i64 0, .int .i64 0, .int .i64 0] 45
  rw [← hw0] at hb0 hz0
  have hsz : w.heap.size ≤ w0.heap.size := hb0.size
  have HB0 := Aside0.mk hb0
  have HZ0 := Aside0.mk hz0
  have HSZ := Aside0.mk hsz
  have HW0 := Aside0.mk hw0
  clear h hp hc hq hq' hrd hix hb0 hz0 hsz hw0
  go_enter Try.func57, Try.ntmps57
  go_wp2_with (go_at_call 48; (try rw [← HW0.out]); refine (CF.out _).mono ?_; rintro e w3 ⟨rfl, hb3⟩)
  have HI0 : Aside0 (InvW q 0 w w3) := ⟨⟨below_then HB0.out HSZ.out hb3, (blk_below HZ0.out hb3).trans rfl⟩⟩
  clear hb3 HB0 HZ0 HSZ HW0 CF
  go_loopg [8] 4 (fun gg s8 wr => ∃ i : Nat, gg + i = 4 ∧ s8 = .int .i64 i ∧ Aside0 (InvW q i w wr))
  case atStart => exact ⟨0, rfl, rfl, HI0⟩
  case round =>
    clear HI0
    obtain ⟨i, hi, rfl, HW⟩ := hrel
    by_cases h4 : i = 4
    · subst h4
      have hl := inL_length q 4
      have hcc : ∀ j, j < 4 → wr.cell? ⟨w.heap.size, j, none⟩ = some (.int .i64 (rd (inL q 4) j)) := fun j hj => by
        rw [blk_cell HW.out.h0 j]
        exact nums_at _ j (by omega)
      have a0_ := hcc 0 (by decide)
      have a1_ := hcc 1 (by decide)
      have a2_ := hcc 2 (by decide)
      have a3_ := hcc 3 (by decide)
      have CI := Aside0.mk (fun W => impl_indexOf.calls (inL q 4) (ixOut (inL q 4) 4) W (by unfold impl_indexOf.f; rw [if_pos hl]))
      have hla : (nums .i64 (inL q 4)).toArray = #[.int .i64 (rd (inL q 4) 0), .int .i64 (rd (inL q 4) 1), .int .i64 (rd (inL q 4) 2), .int .i64 (rd (inL q 4) 3)] := by
        generalize inL q 4 = m at hl
        match m, hl with
        | [y0, y1, y2, y3], _ => rfl
      rw [hla] at CI
      clear hcc hl hla
      go_wp2_with (go_at_call 53; refine (CI.out _).mono ?_; rintro e w5 ⟨rfl, hb5⟩)
      go_ret
      exact ⟨rfl, below_then HW.out.b HW.out.b.size hb5⟩
    · have hi4 : i < 4 := by omega
      have hd : decide ((i : Int) < 4) = true := decide_eq_true (by omega)
      have hi4t : ((i : Int) < 4) = True := eq_true (by omega)
      have hxi := HX.out i hi4
      obtain ⟨x, hx⟩ : ∃ x : Nat, rd q i = x := ⟨(rd q i).toNat, by have := (HR.out i hi4).1; omega⟩
      have hx4 : x < 4 := by have := (HR.out i hi4).2; omega
      rw [hx] at hxi
      have hs : inL q (i + 1) = (inL q i).set x i := by show (inL q i).set (rd q i).toNat i = _; rw [hx, Int.toNat_natCast]
      have hcx : wr.cell? ⟨w.heap.size, x, none⟩ = some (.int .i64 (rd (inL q i) x)) := by rw [blk_cell HW.out.h0 x]; exact nums_at _ x (by rw [inL_length]; exact hx4)
      have hfx := blk_frozen HW.out.h0 x
      have hx4t : ((x : Int) < 4) = True := eq_true (by omega)
      have w3_ : IntKind.i64.wrap ((i : Int) + 1) = ((i + 1 : Nat) : Int) := by rw [i64_w]; unfold wrap64; omega
      have HI := Aside0.mk hi
      have HI4 := Aside0.mk hi4
      have HS := Aside0.mk hs
      clear hi h4 hi4 hs hx hx4
      go_wp2
      go_roundg (gk - 1)
      case measure => have := HI.out; have := HI4.out; omega
      case rel =>
        refine ⟨i + 1, by have := HI.out; have := HI4.out; omega, rfl, ⟨HW.out.b.setCell (Nat.le_refl _) _, ?_⟩⟩
        rw [HS.out]
        exact (blk_set HW.out.h0 x _).trans (by rw [nums_set])


/-! ### impl_compose: function 55 -/
def cmL (a b : List Int) : Nat → List Int
  | 0 => [0, 0, 0, 0]
  | i + 1 => (cmL a b i).set i (rd b (rd a i))
theorem cmL_length (a b : List Int) : ∀ i, (cmL a b i).length = 4
  | 0 => rfl
  | i + 1 => by unfold cmL; rw [List.length_set, cmL_length a b i]
def impl_compose.f (a0 a1 : Int) : Option Int := if (0 ≤ a0 ∧ a0 < 24) ∧ 0 ≤ a1 ∧ a1 < 24 then some (ixOut (cmL (permL a0.toNat) (permL a1.toNat) 4) 4) else none
theorem heap_allocs3 (w : World) (o0 o1 o2 : Obj) (W : World) (hW : W = ((w.alloc o0).alloc o1).alloc o2) : Below w.heap.size w W ∧ W.heap[w.heap.size]? = some o0 ∧ W.heap[w.heap.size + 1]? = some o1 ∧ W.heap[w.heap.size + 1 + 1]? = some o2 := by
  subst hW
  have s1 : ∀ (v : World) (o : Obj), (v.alloc o).heap.size = v.heap.size + 1 := fun v o => by show (v.heap.push o).size = _; simp
  have n1 : ∀ (v : World) (o : Obj) (k : Nat), k = v.heap.size → (v.alloc o).heap[k]? = some o := fun v o k hk => by rw [hk]; exact heap_alloc_new v o
  refine ⟨Below.alloc (Below.alloc (Below.alloc (Below.refl _ _) (Nat.le_refl _) _) (by rw [s1]; omega) _) (by rw [s1, s1]; omega) _, ?_, ?_, ?_⟩
  · rw [Below.heap_alloc _ _ _ (by rw [s1, s1]; omega), Below.heap_alloc _ _ _ (by rw [s1]; omega)]
    exact n1 _ _ _ rfl
  · rw [Below.heap_alloc _ _ _ (by rw [s1, s1]; omega)]
    exact n1 _ _ _ (by rw [s1])
  · exact n1 _ _ _ (by rw [s1, s1])
structure CmpW (q u : List Int) (i g : Nat) (w wr : World) : Prop where
  b : Below w.heap.size w wr
  hb : w.heap.size ≤ g
  h0 : wr.heap[g]? = some (.cells (nums .i64 u).toArray 45 (0, 0))
  h1 : wr.heap[g + 1]? = some (.cells (nums .i64 (cmL q u i)).toArray 45 (0, 0))
set_option maxHeartbeats 8000000 in
set_option maxRecDepth 100000 in
theorem impl_compose.calls (a0 a1 : Int) (r : Int) (w : World) (h : impl_compose.f a0 a1 = some r) :
    Calls Try.prog 55 #[.int .i64 a0, .int .i64 a1] w fun e w' => e = .returned (.int .i64 r) ∧ Below w.heap.size w w' := by
  unfold impl_compose.f at h
  by_cases hp : (0 ≤ a0 ∧ a0 < 24) ∧ 0 ≤ a1 ∧ a1 < 24
  case neg => rw [if_neg hp] at h; exact absurd h (by simp)
  rw [if_pos hp] at h
  obtain rfl := Option.some.inj h
  obtain ⟨x0, x1, x2, x3, hq, hc⟩ := perm_lit a0 hp.1
  obtain ⟨y0, y1, y2, y3, hu, hd⟩ := perm_lit a1 hp.2
  have CF := Aside0.mk hc
  have CG := Aside0.mk hd
  have hrd := rd_perm a0.toNat (by omega)
  obtain ⟨q, hq'⟩ : ∃ q, q = permL a0.toNat := ⟨_, rfl⟩
  obtain ⟨u, hu'⟩ : ∃ u, u = permL a1.toNat := ⟨_, rfl⟩
  rw [← hq'] at hq hrd ⊢
  rw [← hu'] at hu ⊢
  have HQ := Aside0.mk hq
  have HU := Aside0.mk hu
  have HR := Aside0.mk hrd
  have hix : ∀ i, i < 4 → ∀ w, (Instr.index 45 (.agg #[.int .i64 x0, .int .i64 x1, .int .i64 x2, .int .i64 x3]) (.int .i64 ((i : Nat) : Int))).run Try.prog w = .ok (.int .i64 (rd q i)) w := fun i hi w =>
    run_index4 _ i _ (by have := nums_at q i (by rw [HQ.out]; exact hi); rw [HQ.out] at this ⊢; exact this) hi w
  have HX := Aside0.mk hix
  clear h hp hc hd hq hq' hu hu' hrd hix
  go_enter Try.func55, Try.ntmps55
  go_wp2_with (first
    | (go_at_call 48; refine (CF.out _).mono ?_; rintro e w1 ⟨rfl, hb1⟩; have HB1 := Aside0.mk hb1; clear hb1 CF)
    | (go_at_call 48; refine (CG.out _).mono ?_; rintro e w2 ⟨rfl, hb2⟩; have HB2 := Aside0.mk (below_then HB1.out HB1.out.size hb2); clear hb2 HB1 CG))
  obtain ⟨W, hW⟩ : ∃ W, W = ((w2.alloc (.cells #[.int .i64 x0, .int .i64 x1, .int .i64 x2, .int .i64 x3] 45 (0, 0))).alloc (.cells #[.int .i64 y0, .int .i64 y1, .int .i64 y2, .int .i64 y3] 45 (0, 0))).alloc (.cells #[.int .i64 0, .int .i64 0, .int .i64 0, .int .i64 0] 45 (0, 0)) := ⟨_, rfl⟩
  obtain ⟨hbw, _, hh0, hh1⟩ := heap_allocs3 w2 _ _ _ W hW
  rw [← hW]
  have HI0 : Aside0 (CmpW q u 0 (w2.heap.size + 1) w W) := ⟨⟨below_then HB2.out HB2.out.size hbw, Nat.le_trans HB2.out.size (Nat.le_succ _), by rw [hh0, HU.out]; rfl, hh1⟩⟩
  have hul : u.length = 4 := by rw [HU.out]; rfl
  have HUL := Aside0.mk hul
  clear hW hbw hh0 hh1 HB2 hul
  go_loopg [15] 4 (fun gg s15 wr => ∃ i : Nat, gg + i = 4 ∧ s15 = .int .i64 i ∧ Aside0 (CmpW q u i (w2.heap.size + 1) w wr))
  case atStart => exact ⟨0, rfl, rfl, HI0⟩
  case round =>
    clear HI0
    obtain ⟨i, hi, rfl, HW⟩ := hrel
    by_cases h4 : i = 4
    · subst h4
      have hl := cmL_length q u 4
      have hcc : ∀ j, j < 4 → wr.cell? ⟨w2.heap.size + 1 + 1, j, none⟩ = some (.int .i64 (rd (cmL q u 4) j)) := fun j hj => by
        rw [blk_cell HW.out.h1 j]
        exact nums_at _ j (by omega)
      have a0_ := hcc 0 (by decide)
      have a1_ := hcc 1 (by decide)
      have a2_ := hcc 2 (by decide)
      have a3_ := hcc 3 (by decide)
      have CI := Aside0.mk (fun W => impl_indexOf.calls (cmL q u 4) (ixOut (cmL q u 4) 4) W (by unfold impl_indexOf.f; rw [if_pos hl]))
      have hla : (nums .i64 (cmL q u 4)).toArray = #[.int .i64 (rd (cmL q u 4) 0), .int .i64 (rd (cmL q u 4) 1), .int .i64 (rd (cmL q u 4) 2), .int .i64 (rd (cmL q u 4) 3)] := by
        generalize cmL q u 4 = m at hl
        match m, hl with
        | [z0, z1, z2, z3], _ => rfl
      rw [hla] at CI
      clear hcc hl hla
      go_wp2_with (go_at_call 53; refine (CI.out _).mono ?_; rintro e w5 ⟨rfl, hb5⟩)
      go_ret
      exact ⟨rfl, below_then HW.out.b HW.out.b.size hb5⟩
    · have hi4 : i < 4 := by omega
      have hd : decide ((i : Int) < 4) = true := decide_eq_true (by omega)
      have hi4t : ((i : Int) < 4) = True := eq_true (by omega)
      have hxi := HX.out i hi4
      obtain ⟨x, hx⟩ : ∃ x : Nat, rd q i = x := ⟨(rd q i).toNat, by have := (HR.out i hi4).1; omega⟩
      have hx4 : x < 4 := by have := (HR.out i hi4).2; omega
      rw [hx] at hxi
      have hs : cmL q u (i + 1) = (cmL q u i).set i (rd u x) := by show (cmL q u i).set i (rd u (rd q i)) = _; rw [hx]
      have hcx : wr.cell? ⟨w2.heap.size + 1, x, none⟩ = some (.int .i64 (rd u x)) := by rw [blk_cell HW.out.h0 x]; exact nums_at _ x (by have := HUL.out; omega)
      have hci : wr.cell? ⟨w2.heap.size + 1 + 1, i, none⟩ = some (.int .i64 (rd (cmL q u i) i)) := by rw [blk_cell HW.out.h1 i]; exact nums_at _ i (by rw [cmL_length]; exact hi4)
      have hfx := blk_frozen HW.out.h1 i
      have hx4t : ((x : Int) < 4) = True := eq_true (by omega)
      have w3_ : IntKind.i64.wrap ((i : Int) + 1) = ((i + 1 : Nat) : Int) := by rw [i64_w]; unfold wrap64; omega
      have HI := Aside0.mk hi
      have HI4 := Aside0.mk hi4
      have HS := Aside0.mk hs
      clear hi h4 hi4 hs hx hx4
      go_wp2
      go_roundg (gk - 1)
      case measure => have := HI.out; have := HI4.out; omega
      case rel =>
        refine ⟨i + 1, by have := HI.out; have := HI4.out; omega, rfl, ⟨HW.out.b.setCell (Nat.le_trans HW.out.hb (Nat.le_succ _)) _, HW.out.hb, (Below.heap_setCell _ _ _ _ (by show w2.heap.size + 1 ≠ w2.heap.size + 1 + 1; omega)).trans HW.out.h0, ?_⟩⟩
        rw [HS.out]
        exact (blk_set HW.out.h1 i _).trans (by rw [nums_set])

/-! ### impl_OrderPerm4: function 32 -/
def impl_OrderPerm4.l0 : Nat → Int → Int → Int → Option (Int)
  | 0, _, _, _ => none
  | k + 1, x0, x3, x4 => if x4 = 0 then (some x3) else ((impl_compose.f x4 x0).bind fun t153 => (impl_OrderPerm4.l0 k x0 (wrap64 (x3 + 1)) t153))
def impl_OrderPerm4.f (k : Nat) (a0 : Int) : Option (Int) := (impl_isPerm.f a0).bind fun t152 => (if t152 = true then (impl_OrderPerm4.l0 k a0 1 a0) else (some (-1)))
theorem impl_OrderPerm4.mono_l : ∀ k, (∀ y0 y1 y2, LeO (impl_OrderPerm4.l0 k y0 y1 y2) (impl_OrderPerm4.l0 (k + 1) y0 y1 y2))
  | 0 => fun _ _ _ r h => by simp [impl_OrderPerm4.l0] at h
  | k + 1 => by
    have ih0 := impl_OrderPerm4.mono_l k
    · intro y0 y1 y2
      unfold impl_OrderPerm4.l0
      repeat' first
      | (with_reducible exact ih0 _ _ _)
      | (with_reducible exact LeO.refl _)
      | (with_reducible exact LeO.none _)
      | (with_reducible refine LeO.ite ?_ ?_)
      | (with_reducible refine LeO.bind ?_ (fun _ => ?_))
      | exact ih0 _ _ _
      | exact LeO.none _
      | refine LeO.ite ?_ ?_
      | refine LeO.bind ?_ (fun _ => ?_)
theorem impl_OrderPerm4.mono : ∀ a0 k, LeO (impl_OrderPerm4.f k a0) (impl_OrderPerm4.f (k + 1) a0) := by
  intro a0 k
  have ih0 := impl_OrderPerm4.mono_l k
  unfold impl_OrderPerm4.f
  repeat' first
      | (with_reducible exact ih0 _ _ _)
      | (with_reducible exact LeO.refl _)
      | (with_reducible exact LeO.none _)
      | (with_reducible refine LeO.ite ?_ ?_)
      | (with_reducible refine LeO.bind ?_ (fun _ => ?_))
      | exact ih0 _ _ _
      | exact LeO.none _
      | refine LeO.ite ?_ ?_
      | refine LeO.bind ?_ (fun _ => ?_)
set_option maxHeartbeats 8000000 in
set_option maxRecDepth 100000 in
theorem impl_OrderPerm4.calls (k : Nat) (a0 : Int) (r : Int) (w : World) (h : impl_OrderPerm4.f k a0 = some r) :
    Calls Try.prog 32 #[.int .i64 a0] w fun e w' => e = .returned (.int .i64 r) ∧ Below w.heap.size w w' := by
  have HB := Aside0.mk (Below.refl w.heap.size w)
  have H : ((impl_isPerm.f a0).bind fun t152 => (if t152 = true then (impl_OrderPerm4.l0 k a0 1 a0) else (some (-1)))) = some r := h
  clear h
  replace H := Option.bind_eq_some_iff.mp H
  obtain ⟨t152, A20, H⟩ := H
  replace H : (if t152 = true then (impl_OrderPerm4.l0 k a0 1 a0) else (some (-1))) = some r := H
  have A2 := Aside0.mk A20
  clear A20
  by_cases c3 : t152 = true
  · subst c3
    have H1 : (impl_OrderPerm4.l0 k a0 1 a0) = some r := by rw [if_pos rfl] at H; exact H
    clear H
    have H := H1
    clear H1
    have H' := Aside0.mk H
    clear H
    go_enter Try.func32, Try.ntmps32
    go_wp2_with (first | ((with_reducible refine gate_callee (f := 46) rfl ?_); refine goesL_ (some 6) rfl rfl Try.func46 (by kernel_rfl) rfl #[.int .i64 a0] rfl (by (try simp only [List.map_toArray, List.map_cons, List.map_nil]); first | done | rfl | (simp only [List.length_drop, List.length_take]; rfl)) ?_; (with_reducible refine (impl_isPerm.calls a0 true _ A2.out).mono ?_); rintro e w' ⟨rfl, ⟨nd, rfl⟩⟩; refine ⟨_, rfl, ?_⟩))
    go_loopg [3, 4] k (fun kq v3 v4 w' => ∃ (x3_1 : Int) (x4_1 : Int), v3 = .int .i64 x3_1 ∧ v4 = .int .i64 x4_1 ∧ Aside0 (impl_OrderPerm4.l0 kq a0 x3_1 x4_1 = some r) ∧ Aside0 (kq ≤ k) ∧ Aside0 (Below w.heap.size w w'))
    case atStart => exact ⟨(1), (a0), (by first | rfl | (simp; done) | (simp [*]; done)), (by first | rfl | (simp; done) | (simp [*]; done)), H', ⟨Nat.le_refl _⟩, ⟨by repeat (first | (with_reducible first | exact HB.out | apply below_alloc | apply pw_below_drewN | apply below_drew1) | exact HB.out)⟩⟩
    case round =>
      clear H'
      try clear p2
      try clear c3
      obtain ⟨x3_1, x4_1, rfl, rfl, HA, HK1, HB⟩ := hrel
      cases gk with
      | zero => exact absurd HA.out (by simp [impl_OrderPerm4.l0])
      | succ k1 =>
        have H := HA.out
        clear HA
        simp only [impl_OrderPerm4.l0] at H
        by_cases c4 : x4_1 = 0
        · rw [if_pos c4] at H
          have c4b0 : (x4_1 == 0) = true := beq_iff_eq.mpr c4
          have c4b1 : (x4_1 != 0) = false := bne_eq_false_iff_eq.mpr c4
          clear c4
          obtain rfl := Option.some.inj H
          go_wp2
          go_ret
          exact ⟨by first | rfl | (simp [errW_none, errW_some] <;> rfl) | (simp [*, errW_none, errW_some] <;> rfl), by repeat (first | (with_reducible first | exact HB.out | apply below_alloc | apply pw_below_drewN | apply below_drew1) | exact HB.out)⟩
        · rw [if_neg c4] at H
          have c4b0 : (x4_1 == 0) = false := beq_eq_false_iff_ne.mpr c4
          have c4b1 : (x4_1 != 0) = true := bne_iff_ne.mpr c4
          replace H := Option.bind_eq_some_iff.mp H
          obtain ⟨t153, A50, H⟩ := H
          replace H : (impl_OrderPerm4.l0 k1 a0 (wrap64 (x3_1 + 1)) t153) = some r := H
          have A5 := Aside0.mk A50
          clear A50
          have H' := Aside0.mk H
          clear H
          go_wp2_with (first | ((with_reducible refine gate_callee (f := 55) rfl ?_); refine goesL_ (some 13) rfl rfl Try.func55 (by kernel_rfl) rfl #[.int .i64 x4_1, .int .i64 a0] rfl (by (try simp only [List.map_toArray, List.map_cons, List.map_nil]); first | done | rfl | (simp only [List.length_drop, List.length_take]; rfl)) ?_; (with_reducible refine (impl_compose.calls x4_1 a0 t153 _ A5.out).mono ?_); rintro e w6 ⟨rfl, hb⟩; refine ⟨_, rfl, ?_⟩; have n0_ := Aside0.mk (below_step (by repeat (first | (with_reducible first | exact HB.out | apply below_alloc | apply pw_below_drewN | apply below_drew1) | exact HB.out)) hb); clear HB; have HB := n0_; clear n0_; (try clear hb); (try clear hb2); (try clear hk); (try clear hi)))
          go_roundg k1
          case measure => have := HK1.out; omega
          case rel => exact ⟨(wrap64 (x3_1 + 1)), (t153), (by first | rfl | (simp; done) | (simp [*]; done)), (by first | rfl | (simp; done) | (simp [*]; done)), H', ⟨by have := HK1.out; omega⟩, ⟨by repeat (first | (with_reducible first | exact HB.out | apply below_alloc | apply pw_below_drewN | apply below_drew1) | exact HB.out)⟩⟩
  · replace c3 := Bool.eq_false_iff.mpr c3
    subst c3
    have H1 : (some (-1)) = some r := by rw [if_neg (show ¬ (false = true) by decide)] at H; exact H
    clear H
    have H := H1
    clear H1
    obtain rfl := Option.some.inj H
    go_enter Try.func32, Try.ntmps32
    go_wp2_with (first | ((with_reducible refine gate_callee (f := 46) rfl ?_); refine goesL_ (some 6) rfl rfl Try.func46 (by kernel_rfl) rfl #[.int .i64 a0] rfl (by (try simp only [List.map_toArray, List.map_cons, List.map_nil]); first | done | rfl | (simp only [List.length_drop, List.length_take]; rfl)) ?_; (with_reducible refine (impl_isPerm.calls a0 false _ A2.out).mono ?_); rintro e w' ⟨rfl, ⟨nd, rfl⟩⟩; refine ⟨_, rfl, ?_⟩))
    go_ret
    exact ⟨by first | rfl | (simp [errW_none, errW_some] <;> rfl) | (simp [*, errW_none, errW_some] <;> rfl), by repeat (first | (with_reducible first | exact HB.out | apply below_alloc | apply pw_below_drewN | apply below_drew1) | exact HB.out)⟩

/-! ### laws_FnExactOrderPerm4: function 9 -/
def laws_FnExactOrderPerm4.f (k : Nat) (a0 : Int) : Option (Bool) := (spec_OrderPerm4.f k a0).bind fun t154 => ((impl_OrderPerm4.f k a0).bind fun t155 => (if t155 = t154 then (some true) else (some false)))
theorem laws_FnExactOrderPerm4.mono : ∀ a0 k, LeO (laws_FnExactOrderPerm4.f k a0) (laws_FnExactOrderPerm4.f (k + 1) a0) := by
  intro a0 k
  unfold laws_FnExactOrderPerm4.f
  repeat' first
      | (with_reducible exact impl_OrderPerm4.mono _ _)
      | (with_reducible exact spec_OrderPerm4.mono _ _)
      | (with_reducible exact LeO.refl _)
      | (with_reducible exact LeO.none _)
      | (with_reducible refine LeO.ite ?_ ?_)
      | (with_reducible refine LeO.bind ?_ (fun _ => ?_))
      | exact impl_OrderPerm4.mono _ _
      | exact spec_OrderPerm4.mono _ _
      | exact LeO.none _
      | refine LeO.ite ?_ ?_
      | refine LeO.bind ?_ (fun _ => ?_)
set_option maxHeartbeats 8000000 in
set_option maxRecDepth 100000 in
theorem laws_FnExactOrderPerm4.calls (k : Nat) (a0 : Int) (r : Bool) (w : World) (h : laws_FnExactOrderPerm4.f k a0 = some r) (HT_ : Aside0 (r = true)) :
    Calls Try.prog 9 #[.int .i64 a0] w fun e w' => e = .returned (.bool r) ∧ Below w.heap.size w w' := by
  have HB := Aside0.mk (Below.refl w.heap.size w)
  have H : ((spec_OrderPerm4.f k a0).bind fun t154 => ((impl_OrderPerm4.f k a0).bind fun t155 => (if t155 = t154 then (some true) else (some false)))) = some r := h
  clear h
  replace H := Option.bind_eq_some_iff.mp H
  obtain ⟨t154, A20, H⟩ := H
  replace H : ((impl_OrderPerm4.f k a0).bind fun t155 => (if t155 = t154 then (some true) else (some false))) = some r := H
  have A2 := Aside0.mk A20
  clear A20
  replace H := Option.bind_eq_some_iff.mp H
  obtain ⟨t155, A30, H⟩ := H
  replace H : (if t155 = t154 then (some true) else (some false)) = some r := H
  have A3 := Aside0.mk A30
  clear A30
  by_cases c4 : t155 = t154
  · rw [if_pos c4] at H
    have c4b0 : (t155 == t154) = true := beq_iff_eq.mpr c4
    have c4b1 : (t155 != t154) = false := bne_eq_false_iff_eq.mpr c4
    clear c4
    obtain rfl := Option.some.inj H
    go_enter Try.func9, Try.ntmps9
    go_wp2_with (first | ((with_reducible refine gate_callee (f := 31) rfl ?_); refine goesL_ (some 6) rfl rfl Try.func31 (by kernel_rfl) rfl #[.int .i64 a0] rfl (by (try simp only [List.map_toArray, List.map_cons, List.map_nil]); first | done | rfl | (simp only [List.length_drop, List.length_take]; rfl)) ?_; (with_reducible refine (spec_OrderPerm4.calls k a0 t154 _ A2.out).mono ?_); rintro e w5 ⟨rfl, hb⟩; refine ⟨_, rfl, ?_⟩; have n0_ := Aside0.mk (below_step (by repeat (first | (with_reducible first | exact HB.out | apply below_alloc | apply pw_below_drewN | apply below_drew1) | exact HB.out)) hb); clear HB; have HB := n0_; clear n0_; (try clear hb); (try clear hb2); (try clear hk); (try clear hi)) | ((with_reducible refine gate_callee (f := 32) rfl ?_); refine goesL_ (some 8) rfl rfl Try.func32 (by kernel_rfl) rfl #[.int .i64 a0] rfl (by (try simp only [List.map_toArray, List.map_cons, List.map_nil]); first | done | rfl | (simp only [List.length_drop, List.length_take]; rfl)) ?_; (with_reducible refine (impl_OrderPerm4.calls k a0 t155 _ A3.out).mono ?_); rintro e w6 ⟨rfl, hb⟩; refine ⟨_, rfl, ?_⟩; have n0_ := Aside0.mk (below_step (by repeat (first | (with_reducible first | exact HB.out | apply below_alloc | apply pw_below_drewN | apply below_drew1) | exact HB.out)) hb); clear HB; have HB := n0_; clear n0_; (try clear hb); (try clear hb2); (try clear hk); (try clear hi)))
    go_ret
    exact ⟨by first | rfl | (simp [errW_none, errW_some] <;> rfl) | (simp [*, errW_none, errW_some] <;> rfl), by repeat (first | (with_reducible first | exact HB.out | apply below_alloc | apply pw_below_drewN | apply below_drew1) | exact HB.out)⟩
  · rw [if_neg c4] at H
    have c4b0 : (t155 == t154) = false := beq_eq_false_iff_ne.mpr c4
    have c4b1 : (t155 != t154) = true := bne_iff_ne.mpr c4
    exact absurd ((Option.some.inj H).trans HT_.out) (by simp)

/-- THE ONE PURE STATEMENT of laws_FnExactOrderPerm4: yours. -/
def laws_FnExactOrderPerm4.Pure : Prop := ∀ (a0 : Int), (Lit.int .i64 a0).wf = true → ∃ k, laws_FnExactOrderPerm4.f k a0 = some true
theorem laws_FnExactOrderPerm4.walk (P : laws_FnExactOrderPerm4.Pure) (a0 : Int) (w : World) (w0 : (Lit.int .i64 a0).wf = true) :
    Calls Try.prog 9 #[.int .i64 a0] w fun e w' => e = .returned (.bool true) ∧ Below w.heap.size w w' := by
  obtain ⟨k, h⟩ := P a0 w0
  refine (laws_FnExactOrderPerm4.calls k a0 true w h ⟨rfl⟩).mono ?_
  rintro e w' ⟨rfl, hd⟩
  exact ⟨rfl, hd⟩

end Go.Proofs.Ytmffjekpnibnfaa.PFnExactOrderPerm4
