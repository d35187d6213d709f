/- Written by this session's program out of the kit's print and this session's contracts. -/
import Derived.Test.YtmffjekpnibnfaaPFnPermGroupx0
namespace Go.Proofs.Ytmffjekpnibnfaa.PFnPermGroup
open Go.RowKit Go.Proofs.YtmffjekpnibnfaaW.PrintWords Go.Proofs.YtmffjekpnibnfaaW.PrintLast Go.Proofs.YtmffjekpnibnfaaW.PrintMore
attribute [local go_sem] max2_int min2_int max_two min_two max_three min_three max_four min_four   -- for this text's walks alone
set_option linter.unusedVariables false
set_option linter.unusedSimpArgs false

/-! ### impl_inRange: function 64 -/
def impl_inRange.f (a0 : Int) (a1 : Int) (a2 : Int) : Option (Bool) := if a1 ≤ a0 then (some (decide (a0 ≤ a2))) else (some false)
set_option maxHeartbeats 8000000 in
set_option maxRecDepth 100000 in
theorem impl_inRange.calls (a0 : Int) (a1 : Int) (a2 : Int) (r : Bool) (w : World) (h : impl_inRange.f a0 a1 a2 = some r) :
    Calls Try.prog 64 #[.int .i64 a0, .int .i64 a1, .int .i64 a2] w fun e w' => e = .returned (.bool r) ∧ Drawn0 w w' := by
  have H : (if a1 ≤ a0 then (some (decide (a0 ≤ a2))) else (some false)) = some r := h
  clear h
  by_cases c4 : a1 ≤ a0
  · rw [if_pos c4] at H
    have c4b0 : decide (a1 ≤ a0) = true := decide_eq_true c4
    clear c4
    obtain rfl := Option.some.inj H
    go_enter Try.func64, Try.ntmps64
    go_wp2
    go_ret
    exact ⟨by first | rfl | (simp; done) | (simp [*]; done), by repeat (first | exact Drawn0.refl _ | apply Drawn0.step)⟩
  · rw [if_neg c4] at H
    have c4b0 : decide (a1 ≤ a0) = false := decide_eq_false c4
    clear c4
    obtain rfl := Option.some.inj H
    go_enter Try.func64, Try.ntmps64
    go_wp2
    go_ret
    exact ⟨by first | rfl | (simp; done) | (simp [*]; done), by repeat (first | exact Drawn0.refl _ | apply Drawn0.step)⟩

theorem inRange_t (x a b : Int) (w : World) (h1 : a ≤ x) (h2 : x ≤ b) : Calls Try.prog 64 #[.int .i64 x, .int .i64 a, .int .i64 b] w fun e w' => e = .returned (.bool true) ∧ w' = w := by
  have e1 : decide (a ≤ x) = true := decide_eq_true h1
  have e2 : decide (x ≤ b) = true := decide_eq_true h2
  clear h1 h2
  go_enter Try.func64, Try.ntmps64
  go_wp2
  go_ret
  exact ⟨rfl, rfl⟩
theorem inRange_f (x a b : Int) (w : World) (h : ¬ (a ≤ x ∧ x ≤ b)) : Calls Try.prog 64 #[.int .i64 x, .int .i64 a, .int .i64 b] w fun e w' => e = .returned (.bool false) ∧ w' = w := by
  by_cases h1 : a ≤ x
  · have e1 : decide (a ≤ x) = true := decide_eq_true h1
    have e2 : decide (x ≤ b) = false := decide_eq_false fun h2 => h ⟨h1, h2⟩
    clear h1 h
    go_enter Try.func64, Try.ntmps64
    go_wp2
    go_ret
    exact ⟨rfl, rfl⟩
  · have e1 : decide (a ≤ x) = false := decide_eq_false h1
    clear h1 h
    go_enter Try.func64, Try.ntmps64
    go_wp2
    go_ret
    exact ⟨rfl, rfl⟩


/-! ### impl_isPerm: function 46 -/
def impl_isPerm.f (a0 : Int) : Option (Bool) := (impl_inRange.f a0 0 23).bind fun t101 => (some t101)
set_option maxHeartbeats 8000000 in
set_option maxRecDepth 100000 in
theorem impl_isPerm.calls (a0 : Int) (r : Bool) (w : World) (h : impl_isPerm.f a0 = some r) :
    Calls Try.prog 46 #[.int .i64 a0] w fun e w' => e = .returned (.bool r) ∧ Drawn0 w w' := by
  have H : ((impl_inRange.f a0 0 23).bind fun t101 => (some t101)) = some r := h
  clear h
  replace H := Option.bind_eq_some_iff.mp H
  obtain ⟨t101, A20, H⟩ := H
  replace H : (some t101) = some r := H
  have A2 := Aside0.mk A20
  clear A20
  obtain rfl := Option.some.inj H
  go_enter Try.func46, Try.ntmps46
  go_wp2_with (first | ((with_reducible refine gate_callee (f := 64) rfl ?_); refine goesL_ (some 4) rfl rfl Try.func64 (by kernel_rfl) rfl #[.int .i64 a0, .int .i64 0, .int .i64 23] rfl (by (try simp only [List.map_toArray, List.map_cons, List.map_nil]); first | done | rfl | (simp only [List.length_drop, List.length_take]; rfl)) ?_; (with_reducible refine (impl_inRange.calls a0 0 23 t101 _ A2.out).mono ?_); rintro e w' ⟨rfl, ⟨nd, rfl⟩⟩; refine ⟨_, rfl, ?_⟩))
  go_ret
  exact ⟨by first | rfl | (simp; done) | (simp [*]; done), by repeat (first | exact Drawn0.refl _ | apply Drawn0.step)⟩

/-! ### impl_isVertex: function 47 -/
def impl_isVertex.f (a0 : Int) : Option (Bool) := (impl_inRange.f a0 0 3).bind fun t102 => (some t102)
set_option maxHeartbeats 8000000 in
set_option maxRecDepth 100000 in
theorem impl_isVertex.calls (a0 : Int) (r : Bool) (w : World) (h : impl_isVertex.f a0 = some r) :
    Calls Try.prog 47 #[.int .i64 a0] w fun e w' => e = .returned (.bool r) ∧ Drawn0 w w' := by
  have H : ((impl_inRange.f a0 0 3).bind fun t102 => (some t102)) = some r := h
  clear h
  replace H := Option.bind_eq_some_iff.mp H
  obtain ⟨t102, A20, H⟩ := H
  replace H : (some t102) = some r := H
  have A2 := Aside0.mk A20
  clear A20
  obtain rfl := Option.some.inj H
  go_enter Try.func47, Try.ntmps47
  go_wp2_with (first | ((with_reducible refine gate_callee (f := 64) rfl ?_); refine goesL_ (some 4) rfl rfl Try.func64 (by kernel_rfl) rfl #[.int .i64 a0, .int .i64 0, .int .i64 3] rfl (by (try simp only [List.map_toArray, List.map_cons, List.map_nil]); first | done | rfl | (simp only [List.length_drop, List.length_take]; rfl)) ?_; (with_reducible refine (impl_inRange.calls a0 0 3 t102 _ A2.out).mono ?_); rintro e w' ⟨rfl, ⟨nd, rfl⟩⟩; refine ⟨_, rfl, ?_⟩))
  go_ret
  exact ⟨by first | rfl | (simp; done) | (simp [*]; done), by repeat (first | exact Drawn0.refl _ | apply Drawn0.step)⟩

/-! ### slices_Delete_int64_int64: function 69 -/
set_option maxHeartbeats 8000000 in
set_option maxRecDepth 1000000 in
/-- slices.Delete(s, i, i + 1), turned from the library's walk to this program's own instance. -/
theorem deleteInts (blk off cap i : Nat) (d : Array Int) (w : World) (hH : Go.Sort.Holds (Value.int .i64) w blk off d) (hcap : d.size ≤ cap) (hm : cap ≤ 9223372036854775807) (hi : i + 1 ≤ d.size) :
    Calls Try.prog 69 #[.slice (some ⟨blk, off, none⟩) d.size cap, .int .i64 i, .int .i64 ((i + 1 : Nat) : Int)] w fun e w' => e = .returned (.slice (some ⟨blk, off, none⟩) (d.size - 1) cap) ∧ ∃ q, w' = Go.Sort.putRow (Value.int .i64) (Go.Sort.ahead w q) blk off (d.toList.take i ++ d.toList.drop (i + 1) ++ List.replicate (i + 1 - i) (0 : Int)).toArray := by
  obtain ⟨i0, hi0, hz0, hz1, hz2⟩ := info_parts info2
  obtain ⟨j, hjj⟩ : ∃ j, j = i + 1 := ⟨_, rfl⟩
  rw [← hjj] at hi ⊢
  have hne : decide ((i : Int) = (j : Int)) = false := decide_eq_false (by omega)
  have hlt : i < j := by omega
  have hij : i ≤ j := by omega
  have hj : j ≤ d.size := hi
  have h1 : ∀ x : Int, (Value.int .i64 x).oneCell' = true := fun _ => rfl
  obtain ⟨news, hnews⟩ : ∃ news, news = (d.toList.drop j).map (Value.int .i64) := ⟨_, rfl⟩
  have hlen : news.length = d.size - j := by rw [hnews]; simp
  have hget : ∀ t, t < d.size - j → news[t]? = some (Value.int .i64 d[j + t]!) := by
    intro t ht
    rw [hnews, List.getElem?_map, List.getElem?_drop, Array.getElem?_toList, getElem!_pos d (j + t) (by omega), Array.getElem?_eq_getElem (by omega)]
    rfl
  obtain ⟨A, hA, hsrc⟩ : ∃ A : Addr, (if cap = j then some (⟨blk, off, none⟩ : Addr) else some ⟨blk, off + j, none⟩) = some A ∧ Hid (∀ t u, news[t]? = some u → w.drew.cell? (A.add t) = some u) := by
    by_cases h : cap = j
    · refine ⟨⟨blk, off, none⟩, by simp [h], fun t u hu => ?_⟩
      have h0 : news.length = 0 := by rw [hlen]; omega
      rw [List.length_eq_zero_iff.1 h0] at hu
      simp at hu
    · refine ⟨⟨blk, off + j, none⟩, by simp [h], fun t u hu => ?_⟩
      have ht : t < d.size - j := by
        have := (List.getElem?_eq_some_iff.1 hu).1
        rwa [hlen] at this
      rw [hget t ht] at hu
      rw [Addr.add_lit, show off + j + t = off + (j + t) by omega]
      exact (hH (j + t) (by omega)).1.trans hu
  have s1 : Hid (news.length = (d.size - j) * 1) := by rw [Nat.mul_one]; exact hlen
  have s2 : Hid (∀ u ∈ news, u.oneCell' = true) := by
    intro u hu
    rw [hnews] at hu
    obtain ⟨x, _, rfl⟩ := List.mem_map.1 hu
    exact h1 x
  have s3 : Hid (∀ t, t < news.length → (w.drew.cell? ⟨blk, off + i * 1 + t, none⟩).isSome = true ∧ w.drew.frozen? ⟨blk, off + i * 1 + t, none⟩ = false) := by
    intro t ht
    rw [hlen] at ht
    rw [Nat.mul_one, Nat.add_assoc]
    exact ⟨by show (w.cell? _).isSome = true; rw [(hH (i + t) (by omega)).1]; rfl, (hH (i + t) (by omega)).2⟩
  obtain ⟨W1, hW1⟩ : ∃ W1, W1 = w.drew.setCells blk (off + i * 1) news := ⟨_, rfl⟩
  have hW1' : W1 = Go.Sort.putRow (Value.int .i64) (Go.Sort.ahead w 1) blk off (Go.Lib.lay d i (d.toList.drop j)) := by
    rw [hW1, hnews, Nat.mul_one, ← Go.Lib.putRow_setCells (Value.int .i64) (Go.Sort.ahead w 1) blk off _ d i (by simp; omega), Go.Sort.putRow_self (Value.int .i64) (Go.Sort.ahead w 1) blk off d (Go.Sort.holds_ahead (Value.int .i64) w 1 blk off d hH)]
    rfl
  have hH1 : Go.Sort.Holds (Value.int .i64) W1 blk off (Go.Lib.lay d i (d.toList.drop j)) := by rw [hW1']; exact Go.Sort.holds_putRow (Value.int .i64) _ blk off d _ (Go.Sort.holds_ahead (Value.int .i64) w 1 blk off d hH) (Go.Lib.lay_size _ _ _)
  have hcl : ∀ ty, (Builtin.clear_ #[26] ty #[.slice (some ⟨blk, off + (i + (d.size - j)), none⟩) (d.size - (i + (d.size - j))) (cap - (i + (d.size - j)))]).run Try.prog W1 = .ok (.tuple #[]) (W1.setCells blk (off + (i + (d.size - j))) (List.replicate (d.size - (i + (d.size - j))) (Value.int .i64 0))) :=
    fun ty => Go.Lib.run_clear_slice W1 _ _ ty _ Try.underlying26 (fun w => Try.zeroValue2 w) rfl rfl blk (off + (i + (d.size - j))) _ _ (by omega) (fun t ht => by rw [show off + (i + (d.size - j)) + t = off + (i + (d.size - j) + t) by omega, (hH1 _ (by rw [Go.Lib.lay_size]; omega)).1]; rfl) (fun t ht => by rw [show off + (i + (d.size - j)) + t = off + (i + (d.size - j) + t) by omega]; exact (hH1 _ (by rw [Go.Lib.lay_size]; omega)).2)
  have X : Aside (W1 = Go.Sort.putRow (Value.int .i64) (Go.Sort.ahead w 1) blk off (Go.Lib.lay d i (d.toList.drop j))) := hW1'
  have hW : Hid (W1 = w.drew.setCells blk (off + i * 1) news) := hW1
  have hic : i ≤ cap := by omega
  have hjc : j ≤ cap := by omega
  have mixed : Try.prog.follows Departure.mixedOrders = true := by kernel_rfl
  have hd1 : d.size - 1 = i + (d.size - j) := by omega
  clear hW1 hW1' hH1 hH hget hnews hlen hjj
  go_enter Try.func69, Try.ntmps69
  go_wp2_with fail
  go_region_law_o (refine step_append_room rfl (.tmp 22) (.tmp 25) 26 rfl 2 i0 1 Try.underlying26 hi0 hz1 blk off i cap (by simp [Act.eval, Act.put]) A (d.size - j) (cap - j) news (by simp [Act.eval, Act.put]) s1.out hsrc.out s2.out (by omega) s3.out ?_; rw [← hW.out])
  go_wp2
  go_ret
  refine ⟨by rw [hd1]; rfl, 1, ?_⟩
  rw [← Go.Lib.delete_arr d i j 0 hij hj, ← Go.Lib.putRow_setCells (Value.int .i64) _ blk off _ _ (i + (d.size - j)) (by rw [Go.Lib.lay_size]; simp; omega), ← X.out, List.map_replicate, show d.size - (i + (d.size - j)) = j - i by omega]


/-! ### impl_perm: function 48 -/
/-- What the rounds of perm make: the rest of the number, the four cells of 'left', the images. -/
def pSt (n : Nat) : Nat → Int × List Int × List Int
  | 0 => ((n : Int), [0, 1, 2, 3], [0, 0, 0, 0])
  | i + 1 =>
    let s := pSt n i
    let b : Int := rd [6, 2, 1, 1] i
    let k := s.1.tdiv b
    (s.1.tmod b, ((s.2.1.take (4 - i)).take k.toNat ++ (s.2.1.take (4 - i)).drop (k.toNat + 1) ++ List.replicate (k.toNat + 1 - k.toNat) (0 : Int)) ++ s.2.1.drop (4 - i), s.2.2.set i (rd s.2.1 k))
def permL (n : Nat) : List Int := (pSt n 4).2.2
theorem pSt_ok : ∀ n, n < 24 → ∀ i, i < 4 → (0 ≤ (pSt n i).1 ∧ (pSt n i).1 < 24) ∧ (0 ≤ (pSt n i).1.tdiv (rd [6, 2, 1, 1] i) ∧ (pSt n i).1.tdiv (rd [6, 2, 1, 1] i) < 4 - i) ∧ (pSt n i).2.1.length = 4 ∧ (pSt n i).2.2.length = 4 := by decide +kernel
theorem permL_ok : ∀ n, n < 24 → (permL n).length = 4 ∧ (∀ x ∈ permL n, 0 ≤ x ∧ x < 4) := by decide +kernel
theorem holds_blk {w : World} {g t : Nat} {L : List Int} (h : w.heap[g]? = some (.cells (nums .i64 L).toArray t (0, 0))) (n : Nat) : Go.Sort.Holds (Value.int .i64) w g 0 (L.take n).toArray := by
  intro j hj
  have hj' : j < (L.take n).length := by simpa using hj
  refine ⟨?_, by rw [Nat.zero_add]; exact blk_frozen h j⟩
  rw [Nat.zero_add, blk_cell h j]
  have h1 : (L.take n).toArray[j]! = (L.take n)[j]'hj' := by rw [getElem!_pos _ j hj]; simp
  rw [h1]
  simp [nums] at hj' ⊢
theorem put_blk {w : World} {g t : Nat} {L : List Int} (h : w.heap[g]? = some (.cells (nums .i64 L).toArray t (0, 0))) (q : Nat) (M : List Int) (hM : M.length ≤ L.length) : (Go.Sort.putRow (Value.int .i64) (Go.Sort.ahead w q) g 0 M.toArray).heap[g]? = some (.cells (nums .i64 (M ++ L.drop M.length)).toArray t (0, 0)) := by
  show (w.heap.modify g _)[g]? = _
  rw [Array.getElem?_modify, if_pos rfl, h]
  simp only [Option.map_some, Go.Sort.onCells]
  congr 2
  apply Array.ext_getElem?
  intro k
  simp only [Go.Sort.putCells, Array.getElem?_mapIdx, List.getElem?_toArray, nums, List.getElem?_map, Nat.zero_le, true_and, Nat.zero_add, Nat.sub_zero, List.size_toArray]
  by_cases hk : k < M.length
  · rw [List.getElem?_append_left hk, List.getElem?_eq_getElem hk, List.getElem?_eq_getElem (show k < L.length by omega)]
    simp [hk]
  · rw [List.getElem?_append_right (by omega), List.getElem?_drop, show M.length + (k - M.length) = k by omega]
    cases hL : L[k]? with
    | none => rfl
    | some y => simp [hk]
theorem put_far {w : World} {g k : Nat} (q : Nat) (M : Array Int) (hk : k ≠ g) : (Go.Sort.putRow (Value.int .i64) (Go.Sort.ahead w q) g 0 M).heap[k]? = w.heap[k]? := by
  show (w.heap.modify g _)[k]? = _
  rw [Array.getElem?_modify, if_neg (Ne.symm hk)]
theorem put_below {B : Nat} {v w : World} (h : Below B v w) {g : Nat} (hg : B ≤ g) (q : Nat) (M : Array Int) : Below B v (Go.Sort.putRow (Value.int .i64) (Go.Sort.ahead w q) g 0 M) :=
  ⟨h.os, h.tape, h.output, by show _ ≤ (w.heap.modify g _).size; rw [Array.size_modify]; exact h.size, fun k hk => (put_far q M (by omega)).trans (h.block k hk)⟩

theorem nums_at (L : List Int) (i : Nat) (h : i < L.length) : (nums .i64 L).toArray[i]? = some (.int .i64 (rd L i)) := by
  simp [nums, rd, List.getD, List.getElem?_eq_getElem h]
theorem nums_set (L : List Int) (i : Nat) (x : Int) : (nums .i64 L).toArray.setIfInBounds i (.int .i64 x) = (nums .i64 (L.set i x)).toArray := by
  simp [nums, List.map_set]
theorem del_blk (g t : Nat) (L : List Int) (m k : Nat) (W : World) (h : W.heap[g]? = some (.cells (nums .i64 L).toArray t (0, 0))) (hL : L.length = 4) (hm : m ≤ 4) (hk : k < m) :
    Calls Try.prog 69 #[.slice (some ⟨g, 0, none⟩) m 4, .int .i64 k, .int .i64 ((k + 1 : Nat) : Int)] W fun e w' => e = .returned (.slice (some ⟨g, 0, none⟩) (m - 1) 4) ∧ w'.heap[g]? = some (.cells (nums .i64 ((L.take m).take k ++ (L.take m).drop (k + 1) ++ List.replicate (k + 1 - k) (0 : Int) ++ L.drop m)).toArray t (0, 0)) ∧ (∀ B v, B ≤ g → Below B v W → Below B v w') ∧ (∀ q, q ≠ g → w'.heap[q]? = W.heap[q]?) := by
  have hs : (L.take m).toArray.size = m := by simp; omega
  have hc := deleteInts g 0 4 k (L.take m).toArray W (holds_blk h m) (by rw [hs]; exact hm) (by decide) (by rw [hs]; exact hk)
  rw [hs] at hc
  refine hc.mono ?_
  rintro e w' ⟨rfl, q, rfl⟩
  have hl : ((L.take m).toArray.toList.take k ++ (L.take m).toArray.toList.drop (k + 1) ++ List.replicate (k + 1 - k) (0 : Int)).length = m := by
    simp
    omega
  refine ⟨rfl, ?_, fun B v hB hw => put_below hw hB q _, fun j hj => put_far q _ hj⟩
  have hp := put_blk h q _ (by rw [hl, hL]; exact hm)
  rw [hl] at hp
  exact hp
def impl_perm.f (a0 : Int) : Option (List Int) := if 0 ≤ a0 ∧ a0 < 24 then some (permL a0.toNat) else none
theorem results_arr {P : Program} {fn : Func} {p : Tmp} {ty : TypeId} (h : fn.results = #[.cell p ty]) (tmps : Array Value) (w : World) (g : Nat) (t : TypeId) (cs : Array Value) (fr : Nat × Nat) (d : TypeDesc)
    (hp : tmps.getD p undef = .pointer (some ⟨g, 0, none⟩)) (hg : w.heap[g]? = some (.cells cs t fr))
    (hu : P.underlying ty = some d) (hd : (match d with | .struct _ | .array _ _ => true | _ => false) = true) (hi : (P.info? ty).map (·.size) = some cs.size) :
    (results fn tmps).run P w = .ok (.agg cs) w := by
  have hp' : tmps[p]?.getD undef = .pointer (some ⟨g, 0, none⟩) := by simpa using hp
  simp [results, h, hp', asAddr, run_loadVar_row w g t ty cs fr d hg hu hd hi]
theorem run_index4 (cs : Array Value) (m : Nat) (x : Value) (hx : cs[m]? = some x) (hm : m < 4) (w : World) : (Instr.index 45 (.agg cs) (.int .i64 (m : Int))).run Try.prog w = .ok x w := by
  have hi : (m : Int) < 4 := by omega
  simp [Instr.index, asIntOf, part, Try.isAgg2, Try.sizeOf2, Try.underlying45, run_underlying, hx, hi, go_sem]
  exact fun h => absurd h (by omega)
theorem run_slice4 (g i : Nat) (hi : i ≤ 4) (W : World) : (Instr.sliceAt 45 (.pointer (some ⟨g, 0, none⟩)) none (some (.int .i64 (i : Int))) none).run Try.prog W = .ok (.slice (some ⟨g, 0, none⟩) i 4) W := by
  have hal : Try.prog.arrayLen 45 = 4 := by simp [Program.arrayLen, Try.underlying45]
  rw [run_sliceAt_array_h W 45 ⟨g, 0, none⟩ (by simp [Program.arrayLen, Program.elem, Try.underlying45]) .i64 (i : Int) (by omega) (by rw [hal]; omega)]
  simp only [hal]
  go_simp
theorem heap_allocs (w : World) (o0 o1 o2 o3 : Obj) (W : World) (hW : W = (((w.alloc o0).alloc o1).alloc o2).alloc o3) : Below w.heap.size w W ∧ W.heap[w.heap.size]? = some o0 ∧ W.heap[w.heap.size + 1]? = some o1 ∧ W.heap[w.heap.size + 1 + 1]? = some o2 ∧ W.heap[w.heap.size + 1 + 1 + 1]? = some o3 := by
  subst hW
  have s1 : ∀ (v : World) (o : Obj), (v.alloc o).heap.size = v.heap.size + 1 := fun v o => by show (v.heap.push o).size = _; simp
  have n1 : ∀ (v : World) (o : Obj) (k : Nat), k = v.heap.size → (v.alloc o).heap[k]? = some o := fun v o k hk => by rw [hk]; exact heap_alloc_new v o
  refine ⟨Below.alloc (Below.alloc (Below.alloc (Below.alloc (Below.refl _ _) (Nat.le_refl _) _) (by rw [s1]; omega) _) (by rw [s1, s1]; omega) _) (by rw [s1, s1, s1]; omega) _, ?_, ?_, ?_, ?_⟩
  · rw [Below.heap_alloc _ _ _ (by rw [s1, s1, s1]; omega), Below.heap_alloc _ _ _ (by rw [s1, s1]; omega), Below.heap_alloc _ _ _ (by rw [s1]; omega)]
    exact n1 _ _ _ rfl
  · rw [Below.heap_alloc _ _ _ (by rw [s1, s1, s1]; omega), Below.heap_alloc _ _ _ (by rw [s1, s1]; omega)]
    exact n1 _ _ _ (by rw [s1])
  · rw [Below.heap_alloc _ _ _ (by rw [s1, s1, s1]; omega)]
    exact n1 _ _ _ (by rw [s1, s1])
  · exact n1 _ _ _ (by rw [s1, s1, s1])
structure PermW (n i : Nat) (w wr : World) : Prop where
  b : Below w.heap.size w wr
  h0 : wr.heap[w.heap.size]? = some (.cells (nums .i64 [0, 0, 0, 0]).toArray 45 (0, 0))
  h1 : wr.heap[w.heap.size + 1]? = some (.cells (nums .i64 (pSt n i).2.2).toArray 45 (0, 0))
  h2 : wr.heap[w.heap.size + 1 + 1]? = some (.cells (nums .i64 (pSt n i).2.1).toArray 2 (0, 0))
  h3 : wr.heap[w.heap.size + 1 + 1 + 1]? = some (.cells (nums .i64 [6, 2, 1, 1]).toArray 2 (0, 0))
set_option maxHeartbeats 8000000 in
set_option maxRecDepth 100000 in
theorem impl_perm.calls (a0 : Int) (r : List Int) (w : World) (h : impl_perm.f a0 = some r) :
    Calls Try.prog 48 #[.int .i64 a0] w fun e w' => e = .returned (.agg (nums .i64 r).toArray) ∧ Below w.heap.size w w' := by
  unfold impl_perm.f at h
  by_cases hc : 0 ≤ a0 ∧ a0 < 24
  case neg => rw [if_neg hc] at h; exact absurd h (by simp)
  rw [if_pos hc] at h
  obtain rfl := Option.some.inj h
  obtain ⟨n, rfl⟩ : ∃ n : Nat, a0 = n := ⟨a0.toNat, by omega⟩
  have hn : n < 24 := by omega
  rw [Int.toNat_natCast]
  clear hc h
  have HN := Aside0.mk hn
  clear hn
  go_enter Try.func48, Try.ntmps48
  go_wp2
  go_loopg [0, 4, 11] 4 (fun gg s0 s4 s11 wr => ∃ i : Nat, gg + i = 4 ∧ s0 = .int .i64 (pSt n i).1 ∧ s4 = .slice (some ⟨w.heap.size + 1 + 1, 0, none⟩) (4 - i) 4 ∧ s11 = .int .i64 i ∧ Aside0 (PermW n i w wr))
  case atStart =>
    obtain ⟨hb, h0, h1, h2, h3⟩ := heap_allocs w _ _ _ _ _ rfl
    exact ⟨0, rfl, rfl, rfl, rfl, ⟨hb, h0, h1, h2, h3⟩⟩
  case round =>
    obtain ⟨i, hi, rfl, rfl, rfl, HW⟩ := hrel
    by_cases h4 : i = 4
    · subst h4
      have hp4 : ∀ j, j < 4 → wr.cell? ⟨w.heap.size + 1, j, none⟩ = some (.int .i64 (rd (permL n) j)) := fun j hj => by
        rw [blk_cell HW.out.h1 j]
        exact nums_at _ j (by have := (permL_ok n HN.out).1; unfold permL at this; omega)
      have a0 := hp4 0 (by decide)
      have a1 := hp4 1 (by decide)
      have a2 := hp4 2 (by decide)
      have a3 := hp4 3 (by decide)
      clear hp4
      have z0 : wr.cell? ⟨w.heap.size, 0, none⟩ = some (.int .i64 0) := (blk_cell HW.out.h0 0).trans rfl
      have z1 : wr.cell? ⟨w.heap.size, 1, none⟩ = some (.int .i64 0) := (blk_cell HW.out.h0 1).trans rfl
      have z2 : wr.cell? ⟨w.heap.size, 2, none⟩ = some (.int .i64 0) := (blk_cell HW.out.h0 2).trans rfl
      have z3 : wr.cell? ⟨w.heap.size, 3, none⟩ = some (.int .i64 0) := (blk_cell HW.out.h0 3).trans rfl
      have f0 := blk_frozen HW.out.h0 0
      have f1 := blk_frozen HW.out.h0 1
      have f2 := blk_frozen HW.out.h0 2
      have f3 := blk_frozen HW.out.h0 3
      go_wp2
      have hblk := blk_set (blk_set (blk_set (blk_set HW.out.h0 0 (.int .i64 (rd (permL n) 0))) 1 (.int .i64 (rd (permL n) 1))) 2 (.int .i64 (rd (permL n) 2))) 3 (.int .i64 (rd (permL n) 3))
      have hbel := (((HW.out.b.setCell (p := ⟨w.heap.size, 0, none⟩) (Nat.le_refl _) (.int .i64 (rd (permL n) 0))).setCell (p := ⟨w.heap.size, 1, none⟩) (Nat.le_refl _) (.int .i64 (rd (permL n) 1))).setCell (p := ⟨w.heap.size, 2, none⟩) (Nat.le_refl _) (.int .i64 (rd (permL n) 2))).setCell (p := ⟨w.heap.size, 3, none⟩) (Nat.le_refl _) (.int .i64 (rd (permL n) 3))
      refine bodyPost_ret (results_arr (p := 2) (ty := 45) rfl _ _ w.heap.size _ _ _ _ rfl hblk Try.underlying45 rfl (by kernel_rfl)) rfl ⟨?_, hbel⟩
      have hl := (permL_ok n HN.out).1
      generalize permL n = q at hl ⊢
      match q, hl with
      | [x0, x1, x2, x3], _ => rfl
    · have hd : decide ((i : Int) < 4) = true := decide_eq_true (by omega)
      have hi4 : i < 4 := by omega
      have hi4t : ((i : Int) < 4) = True := eq_true (by omega)
      obtain ⟨⟨p0, p1⟩, ⟨k0, k1⟩, hL, hO⟩ := pSt_ok n HN.out i hi4
      have hSt : pSt n (i + 1) = ((pSt n i).1.tmod (rd [6, 2, 1, 1] i), (((pSt n i).2.1.take (4 - i)).take ((pSt n i).1.tdiv (rd [6, 2, 1, 1] i)).toNat ++ ((pSt n i).2.1.take (4 - i)).drop (((pSt n i).1.tdiv (rd [6, 2, 1, 1] i)).toNat + 1) ++ List.replicate (((pSt n i).1.tdiv (rd [6, 2, 1, 1] i)).toNat + 1 - ((pSt n i).1.tdiv (rd [6, 2, 1, 1] i)).toNat) (0 : Int)) ++ (pSt n i).2.1.drop (4 - i), (pSt n i).2.2.set i (rd (pSt n i).2.1 ((pSt n i).1.tdiv (rd [6, 2, 1, 1] i)))) := rfl
      have hb : rd [6, 2, 1, 1] (i : Int) = 6 ∨ rd [6, 2, 1, 1] (i : Int) = 2 ∨ rd [6, 2, 1, 1] (i : Int) = 1 := (by decide : ∀ i < 4, rd [6, 2, 1, 1] ((i : Nat) : Int) = 6 ∨ rd [6, 2, 1, 1] ((i : Nat) : Int) = 2 ∨ rd [6, 2, 1, 1] ((i : Nat) : Int) = 1) i hi4
      have hcb : wr.cell? ⟨w.heap.size + 1 + 1 + 1, i, none⟩ = some (.int .i64 (rd [6, 2, 1, 1] i)) := by rw [blk_cell HW.out.h3 i]; exact nums_at _ i hi4
      have HS := Aside0.mk hSt
      clear hSt
      have h1_ := HW.out.h1
      have h2_ := HW.out.h2
      generalize rd [6, 2, 1, 1] (i : Int) = b at *
      generalize (pSt n i).1 = p at *
      generalize (pSt n i).2.1 = L at *
      generalize (pSt n i).2.2 = O at *
      obtain ⟨k, hk⟩ : ∃ k : Nat, p.tdiv b = k := ⟨(p.tdiv b).toNat, by omega⟩
      rw [hk] at k0 k1 HS
      rw [Int.toNat_natCast] at HS
      have kL : k < 4 - i := by omega
      have q1 : (k < 4 - i) = True := eq_true kL
      have hcl : wr.cell? ⟨w.heap.size + 1 + 1, k, none⟩ = some (.int .i64 (rd L k)) := by rw [blk_cell h2_ k]; exact nums_at L k (by omega)
      have hco : wr.cell? ⟨w.heap.size + 1, i, none⟩ = some (.int .i64 (rd O i)) := by rw [blk_cell h1_ i]; exact nums_at O i (by omega)
      have hfo := blk_frozen h1_ i
      have w1 : IntKind.i64.wrap (p.tdiv b) = (k : Int) := by rw [hk, i64_w]; unfold wrap64; omega
      have w2 : IntKind.i64.wrap ((k : Int) + 1) = ((k + 1 : Nat) : Int) := by rw [i64_w]; unfold wrap64; omega
      have w3 : IntKind.i64.wrap ((i : Int) + 1) = ((i + 1 : Nat) : Int) := by rw [i64_w]; unfold wrap64; omega
      have b0 : (b = 0) = False := eq_false (by omega)
      have HO := Aside0.mk hO
      have HL := Aside0.mk hL
      have HK := Aside0.mk kL
      have H1 := Aside0.mk h1_
      have H2 := Aside0.mk h2_
      have HI := Aside0.mk hi
      have HK4 := Aside0.mk hi4
      clear hO hL kL h1_ h2_ hi hi4 h4 hk k0 k1 p0 p1 hb
      go_wp2_with (go_at_call 69; refine (del_blk (w.heap.size + 1 + 1) _ L (4 - i) k _ ((Below.heap_setCell wr _ _ _ (by show w.heap.size + 1 + 1 ≠ w.heap.size + 1; omega)).trans H2.out) HL.out (Nat.sub_le _ _) HK.out).mono ?_; rintro e w5 ⟨rfl, h2', hbel', hfar'⟩)
      go_roundg (gk - 1)
      case measure => have := HI.out; have := HK4.out; omega
      case rel =>
        have hi_ := HI.out
        have hk_ := HK4.out
        refine ⟨i + 1, by omega, by rw [HS.out], by rw [show 4 - i - 1 = 4 - (i + 1) by omega], rfl, ⟨?_, ?_, ?_, ?_, ?_⟩⟩
        · exact hbel' _ _ (by omega) (HW.out.b.setCell (by show w.heap.size ≤ w.heap.size + 1; omega) _)
        · exact (hfar' _ (by omega)).trans ((Below.heap_setCell wr _ _ _ (by show w.heap.size ≠ w.heap.size + 1; omega)).trans HW.out.h0)
        · rw [HS.out]
          exact ((hfar' _ (by omega)).trans (blk_set H1.out i _)).trans (by rw [nums_set])
        · rw [HS.out]
          exact h2'
        · exact (hfar' _ (by omega)).trans ((Below.heap_setCell wr _ _ _ (by show w.heap.size + 1 + 1 + 1 ≠ w.heap.size + 1; omega)).trans HW.out.h3)


/-! ### impl_ApplyPerm4: function 16 -/
theorem isPerm_f (a : Int) : impl_isPerm.f a = some (decide (0 ≤ a ∧ a < 24)) := by
  unfold impl_isPerm.f impl_inRange.f
  by_cases h : 0 ≤ a
  · rw [if_pos h]
    simp only [Option.bind_some]
    congr 1
    exact decide_eq_decide.2 ⟨fun h1 => ⟨h, by omega⟩, fun h1 => by omega⟩
  · rw [if_neg h]
    simp only [Option.bind_some]
    congr 1
    exact (decide_eq_false fun h1 => h h1.1).symm
theorem isVertex_f (a : Int) : impl_isVertex.f a = some (decide (0 ≤ a ∧ a < 4)) := by
  unfold impl_isVertex.f impl_inRange.f
  by_cases h : 0 ≤ a
  · rw [if_pos h]
    simp only [Option.bind_some]
    congr 1
    exact decide_eq_decide.2 ⟨fun h1 => ⟨h, by omega⟩, fun h1 => by omega⟩
  · rw [if_neg h]
    simp only [Option.bind_some]
    congr 1
    exact (decide_eq_false fun h1 => h h1.1).symm
def impl_ApplyPerm4.f (a0 a1 : Int) : Option Int := if 0 ≤ a0 ∧ a0 < 24 then (if 0 ≤ a1 ∧ a1 < 4 then some (rd (permL a0.toNat) a1) else some (-1)) else some (-1)
set_option maxHeartbeats 8000000 in
set_option maxRecDepth 100000 in
theorem impl_ApplyPerm4.calls (a0 a1 : Int) (r : Int) (w : World) (h : impl_ApplyPerm4.f a0 a1 = some r) :
    Calls Try.prog 16 #[.int .i64 a0, .int .i64 a1] w fun e w' => e = .returned (.int .i64 r) ∧ Below w.heap.size w w' := by
  unfold impl_ApplyPerm4.f at h
  by_cases hp : 0 ≤ a0 ∧ a0 < 24
  · rw [if_pos hp] at h
    have CP := Aside0.mk (fun W => impl_isPerm.calls a0 true W (by rw [isPerm_f, decide_eq_true hp]))
    have CF := Aside0.mk (fun W => impl_perm.calls a0 (permL a0.toNat) W (by unfold impl_perm.f; rw [if_pos hp]))
    by_cases hk : 0 ≤ a1 ∧ a1 < 4
    · rw [if_pos hk] at h
      obtain rfl := Option.some.inj h
      have CV := Aside0.mk (fun W => impl_isVertex.calls a1 true W (by rw [isVertex_f, decide_eq_true hk]))
      have hl := (permL_ok a0.toNat (by omega)).1
      obtain ⟨m, rfl⟩ : ∃ m : Nat, a1 = m := ⟨a1.toNat, by omega⟩
      have hm : m < 4 := by omega
      generalize permL a0.toNat = q at hl CF ⊢
      have hx := nums_at q m (by omega)
      have hs : (nums .i64 q).toArray.size = 4 := by simp [nums, hl]
      generalize (nums .i64 q).toArray = aq at hx hs CF
      clear h hp hk hl
      have hri := run_index4 aq m _ hx hm
      go_enter Try.func16, Try.ntmps16
      go_wp2_with (first
        | (go_at_call 46; refine (CP.out _).mono ?_; rintro e w1 ⟨rfl, ⟨n1, rfl⟩⟩)
        | (go_at_call 47; refine (CV.out _).mono ?_; rintro e w2 ⟨rfl, ⟨n2, rfl⟩⟩)
        | (go_at_call 48; refine (CF.out _).mono ?_; rintro e w3 ⟨rfl, hb3⟩))
      go_ret
      exact ⟨rfl, below_then (pw_below_drewN (Below.refl _ _) (n1 + n2)) (Nat.le_refl _) hb3⟩
    · rw [if_neg hk] at h
      obtain rfl := Option.some.inj h
      have CV := Aside0.mk (fun W => impl_isVertex.calls a1 false W (by rw [isVertex_f, decide_eq_false hk]))
      clear h hp hk CF
      go_enter Try.func16, Try.ntmps16
      go_wp2_with (first
        | (go_at_call 46; refine (CP.out _).mono ?_; rintro e w1 ⟨rfl, ⟨n1, rfl⟩⟩)
        | (go_at_call 47; refine (CV.out _).mono ?_; rintro e w2 ⟨rfl, ⟨n2, rfl⟩⟩))
      go_ret
      exact ⟨rfl, pw_below_drewN (Below.refl _ _) (n1 + n2)⟩
  · rw [if_neg hp] at h
    obtain rfl := Option.some.inj h
    have CP := Aside0.mk (fun W => impl_isPerm.calls a0 false W (by rw [isPerm_f, decide_eq_false hp]))
    clear h hp
    go_enter Try.func16, Try.ntmps16
    go_wp2_with (go_at_call 46; refine (CP.out _).mono ?_; rintro e w1 ⟨rfl, ⟨n1, rfl⟩⟩)
    go_ret
    exact ⟨rfl, pw_below_drewN (Below.refl _ _) n1⟩


/-! ### impl_signOf: function 50 -/
/-- The sign, the numbers ahead of one image looked at up to j. -/
def sgIn (q : List Int) (x : Int) (o : Int) : Nat → Int
  | 0 => o
  | j + 1 => if rd q j > x then wrap64 (-(sgIn q x o j)) else sgIn q x o j
def sgOut (q : List Int) : Nat → Int
  | 0 => 1
  | i + 1 => sgIn q (rd q i) (sgOut q i) i
def impl_signOf.f (a0 : Int) : Option Int := if 0 ≤ a0 ∧ a0 < 24 then some (sgOut (permL a0.toNat) 4) else none
theorem perm_lit (a0 : Int) (ha : 0 ≤ a0 ∧ a0 < 24) : ∃ x0 x1 x2 x3, permL a0.toNat = [x0, x1, x2, x3] ∧ ∀ W, Calls Try.prog 48 #[.int .i64 a0] W fun e w' => e = .returned (.agg #[.int .i64 x0, .int .i64 x1, .int .i64 x2, .int .i64 x3]) ∧ Below W.heap.size W w' := by
  have hl := (permL_ok a0.toNat (by omega)).1
  have hc := fun W => impl_perm.calls a0 (permL a0.toNat) W (by unfold impl_perm.f; rw [if_pos ha])
  generalize permL a0.toNat = q at hl hc ⊢
  match q, hl with
  | [x0, x1, x2, x3], _ => exact ⟨x0, x1, x2, x3, rfl, hc⟩
theorem HB3_of (w w3 : World) (hb : Below w.heap.size w w3) (cs : Array Value) (t : Nat) : Below w.heap.size w (w3.alloc (.cells cs t (0, 0))) ∧ (w3.alloc (.cells cs t (0, 0))).heap[w3.heap.size]? = some (.cells cs t (0, 0)) := ⟨below_alloc hb _, heap_alloc_new w3 _⟩
set_option maxHeartbeats 8000000 in
set_option maxRecDepth 100000 in
theorem impl_signOf.calls (a0 : Int) (r : Int) (w : World) (h : impl_signOf.f a0 = some r) :
    Calls Try.prog 50 #[.int .i64 a0] w fun e w' => e = .returned (.int .i64 r) ∧ Below w.heap.size w w' := by
  unfold impl_signOf.f at h
  by_cases hp : 0 ≤ a0 ∧ a0 < 24
  case neg => rw [if_neg hp] at h; exact absurd h (by simp)
  rw [if_pos hp] at h
  obtain rfl := Option.some.inj h
  obtain ⟨x0, x1, x2, x3, hq, hc⟩ := perm_lit a0 hp
  have CF := Aside0.mk hc
  obtain ⟨q, hq'⟩ : ∃ q, q = permL a0.toNat := ⟨_, rfl⟩
  rw [← hq'] at hq ⊢
  have HQ := Aside0.mk hq
  clear h hp hc hq hq'
  go_enter Try.func50, Try.ntmps50
  go_wp2_with (go_at_call 48; refine (CF.out _).mono ?_; rintro e w3 ⟨rfl, hb3⟩)
  have hb3' := HB3_of w w3 hb3 #[.int .i64 x0, .int .i64 x1, .int .i64 x2, .int .i64 x3] 45
  obtain ⟨W, hW⟩ : ∃ W, W = w3.alloc (Obj.cells #[.int .i64 x0, .int .i64 x1, .int .i64 x2, .int .i64 x3] 45) := ⟨_, rfl⟩
  have HB := Aside0.mk hb3'.1
  have hblk : W.heap[w3.heap.size]? = some (.cells (nums .i64 q).toArray 45 (0, 0)) := by rw [hW, HQ.out]; exact hb3'.2
  rw [← hW] at HB ⊢
  have hat : ∀ j, j < 4 → W.cell? ⟨w3.heap.size, j, none⟩ = some (.int .i64 (rd q j)) := fun j hj => by
    rw [blk_cell hblk j]
    exact nums_at _ j (by rw [HQ.out]; exact hj)
  have HA := Aside0.mk hat
  have hix : ∀ i, i < 4 → ∀ w, (Instr.index 45 (.agg #[.int .i64 x0, .int .i64 x1, .int .i64 x2, .int .i64 x3]) (.int .i64 ((i : Nat) : Int))).run Try.prog w = .ok (.int .i64 (rd q i)) w := fun i hi w =>
    run_index4 _ i _ (by have := nums_at q i (by rw [HQ.out]; exact hi); rw [HQ.out] at this ⊢; exact this) hi w
  have HX := Aside0.mk hix
  clear hb3 hb3' hW hblk hat hix CF
  go_loopg [4, 12] 4 (fun gg s4 s12 wr => ∃ i : Nat, gg + i = 4 ∧ s4 = .int .i64 (sgOut q i) ∧ s12 = .int .i64 i ∧ wr = W)
  case atStart => exact ⟨0, rfl, rfl, rfl, rfl⟩
  case round =>
    obtain ⟨i, hi, rfl, rfl, rfl⟩ := hrel
    obtain ⟨g0, hg0⟩ : ∃ g0, g0 = gk := ⟨_, rfl⟩
    subst hg0
    by_cases h4 : i = 4
    · subst h4
      go_wp2
      go_ret
      exact ⟨rfl, HB.out⟩
    · have hi4 : i < 4 := by omega
      have hd : decide ((i : Int) < 4) = true := decide_eq_true (by omega)
      have hi4t : ((i : Int) < 4) = True := eq_true (by omega)
      have hi4n : (i ≤ 4) = True := eq_true (by omega)
      have hxi := HX.out i hi4
      have w3_ : IntKind.i64.wrap ((i : Int) + 1) = ((i + 1 : Nat) : Int) := by rw [i64_w]; unfold wrap64; omega
      have HI := Aside0.mk hi
      have HI4 := Aside0.mk hi4
      have hsl := run_slice4 w3.heap.size i (Nat.le_of_lt hi4)
      clear hi h4 hi4
      go_wp2
      go_loopg [4, 19] i (fun g2 s4 s19 wr2 => ∃ j : Nat, g2 + j = i ∧ s4 = .int .i64 (sgIn q (rd q i) (sgOut q i) j) ∧ s19 = .int .i64 j ∧ wr2 = wr)
      case atStart => exact ⟨0, rfl, rfl, rfl, rfl⟩
      case round =>
        obtain ⟨j, hj, rfl, rfl, rfl⟩ := hrel
        by_cases hji : j = i
        · subst hji
          go_wp2
          go_roundg (g0 - 1)
          case measure => have := HI.out; have := HI4.out; omega
          case rel => exact ⟨j + 1, by have := HI.out; have := HI4.out; omega, rfl, rfl, rfl⟩
        · have hji2 : j < i := by omega
          have hdj : decide ((j : Int) < (i : Int)) = true := decide_eq_true (by omega)
          have hjt : ((j : Int) < (i : Int)) = True := eq_true (by omega)
          have hjn : (j < i) = True := eq_true hji2
          have hcj := HA.out j (by have := HI4.out; omega)
          have w4_ : IntKind.i64.wrap ((j : Int) + 1) = ((j + 1 : Nat) : Int) := by rw [i64_w]; have := HI4.out; unfold wrap64; omega
          by_cases hgt : rd q j > rd q i
          · have hgd : decide (rd q (j : Int) > rd q (i : Int)) = true := decide_eq_true hgt
            have HJ := Aside0.mk hj
            have HJI := Aside0.mk hji2
            have hs : sgIn q (rd q i) (sgOut q i) (j + 1) = wrap64 (-(sgIn q (rd q i) (sgOut q i) j)) := if_pos hgt
            have HS := Aside0.mk hs
            clear hj hji hji2 hgt hs
            go_wp2
            go_roundg (gk - 1)
            case measure => have := HJ.out; have := HJI.out; omega
            case rel => exact ⟨j + 1, by have := HJ.out; have := HJI.out; omega, by rw [HS.out], rfl, rfl⟩
          · have hgd : decide (rd q (j : Int) > rd q (i : Int)) = false := decide_eq_false hgt
            have HJ := Aside0.mk hj
            have HJI := Aside0.mk hji2
            have hs : sgIn q (rd q i) (sgOut q i) (j + 1) = sgIn q (rd q i) (sgOut q i) j := if_neg hgt
            have HS := Aside0.mk hs
            clear hj hji hji2 hgt hs
            go_wp2
            go_roundg (gk - 1)
            case measure => have := HJ.out; have := HJI.out; omega
            case rel => exact ⟨j + 1, by have := HJ.out; have := HJI.out; omega, by rw [HS.out], rfl, rfl⟩


/-! ### impl_SignPerm4: function 18 -/
def impl_SignPerm4.f (a0 : Int) : Option (Int) := (impl_isPerm.f a0).bind fun t103 => (if t103 = true then ((impl_signOf.f a0).bind fun t104 => (some t104)) else (some 0))
set_option maxHeartbeats 8000000 in
set_option maxRecDepth 100000 in
theorem impl_SignPerm4.calls (a0 : Int) (r : Int) (w : World) (h : impl_SignPerm4.f a0 = some r) :
    Calls Try.prog 18 #[.int .i64 a0] w fun e w' => e = .returned (.int .i64 r) ∧ Below w.heap.size w w' := by
  have HB := Aside0.mk (Below.refl w.heap.size w)
  have H : ((impl_isPerm.f a0).bind fun t103 => (if t103 = true then ((impl_signOf.f a0).bind fun t104 => (some t104)) else (some 0))) = some r := h
  clear h
  replace H := Option.bind_eq_some_iff.mp H
  obtain ⟨t103, A20, H⟩ := H
  replace H : (if t103 = true then ((impl_signOf.f a0).bind fun t104 => (some t104)) else (some 0)) = some r := H
  have A2 := Aside0.mk A20
  clear A20
  by_cases c3 : t103 = true
  · subst c3
    have H1 : ((impl_signOf.f a0).bind fun t104 => (some t104)) = some r := by rw [if_pos rfl] at H; exact H
    clear H
    have H := H1
    clear H1
    replace H := Option.bind_eq_some_iff.mp H
    obtain ⟨t104, A40, H⟩ := H
    replace H : (some t104) = some r := H
    have A4 := Aside0.mk A40
    clear A40
    obtain rfl := Option.some.inj H
    go_enter Try.func18, Try.ntmps18
    go_wp2_with (first | ((with_reducible refine gate_callee (f := 46) rfl ?_); refine goesL_ (some 4) rfl rfl Try.func46 (by kernel_rfl) rfl #[.int .i64 a0] rfl (by (try simp only [List.map_toArray, List.map_cons, List.map_nil]); first | done | rfl | (simp only [List.length_drop, List.length_take]; rfl)) ?_; (with_reducible refine (impl_isPerm.calls a0 true _ A2.out).mono ?_); rintro e w' ⟨rfl, ⟨nd, rfl⟩⟩; refine ⟨_, rfl, ?_⟩) | ((with_reducible refine gate_callee (f := 50) rfl ?_); refine goesL_ (some 7) rfl rfl Try.func50 (by kernel_rfl) rfl #[.int .i64 a0] rfl (by (try simp only [List.map_toArray, List.map_cons, List.map_nil]); first | done | rfl | (simp only [List.length_drop, List.length_take]; rfl)) ?_; (with_reducible refine (impl_signOf.calls a0 t104 _ A4.out).mono ?_); rintro e w5 ⟨rfl, hb⟩; refine ⟨_, rfl, ?_⟩; have n0_ := Aside0.mk (below_step (by repeat (first | (with_reducible first | exact HB.out | apply below_alloc | apply pw_below_drewN | apply below_drew1) | exact HB.out)) hb); clear HB; have HB := n0_; clear n0_; (try clear hb); (try clear hb2); (try clear hk); (try clear hi)))
    go_ret
    exact ⟨by first | rfl | (simp [errW_none, errW_some] <;> rfl) | (simp [*, errW_none, errW_some] <;> rfl), by repeat (first | (with_reducible first | exact HB.out | apply below_alloc | apply pw_below_drewN | apply below_drew1) | exact HB.out)⟩
  · replace c3 := Bool.eq_false_iff.mpr c3
    subst c3
    have H1 : (some 0) = some r := by rw [if_neg (show ¬ (false = true) by decide)] at H; exact H
    clear H
    have H := H1
    clear H1
    obtain rfl := Option.some.inj H
    go_enter Try.func18, Try.ntmps18
    go_wp2_with (first | ((with_reducible refine gate_callee (f := 46) rfl ?_); refine goesL_ (some 4) rfl rfl Try.func46 (by kernel_rfl) rfl #[.int .i64 a0] rfl (by (try simp only [List.map_toArray, List.map_cons, List.map_nil]); first | done | rfl | (simp only [List.length_drop, List.length_take]; rfl)) ?_; (with_reducible refine (impl_isPerm.calls a0 false _ A2.out).mono ?_); rintro e w' ⟨rfl, ⟨nd, rfl⟩⟩; refine ⟨_, rfl, ?_⟩))
    go_ret
    exact ⟨by first | rfl | (simp [errW_none, errW_some] <;> rfl) | (simp [*, errW_none, errW_some] <;> rfl), by repeat (first | (with_reducible first | exact HB.out | apply below_alloc | apply pw_below_drewN | apply below_drew1) | exact HB.out)⟩

/-! ### impl_Perm4: function 20 -/
theorem p4_isPerm (a : Int) : impl_isPerm.f a = some (decide (0 ≤ a ∧ a < 24)) := by
  unfold impl_isPerm.f impl_inRange.f
  by_cases h : 0 ≤ a
  · rw [if_pos h]
    simp only [Option.bind_some]
    congr 1
    exact decide_eq_decide.2 ⟨fun h1 => ⟨h, by omega⟩, fun h1 => by omega⟩
  · rw [if_neg h]
    simp only [Option.bind_some]
    congr 1
    exact (decide_eq_false fun h1 => h h1.1).symm
theorem p4_slice (g : Nat) (W : World) : (Instr.sliceAt 45 (.pointer (some ⟨g, 0, none⟩)) none none none).run Try.prog W = .ok (.slice (some ⟨g, 0, none⟩) 4 4) W := by
  have hal : Try.prog.arrayLen 45 = 4 := by simp [Program.arrayLen, Try.underlying45]
  rw [run_sliceAt_array_all W 45 ⟨g, 0, none⟩ (by simp [Program.arrayLen, Program.elem, Try.underlying45])]
  simp only [hal]
  go_simp
def impl_Perm4.f (a0 : Int) : Option (List Int) := if 0 ≤ a0 ∧ a0 < 24 then some (permL a0.toNat) else some []
set_option maxHeartbeats 8000000 in
set_option maxRecDepth 100000 in
theorem impl_Perm4.calls (a0 : Int) (r : List Int) (w : World) (h : impl_Perm4.f a0 = some r) :
    Calls Try.prog 20 #[.int .i64 a0] w fun e w' => ∃ v0_ : Value, e = .returned (v0_) ∧ Kd.R (Kd.int .i64) 45 w' w.heap.size (fun _ => True) v0_ r ∧ Below w.heap.size w w' := by
  unfold impl_Perm4.f at h
  by_cases hp : 0 ≤ a0 ∧ a0 < 24
  · rw [if_pos hp] at h
    obtain rfl := Option.some.inj h
    have CP := Aside0.mk (fun W => impl_isPerm.calls a0 true W (by rw [p4_isPerm, decide_eq_true hp]))
    obtain ⟨x0, x1, x2, x3, hq, hc⟩ := perm_lit a0 hp
    have CF := Aside0.mk hc
    have hsl := p4_slice
    clear h hp hc
    go_enter Try.func20, Try.ntmps20
    go_wp2_with (first
      | (go_at_call 46; refine (CP.out _).mono ?_; rintro e w1 ⟨rfl, ⟨n1, rfl⟩⟩)
      | (go_at_call 48; refine (CF.out _).mono ?_; rintro e w3 ⟨rfl, hb3⟩))
    go_ret
    have hb := below_then (pw_below_drewN (Below.refl w.heap.size w) n1) (Nat.le_refl _) hb3
    refine ⟨_, rfl, ?_, below_alloc hb _⟩
    rw [hq]
    exact Kd.R_of_own (own_lit w3 w.heap.size 45 .i64 [x0, x1, x2, x3] hb.size (by simp)) (fun _ _ => trivial)
  · rw [if_neg hp] at h
    obtain rfl := Option.some.inj h
    have CP := Aside0.mk (fun W => impl_isPerm.calls a0 false W (by rw [p4_isPerm, decide_eq_false hp]))
    clear h hp
    go_enter Try.func20, Try.ntmps20
    go_wp2_with (go_at_call 46; refine (CP.out _).mono ?_; rintro e w1 ⟨rfl, ⟨n1, rfl⟩⟩)
    go_ret
    exact ⟨_, rfl, Kd.R_nil _ _ _ _ _, pw_below_drewN (Below.refl _ _) n1⟩

/-! ### impl_size_int64: function 70 -/
def impl_size_int64.f (l0 : List Int) : Option (Int) := some (l0.length : Int)
set_option maxHeartbeats 8000000 in
set_option maxRecDepth 100000 in
theorem impl_size_int64.calls (A0 : Option Addr) (c0 : Nat) (l0 : List Int) (r : Int) (w : World) (hr0 : Kd.C (Kd.int .i64) w A0 l0.length l0) (hc0 : l0.length ≤ c0) (h : impl_size_int64.f l0 = some r) :
    Calls Try.prog 70 #[.slice A0 l0.length c0] w fun e w' => e = .returned (.int .i64 r) ∧ Drawn0 w w' := by
  have HR0 := Aside0.mk hr0
  have HC0 := Aside0.mk hc0
  clear hr0 hc0
  have H : (some (l0.length : Int)) = some r := h
  clear h
  obtain rfl := Option.some.inj H
  go_enter Try.func70, Try.ntmps70
  go_wp2
  go_ret
  exact ⟨by first | rfl | (simp; done) | (simp [*]; done), by repeat (first | exact Drawn0.refl _ | apply Drawn0.step)⟩

theorem sizeInts (A : Option Addr) (c : Nat) (l : List Int) (w : World) : Calls Try.prog 70 #[.slice A l.length c] w fun e w' => e = .returned (.int .i64 l.length) ∧ w' = w := by
  go_enter Try.func70, Try.ntmps70
  go_wp2
  go_ret
  exact ⟨rfl, rfl⟩

/-! ### impl_isPermutation: function 52 -/
def impl_isPermutation.l0 : Nat → List Int → Int → List Bool → List Int → Int → Int → Option (Bool)
  | 0, _, _, _, _, _, _ => none
  | k + 1, x0, x1, x5, x10, x11, x12 => if x12 < x11 then (if 0 ≤ x12 then (if x12 < (x10.length : Int) then ((impl_inRange.f (rd x10 x12) 0 (wrap64 (x1 - 1))).bind fun t109 => (if t109 = true then (if 0 ≤ (rd x10 x12) then (if (rd x10 x12) < (x5.length : Int) then (if rdOf false x5 (rd x10 x12) = true then (some false) else (impl_isPermutation.l0 k x0 x1 (x5.set ((rd x10 x12) : Int).toNat true) x10 x11 (wrap64 (x12 + 1)))) else (none)) else (none)) else (some false))) else (none)) else (none)) else ((impl_size_int64.f x0).bind fun t112 => (some (t112 == x1)))
def impl_isPermutation.f (k : Nat) (l0 : List Int) (a1 : Int) : Option (Bool) := if 0 ≤ a1 then (if (a1 : Int).toNat ≤ 281474976710656 then (impl_isPermutation.l0 k l0 a1 (List.replicate (a1 : Int).toNat false) l0 (l0.length : Int) 0) else (none)) else (none)
theorem impl_isPermutation.mono_l : ∀ k, (∀ y0 y1 y2 y3 y4 y5, LeO (impl_isPermutation.l0 k y0 y1 y2 y3 y4 y5) (impl_isPermutation.l0 (k + 1) y0 y1 y2 y3 y4 y5))
  | 0 => fun _ _ _ _ _ _ r h => by simp [impl_isPermutation.l0] at h
  | k + 1 => by
    have ih0 := impl_isPermutation.mono_l k
    · intro y0 y1 y2 y3 y4 y5
      unfold impl_isPermutation.l0
      repeat' first
      | (with_reducible exact ih0 _ _ _ _ _ _)
      | (with_reducible exact LeO.refl _)
      | (with_reducible exact LeO.none _)
      | (with_reducible refine LeO.ite ?_ ?_)
      | (with_reducible refine LeO.bind ?_ (fun _ => ?_))
      | exact ih0 _ _ _ _ _ _
      | exact LeO.none _
      | refine LeO.ite ?_ ?_
      | refine LeO.bind ?_ (fun _ => ?_)
theorem impl_isPermutation.mono : ∀ a0 a1 k, LeO (impl_isPermutation.f k a0 a1) (impl_isPermutation.f (k + 1) a0 a1) := by
  intro a0 a1 k
  have ih0 := impl_isPermutation.mono_l k
  unfold impl_isPermutation.f
  repeat' first
      | (with_reducible exact ih0 _ _ _ _ _ _)
      | (with_reducible exact LeO.refl _)
      | (with_reducible exact LeO.none _)
      | (with_reducible refine LeO.ite ?_ ?_)
      | (with_reducible refine LeO.bind ?_ (fun _ => ?_))
      | exact ih0 _ _ _ _ _ _
      | exact LeO.none _
      | refine LeO.ite ?_ ?_
      | refine LeO.bind ?_ (fun _ => ?_)
set_option maxHeartbeats 8000000 in
set_option maxRecDepth 100000 in
theorem impl_isPermutation.calls (k : Nat) (A0 : Option Addr) (c0 : Nat) (l0 : List Int) (a1 : Int) (r : Bool) (w : World) (hr0 : Kd.C (Kd.int .i64) w A0 l0.length l0) (hc0 : l0.length ≤ c0) (h : impl_isPermutation.f k l0 a1 = some r) :
    Calls Try.prog 52 #[.slice A0 l0.length c0, .int .i64 a1] w fun e w' => e = .returned (.bool r) ∧ Below w.heap.size w w' := by
  have HR0 := Aside0.mk hr0
  have HC0 := Aside0.mk hc0
  clear hr0 hc0
  have HB := Aside0.mk (Below.refl w.heap.size w)
  have H : (if 0 ≤ a1 then (if (a1 : Int).toNat ≤ 281474976710656 then (impl_isPermutation.l0 k l0 a1 (List.replicate (a1 : Int).toNat false) l0 (l0.length : Int) 0) else (none)) else (none)) = some r := h
  clear h
  by_cases c3 : 0 ≤ a1
  · rw [if_pos c3] at H
    have c3b0 := eq_true c3
    have c3b1 : decide (0 ≤ a1) = true := decide_eq_true c3
    clear c3
    by_cases c4 : (a1 : Int).toNat ≤ 281474976710656
    · rw [if_pos c4] at H
      have c4b0 := eq_true c4
      have c4b1 : decide ((a1 : Int).toNat ≤ 281474976710656) = true := decide_eq_true c4
      clear c4
      obtain ⟨y105, hy105⟩ : ∃ y_ : List Bool, y_ = (List.replicate (a1 : Int).toNat false) := ⟨_, rfl⟩
      replace H : (impl_isPermutation.l0 k l0 a1 y105 l0 (l0.length : Int) 0) = some r := by first | (rw [hy105]; with_reducible exact H) | (have H2_ := (Option.bind_some _ _).symm.trans H; rw [hy105]; with_reducible exact H2_) | (have H2_ := (Option.bind_some _ _).symm.trans H; with_reducible exact H2_) | with_reducible exact H | (rw [hy105]; exact H) | exact H
      have Ny105 := Aside0.mk hy105
      clear hy105
      have H' := Aside0.mk H
      clear H
      go_enter Try.func52, Try.ntmps52
      go_wp2_with (first | ((with_reducible refine gate_dst (N := 9) rfl ?_); refine Kd.R_make Kd.bool _ 4 rfl (N := 9) rfl 59 _ _ rfl a1 rfl rfl Try.underlying59 (.bool false) 1 info4 rfl (by decide) (by omega) false (ok := fun _ => True) (okp := fun _ => True) rfl (fun _ hk => hk) trivial (of_decide_eq_true (by first | (with_reducible assumption) | assumption)) (Nat.le_trans (Nat.mul_le_mul_right _ (of_decide_eq_true (by first | (with_reducible assumption) | assumption) : a1.toNat ≤ 281474976710656)) (by omega)) (Below.refl _ _) (Nat.le_refl _) ?_; intro v106 w5 ho6 hb hg_ hnew_; clear hg_ hnew_; (first | rw [← Ny105.out] at ho6 | (simp only [Int.reduceToNat] at ho6; rw [← Ny105.out] at ho6)); have n0_ := Aside0.mk (Kd.R_lower ho6 (below_size (by repeat (first | (with_reducible first | exact HB.out | apply below_alloc | apply pw_below_drewN | apply below_drew1) | exact HB.out)))); have n1_ := Aside0.mk (below_step (by repeat (first | (with_reducible first | exact HB.out | apply below_alloc | apply pw_below_drewN | apply below_drew1) | exact HB.out)) hb); clear HB; have HO107 := n0_; have HB := n1_; clear n0_ n1_; clear hb ho6))
      go_loopg [12] k (fun kq v12 w' => ∃ (x5_1 : List Bool) (x12_1 : Int), v12 = .int .i64 x12_1 ∧ Aside0 (impl_isPermutation.l0 kq l0 a1 x5_1 l0 (l0.length : Int) x12_1 = some r) ∧ Aside0 (kq ≤ k) ∧ Aside0 (Kd.R Kd.bool 4 w' w.heap.size (fun _ => True) v106 x5_1) ∧ Aside0 (Below w.heap.size w w'))
      case atStart => exact ⟨(y105), (0), (by first | rfl | (simp; done) | (simp [*]; done)), H', ⟨Nat.le_refl _⟩, ⟨by (with_reducible repeat (first | apply Kd.R_alloc | apply Kd.R_drewN | apply Kd.R_drew)); exact HO107.out⟩, ⟨by repeat (first | (with_reducible first | exact HB.out | apply below_alloc | apply pw_below_drewN | apply below_drew1) | exact HB.out)⟩⟩
      case round =>
        clear H'
        try clear p2
        try clear c3
        try clear c3b0
        try clear c3b1
        try clear c4
        try clear c4b0
        try clear c4b1
        try clear c5
        obtain ⟨x5_1, x12_1, rfl, HA, HK1, HO_5, HB⟩ := hrel
        cases gk with
        | zero => exact absurd HA.out (by simp [impl_isPermutation.l0])
        | succ k1 =>
          have H := HA.out
          clear HA
          simp only [impl_isPermutation.l0] at H
          by_cases c7 : x12_1 < (l0.length : Int)
          · rw [if_pos c7] at H
            have c7b0 : decide (x12_1 < (l0.length : Int)) = true := decide_eq_true c7
            clear c7
            by_cases c8 : 0 ≤ x12_1
            · rw [if_pos c8] at H
              have c8b0 : decide (0 ≤ x12_1) = true := decide_eq_true c8
              clear c8
              by_cases c9 : x12_1 < (l0.length : Int)
              · rw [if_pos c9] at H
                have c9b0 : decide (x12_1 < (l0.length : Int)) = true := decide_eq_true c9
                clear c9
                replace H := Option.bind_eq_some_iff.mp H
                obtain ⟨t109, A100, H⟩ := H
                replace H : (if t109 = true then (if 0 ≤ (rd l0 x12_1) then (if (rd l0 x12_1) < (x5_1.length : Int) then (if rdOf false x5_1 (rd l0 x12_1) = true then (some false) else (impl_isPermutation.l0 k1 l0 a1 (x5_1.set ((rd l0 x12_1) : Int).toNat true) l0 (l0.length : Int) (wrap64 (x12_1 + 1)))) else (none)) else (none)) else (some false)) = some r := H
                have A10 := Aside0.mk A100
                clear A100
                by_cases c11 : t109 = true
                · subst c11
                  have H1 : (if 0 ≤ (rd l0 x12_1) then (if (rd l0 x12_1) < (x5_1.length : Int) then (if rdOf false x5_1 (rd l0 x12_1) = true then (some false) else (impl_isPermutation.l0 k1 l0 a1 (x5_1.set ((rd l0 x12_1) : Int).toNat true) l0 (l0.length : Int) (wrap64 (x12_1 + 1)))) else (none)) else (none)) = some r := by rw [if_pos rfl] at H; exact H
                  clear H
                  have H := H1
                  clear H1
                  by_cases c12 : 0 ≤ (rd l0 x12_1)
                  · rw [if_pos c12] at H
                    have c12b0 : decide (0 ≤ (rd l0 x12_1)) = true := decide_eq_true c12
                    clear c12
                    by_cases c13 : (rd l0 x12_1) < (x5_1.length : Int)
                    · rw [if_pos c13] at H
                      have c13b0 : decide ((rd l0 x12_1) < (x5_1.length : Int)) = true := decide_eq_true c13
                      clear c13
                      obtain ⟨bq14, hbq14⟩ : ∃ b_ : Bool, b_ = (rdOf false x5_1 (rd l0 x12_1)) := ⟨_, rfl⟩
                      replace H : (if bq14 = true then (some false) else (impl_isPermutation.l0 k1 l0 a1 (x5_1.set ((rd l0 x12_1) : Int).toNat true) l0 (l0.length : Int) (wrap64 (x12_1 + 1)))) = some r := by rw [← hbq14] at H; exact H
                      have Nbq14 := Aside0.mk hbq14
                      clear hbq14
                      by_cases c15 : bq14 = true
                      · subst c15
                        have H1 : (some false) = some r := by rw [if_pos rfl] at H; exact H
                        clear H
                        have H := H1
                        clear H1
                        obtain rfl := Option.some.inj H
                        have p108 : 0 ≤ (x12_1 : Int) := of_decide_eq_true (by first | (with_reducible assumption) | assumption)
                        have q108 : x12_1 < (l0.length : Int) := of_decide_eq_true (by first | (with_reducible assumption) | assumption)
                        obtain ⟨ad108, e108, hx108_0⟩ := Kd.at_int HR0.out x12_1 p108 q108
                        cases e108
                        replace hx108_0 := (HB.out.cell (World.block_lt_of_cell? w _ hx108_0)).trans hx108_0
                        replace p108 := eq_true p108
                        replace q108 := eq_true q108
                        go_wp2_with (first | ((with_reducible refine gate_callee (f := 64) rfl ?_); refine goesL_ (some 19) rfl rfl Try.func64 (by kernel_rfl) rfl #[.int .i64 (rd l0 x12_1), .int .i64 0, .int .i64 (wrap64 (a1 - 1))] rfl (by (try simp only [List.map_toArray, List.map_cons, List.map_nil]); first | done | rfl | (simp only [List.length_drop, List.length_take]; rfl)) ?_; (with_reducible refine (impl_inRange.calls (rd l0 x12_1) 0 (wrap64 (a1 - 1)) true _ A10.out).mono ?_); rintro e w' ⟨rfl, ⟨nd, rfl⟩⟩; refine ⟨_, rfl, ?_⟩; obtain ⟨Ao16, co16, eo16⟩ := Kd.R_slice HO_5.out; subst eo16; have p110 : 0 ≤ ((rd l0 x12_1) : Int) := of_decide_eq_true (by first | (with_reducible assumption) | assumption); have q110 : (rd l0 x12_1) < (x5_1.length : Int) := of_decide_eq_true (by first | (with_reducible assumption) | assumption); obtain ⟨ad110, e110, hx110_0⟩ := Kd.at_bool (Kd.R_reads' HO_5.out).2.2 (rd l0 x12_1) p110 q110; (try rw [← Nbq14.out] at hx110_0); cases e110; replace p110 := eq_true p110; replace q110 := eq_true q110))
                        go_ret
                        exact ⟨by first | rfl | (simp [errW_none, errW_some] <;> rfl) | (simp [*, errW_none, errW_some] <;> rfl), by repeat (first | (with_reducible first | exact HB.out | apply below_alloc | apply pw_below_drewN | apply below_drew1) | exact HB.out)⟩
                      · replace c15 := Bool.eq_false_iff.mpr c15
                        subst c15
                        have H1 : (impl_isPermutation.l0 k1 l0 a1 (x5_1.set ((rd l0 x12_1) : Int).toNat true) l0 (l0.length : Int) (wrap64 (x12_1 + 1))) = some r := by rw [if_neg (show ¬ (false = true) by decide)] at H; exact H
                        clear H
                        have H := H1
                        clear H1
                        obtain ⟨y111, hy111⟩ : ∃ y_ : List Bool, y_ = (x5_1.set ((rd l0 x12_1) : Int).toNat true) := ⟨_, rfl⟩
                        replace H : (impl_isPermutation.l0 k1 l0 a1 y111 l0 (l0.length : Int) (wrap64 (x12_1 + 1))) = some r := by first | (rw [hy111]; with_reducible exact H) | (have H2_ := (Option.bind_some _ _).symm.trans H; rw [hy111]; with_reducible exact H2_) | (have H2_ := (Option.bind_some _ _).symm.trans H; with_reducible exact H2_) | with_reducible exact H | (rw [hy111]; exact H) | exact H
                        have Ny111 := Aside0.mk hy111
                        clear hy111
                        have H' := Aside0.mk H
                        clear H
                        have p108 : 0 ≤ (x12_1 : Int) := of_decide_eq_true (by first | (with_reducible assumption) | assumption)
                        have q108 : x12_1 < (l0.length : Int) := of_decide_eq_true (by first | (with_reducible assumption) | assumption)
                        obtain ⟨ad108, e108, hx108_0⟩ := Kd.at_int HR0.out x12_1 p108 q108
                        cases e108
                        replace hx108_0 := (HB.out.cell (World.block_lt_of_cell? w _ hx108_0)).trans hx108_0
                        replace p108 := eq_true p108
                        replace q108 := eq_true q108
                        go_wp2_with (first | ((with_reducible refine gate_callee (f := 64) rfl ?_); refine goesL_ (some 19) rfl rfl Try.func64 (by kernel_rfl) rfl #[.int .i64 (rd l0 x12_1), .int .i64 0, .int .i64 (wrap64 (a1 - 1))] rfl (by (try simp only [List.map_toArray, List.map_cons, List.map_nil]); first | done | rfl | (simp only [List.length_drop, List.length_take]; rfl)) ?_; (with_reducible refine (impl_inRange.calls (rd l0 x12_1) 0 (wrap64 (a1 - 1)) true _ A10.out).mono ?_); rintro e w' ⟨rfl, ⟨nd, rfl⟩⟩; refine ⟨_, rfl, ?_⟩; (try (rw [drewN_self wr]; generalize hq_ : World.drewN wr _ = wr; have n0_ : Aside0 (Kd.R Kd.bool 4 wr w.heap.size (fun _ => True) v106 x5_1) := ⟨by rw [← hq_]; exact (by (with_reducible repeat (first | apply Kd.R_alloc | apply Kd.R_drewN | apply Kd.R_drew)); exact HO_5.out)⟩; have n1_ : Aside0 (Below w.heap.size w wr) := ⟨by rw [← hq_]; exact (by repeat (first | (with_reducible first | exact HB.out | apply below_alloc | apply pw_below_drewN | apply below_drew1) | exact HB.out))⟩; clear HO_5 HB hq_; have HO_5 := n0_; have HB := n1_; clear n0_ n1_)); obtain ⟨Ao18, co18, eo18⟩ := Kd.R_slice HO_5.out; subst eo18; have p110 : 0 ≤ ((rd l0 x12_1) : Int) := of_decide_eq_true (by first | (with_reducible assumption) | assumption); have q110 : (rd l0 x12_1) < (x5_1.length : Int) := of_decide_eq_true (by first | (with_reducible assumption) | assumption); obtain ⟨ad110, e110, hx110_0⟩ := Kd.at_bool (Kd.R_reads' HO_5.out).2.2 (rd l0 x12_1) p110 q110; (try rw [← Nbq14.out] at hx110_0); cases e110; replace p110 := eq_true p110; replace q110 := eq_true q110; have p17 : 0 ≤ ((rd l0 x12_1) : Int) := of_decide_eq_true (by first | (with_reducible assumption) | assumption); have q17 : ((rd l0 x12_1) : Int) < ((x5_1.length : Int) : Int) := of_decide_eq_true (by first | (with_reducible assumption) | assumption); obtain ⟨go17, co17, eo17, gb17, gl17, cl17, HG17⟩ := Kd.R_form HO_5.out (by omega); (first | cases eo17 | (injection eo17 with ea_ en_ ec_; (first | subst ea_ | (injection ea_ with ea_; subst ea_)); subst ec_; clear en_)); have GB17 := Aside0.mk gb17; have GG17 := Aside0.mk HG17; clear gb17 gl17 HG17; (first | simp only [add_plain] at hx110_0 | skip); obtain ⟨hx17_0, hf17_0⟩ := Kd.R_celln false HO_5.out ((rd l0 x12_1) : Int) p17 q17; replace p17 := eq_true p17; replace q17 := eq_true q17; obtain ⟨hy19_, hz19_⟩ := Kd.R_celln false HO_5.out ((rd l0 x12_1) : Int) (of_decide_eq_true (by first | (with_reducible assumption) | assumption)) (of_decide_eq_true (by first | (with_reducible assumption) | assumption)); have HP19 := Kd.R_putg HO_5.out ((rd l0 x12_1) : Int) true) | ((with_reducible refine gate_store (t := 4) (p := 29) rfl ?_); refine store_event (t := 4) (p := 29) (v := ?vo_w20) (w1 := (wr.setCell ⟨go17, ((rd l0 x12_1) : Int).toNat, none⟩ (.bool true))) ?hg ?ho ?hn ?hr ?_; (case ho => rfl); (case hg => rfl); (case hn => rfl); (case hr => first | (go_simp; done) | (go_simp; rfl)); intro w20 hw; have hg : wr.grownBy w20 (some go17) := (by rw [hw]; exact HP19.2); have hp_ : Kd.R Kd.bool 4 w20 w.heap.size (fun _ => True) (.slice (some ⟨go17, 0, none⟩) x5_1.length co18) y111 := (by rw [hw, Ny111.out]; exact HP19.1); clear HP19; have n0_ := Aside0.mk (hp_); have n1_ := Aside0.mk ((by rw [hw]; exact below_set (HB.out) GB17.out : Below w.heap.size w w20)); clear HO_5; clear HB; have HO_5 := n0_; have HB := n1_; clear n0_ n1_; clear hg hw hp_))
                        go_roundg k1
                        case measure => have := HK1.out; omega
                        case rel => exact ⟨(y111), (wrap64 (x12_1 + 1)), (by first | rfl | (simp; done) | (simp [*]; done)), H', ⟨by have := HK1.out; omega⟩, ⟨by (with_reducible repeat (first | apply Kd.R_alloc | apply Kd.R_drewN | apply Kd.R_drew)); exact HO_5.out⟩, ⟨by repeat (first | (with_reducible first | exact HB.out | apply below_alloc | apply pw_below_drewN | apply below_drew1) | exact HB.out)⟩⟩
                    · rw [if_neg c13] at H
                      exact absurd H (by simp)
                  · rw [if_neg c12] at H
                    exact absurd H (by simp)
                · replace c11 := Bool.eq_false_iff.mpr c11
                  subst c11
                  have H1 : (some false) = some r := by rw [if_neg (show ¬ (false = true) by decide)] at H; exact H
                  clear H
                  have H := H1
                  clear H1
                  obtain rfl := Option.some.inj H
                  have p108 : 0 ≤ (x12_1 : Int) := of_decide_eq_true (by first | (with_reducible assumption) | assumption)
                  have q108 : x12_1 < (l0.length : Int) := of_decide_eq_true (by first | (with_reducible assumption) | assumption)
                  obtain ⟨ad108, e108, hx108_0⟩ := Kd.at_int HR0.out x12_1 p108 q108
                  cases e108
                  replace hx108_0 := (HB.out.cell (World.block_lt_of_cell? w _ hx108_0)).trans hx108_0
                  replace p108 := eq_true p108
                  replace q108 := eq_true q108
                  go_wp2_with (first | ((with_reducible refine gate_callee (f := 64) rfl ?_); refine goesL_ (some 19) rfl rfl Try.func64 (by kernel_rfl) rfl #[.int .i64 (rd l0 x12_1), .int .i64 0, .int .i64 (wrap64 (a1 - 1))] rfl (by (try simp only [List.map_toArray, List.map_cons, List.map_nil]); first | done | rfl | (simp only [List.length_drop, List.length_take]; rfl)) ?_; (with_reducible refine (impl_inRange.calls (rd l0 x12_1) 0 (wrap64 (a1 - 1)) false _ A10.out).mono ?_); rintro e w' ⟨rfl, ⟨nd, rfl⟩⟩; refine ⟨_, rfl, ?_⟩))
                  go_ret
                  exact ⟨by first | rfl | (simp [errW_none, errW_some] <;> rfl) | (simp [*, errW_none, errW_some] <;> rfl), by repeat (first | (with_reducible first | exact HB.out | apply below_alloc | apply pw_below_drewN | apply below_drew1) | exact HB.out)⟩
              · rw [if_neg c9] at H
                exact absurd H (by simp)
            · rw [if_neg c8] at H
              exact absurd H (by simp)
          · rw [if_neg c7] at H
            have c7b0 : decide (x12_1 < (l0.length : Int)) = false := decide_eq_false c7
            clear c7
            replace H := Option.bind_eq_some_iff.mp H
            obtain ⟨t112, A210, H⟩ := H
            replace H : (some (t112 == a1)) = some r := H
            have A21 := Aside0.mk A210
            clear A210
            obtain rfl := Option.some.inj H
            go_wp2_with (first | ((with_reducible refine gate_callee (f := 70) rfl ?_); refine goesL_ (some 32) rfl rfl Try.func70 (by kernel_rfl) rfl #[.slice A0 l0.length c0] rfl (by (try simp only [List.map_toArray, List.map_cons, List.map_nil]); first | done | rfl | (simp only [List.length_drop, List.length_take]; rfl)) ?_; (with_reducible refine (impl_size_int64.calls _ _ l0 t112 _ ?side1 ?side2 A21.out).mono ?_); (case side1 => repeat (first | exact (Kd.C_below HR0.out HB.out) | (with_reducible refine Kd.C_alloc ?_ _) | (with_reducible refine Kd.C_drewN ?_ _) | (with_reducible refine Kd.C_drew ?_))); (case side2 => exact HC0.out); rintro e w' ⟨rfl, ⟨nd, rfl⟩⟩; refine ⟨_, rfl, ?_⟩))
            go_ret
            exact ⟨by first | rfl | (simp [errW_none, errW_some] <;> rfl) | (simp [*, errW_none, errW_some] <;> rfl), by repeat (first | (with_reducible first | exact HB.out | apply below_alloc | apply pw_below_drewN | apply below_drew1) | exact HB.out)⟩
    · rw [if_neg c4] at H
      exact absurd H (by simp)
  · rw [if_neg c3] at H
    exact absurd H (by simp)

end Go.Proofs.Ytmffjekpnibnfaa.PFnPermGroup
