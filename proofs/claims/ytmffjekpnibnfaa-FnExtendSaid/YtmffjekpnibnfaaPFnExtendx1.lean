/- Written by this session's program out of the kit's print and this session's contracts. -/
import Derived.Test.YtmffjekpnibnfaaPFnExtendx0
namespace Go.Proofs.Ytmffjekpnibnfaa.PFnExtend
open Go.RowKit Go.Proofs.YtmffjekpnibnfaaW.PrintWords Go.Proofs.YtmffjekpnibnfaaW.PrintLast Go.Proofs.YtmffjekpnibnfaaW.PrintMore
attribute [local go_sem] max2_int min2_int max_two min_two max_three min_three max_four min_four   -- for this text's walks alone
set_option linter.unusedVariables false
set_option linter.unusedSimpArgs false

/-! ### impl_inRange: function 64 -/
def impl_inRange.f (a0 : Int) (a1 : Int) (a2 : Int) : Option (Bool) := if a1 ≤ a0 then (some (decide (a0 ≤ a2))) else (some false)
set_option maxHeartbeats 8000000 in
set_option maxRecDepth 100000 in
theorem impl_inRange.calls (a0 : Int) (a1 : Int) (a2 : Int) (r : Bool) (w : World) (h : impl_inRange.f a0 a1 a2 = some r) :
    Calls Try.prog 64 #[.int .i64 a0, .int .i64 a1, .int .i64 a2] w fun e w' => e = .returned (.bool r) ∧ Drawn0 w w' := by
  have H : (if a1 ≤ a0 then (some (decide (a0 ≤ a2))) else (some false)) = some r := h
  clear h
  by_cases c4 : a1 ≤ a0
  · rw [if_pos c4] at H
    have c4b0 : decide (a1 ≤ a0) = true := decide_eq_true c4
    clear c4
    obtain rfl := Option.some.inj H
    go_enter Try.func64, Try.ntmps64
    go_wp2
    go_ret
    exact ⟨by first | rfl | (simp; done) | (simp [*]; done), by repeat (first | exact Drawn0.refl _ | apply Drawn0.step)⟩
  · rw [if_neg c4] at H
    have c4b0 : decide (a1 ≤ a0) = false := decide_eq_false c4
    clear c4
    obtain rfl := Option.some.inj H
    go_enter Try.func64, Try.ntmps64
    go_wp2
    go_ret
    exact ⟨by first | rfl | (simp; done) | (simp [*]; done), by repeat (first | exact Drawn0.refl _ | apply Drawn0.step)⟩

theorem inRange_t (x a b : Int) (w : World) (h1 : a ≤ x) (h2 : x ≤ b) : Calls Try.prog 64 #[.int .i64 x, .int .i64 a, .int .i64 b] w fun e w' => e = .returned (.bool true) ∧ w' = w := by
  have e1 : decide (a ≤ x) = true := decide_eq_true h1
  have e2 : decide (x ≤ b) = true := decide_eq_true h2
  clear h1 h2
  go_enter Try.func64, Try.ntmps64
  go_wp2
  go_ret
  exact ⟨rfl, rfl⟩
theorem inRange_f (x a b : Int) (w : World) (h : ¬ (a ≤ x ∧ x ≤ b)) : Calls Try.prog 64 #[.int .i64 x, .int .i64 a, .int .i64 b] w fun e w' => e = .returned (.bool false) ∧ w' = w := by
  by_cases h1 : a ≤ x
  · have e1 : decide (a ≤ x) = true := decide_eq_true h1
    have e2 : decide (x ≤ b) = false := decide_eq_false fun h2 => h ⟨h1, h2⟩
    clear h1 h
    go_enter Try.func64, Try.ntmps64
    go_wp2
    go_ret
    exact ⟨rfl, rfl⟩
  · have e1 : decide (a ≤ x) = false := decide_eq_false h1
    clear h1 h
    go_enter Try.func64, Try.ntmps64
    go_wp2
    go_ret
    exact ⟨rfl, rfl⟩


/-! ### impl_isPerm: function 46 -/
def impl_isPerm.f (a0 : Int) : Option (Bool) := (impl_inRange.f a0 0 23).bind fun t101 => (some t101)
set_option maxHeartbeats 8000000 in
set_option maxRecDepth 100000 in
theorem impl_isPerm.calls (a0 : Int) (r : Bool) (w : World) (h : impl_isPerm.f a0 = some r) :
    Calls Try.prog 46 #[.int .i64 a0] w fun e w' => e = .returned (.bool r) ∧ Drawn0 w w' := by
  have H : ((impl_inRange.f a0 0 23).bind fun t101 => (some t101)) = some r := h
  clear h
  replace H := Option.bind_eq_some_iff.mp H
  obtain ⟨t101, A20, H⟩ := H
  replace H : (some t101) = some r := H
  have A2 := Aside0.mk A20
  clear A20
  obtain rfl := Option.some.inj H
  go_enter Try.func46, Try.ntmps46
  go_wp2_with (first | ((with_reducible refine gate_callee (f := 64) rfl ?_); refine goesL_ (some 4) rfl rfl Try.func64 (by kernel_rfl) rfl #[.int .i64 a0, .int .i64 0, .int .i64 23] rfl (by (try simp only [List.map_toArray, List.map_cons, List.map_nil]); first | done | rfl | (simp only [List.length_drop, List.length_take]; rfl)) ?_; (with_reducible refine (impl_inRange.calls a0 0 23 t101 _ A2.out).mono ?_); rintro e w' ⟨rfl, ⟨nd, rfl⟩⟩; refine ⟨_, rfl, ?_⟩))
  go_ret
  exact ⟨by first | rfl | (simp; done) | (simp [*]; done), by repeat (first | exact Drawn0.refl _ | apply Drawn0.step)⟩

/-! ### impl_isVertex: function 47 -/
def impl_isVertex.f (a0 : Int) : Option (Bool) := (impl_inRange.f a0 0 3).bind fun t102 => (some t102)
set_option maxHeartbeats 8000000 in
set_option maxRecDepth 100000 in
theorem impl_isVertex.calls (a0 : Int) (r : Bool) (w : World) (h : impl_isVertex.f a0 = some r) :
    Calls Try.prog 47 #[.int .i64 a0] w fun e w' => e = .returned (.bool r) ∧ Drawn0 w w' := by
  have H : ((impl_inRange.f a0 0 3).bind fun t102 => (some t102)) = some r := h
  clear h
  replace H := Option.bind_eq_some_iff.mp H
  obtain ⟨t102, A20, H⟩ := H
  replace H : (some t102) = some r := H
  have A2 := Aside0.mk A20
  clear A20
  obtain rfl := Option.some.inj H
  go_enter Try.func47, Try.ntmps47
  go_wp2_with (first | ((with_reducible refine gate_callee (f := 64) rfl ?_); refine goesL_ (some 4) rfl rfl Try.func64 (by kernel_rfl) rfl #[.int .i64 a0, .int .i64 0, .int .i64 3] rfl (by (try simp only [List.map_toArray, List.map_cons, List.map_nil]); first | done | rfl | (simp only [List.length_drop, List.length_take]; rfl)) ?_; (with_reducible refine (impl_inRange.calls a0 0 3 t102 _ A2.out).mono ?_); rintro e w' ⟨rfl, ⟨nd, rfl⟩⟩; refine ⟨_, rfl, ?_⟩))
  go_ret
  exact ⟨by first | rfl | (simp; done) | (simp [*]; done), by repeat (first | exact Drawn0.refl _ | apply Drawn0.step)⟩

/-! ### slices_Delete_int64_int64: function 69 -/
set_option maxHeartbeats 8000000 in
set_option maxRecDepth 1000000 in
/-- slices.Delete(s, i, i + 1), turned from the library's walk to this program's own instance. -/
theorem deleteInts (blk off cap i : Nat) (d : Array Int) (w : World) (hH : Go.Sort.Holds (Value.int .i64) w blk off d) (hcap : d.size ≤ cap) (hm : cap ≤ 9223372036854775807) (hi : i + 1 ≤ d.size) :
    Calls Try.prog 69 #[.slice (some ⟨blk, off, none⟩) d.size cap, .int .i64 i, .int .i64 ((i + 1 : Nat) : Int)] w fun e w' => e = .returned (.slice (some ⟨blk, off, none⟩) (d.size - 1) cap) ∧ ∃ q, w' = Go.Sort.putRow (Value.int .i64) (Go.Sort.ahead w q) blk off (d.toList.take i ++ d.toList.drop (i + 1) ++ List.replicate (i + 1 - i) (0 : Int)).toArray := by
  obtain ⟨i0, hi0, hz0, hz1, hz2⟩ := info_parts info2
  obtain ⟨j, hjj⟩ : ∃ j, j = i + 1 := ⟨_, rfl⟩
  rw [← hjj] at hi ⊢
  have hne : decide ((i : Int) = (j : Int)) = false := decide_eq_false (by omega)
  have hlt : i < j := by omega
  have hij : i ≤ j := by omega
  have hj : j ≤ d.size := hi
  have h1 : ∀ x : Int, (Value.int .i64 x).oneCell' = true := fun _ => rfl
  obtain ⟨news, hnews⟩ : ∃ news, news = (d.toList.drop j).map (Value.int .i64) := ⟨_, rfl⟩
  have hlen : news.length = d.size - j := by rw [hnews]; simp
  have hget : ∀ t, t < d.size - j → news[t]? = some (Value.int .i64 d[j + t]!) := by
    intro t ht
    rw [hnews, List.getElem?_map, List.getElem?_drop, Array.getElem?_toList, getElem!_pos d (j + t) (by omega), Array.getElem?_eq_getElem (by omega)]
    rfl
  obtain ⟨A, hA, hsrc⟩ : ∃ A : Addr, (if cap = j then some (⟨blk, off, none⟩ : Addr) else some ⟨blk, off + j, none⟩) = some A ∧ Hid (∀ t u, news[t]? = some u → w.drew.cell? (A.add t) = some u) := by
    by_cases h : cap = j
    · refine ⟨⟨blk, off, none⟩, by simp [h], fun t u hu => ?_⟩
      have h0 : news.length = 0 := by rw [hlen]; omega
      rw [List.length_eq_zero_iff.1 h0] at hu
      simp at hu
    · refine ⟨⟨blk, off + j, none⟩, by simp [h], fun t u hu => ?_⟩
      have ht : t < d.size - j := by
        have := (List.getElem?_eq_some_iff.1 hu).1
        rwa [hlen] at this
      rw [hget t ht] at hu
      rw [Addr.add_lit, show off + j + t = off + (j + t) by omega]
      exact (hH (j + t) (by omega)).1.trans hu
  have s1 : Hid (news.length = (d.size - j) * 1) := by rw [Nat.mul_one]; exact hlen
  have s2 : Hid (∀ u ∈ news, u.oneCell' = true) := by
    intro u hu
    rw [hnews] at hu
    obtain ⟨x, _, rfl⟩ := List.mem_map.1 hu
    exact h1 x
  have s3 : Hid (∀ t, t < news.length → (w.drew.cell? ⟨blk, off + i * 1 + t, none⟩).isSome = true ∧ w.drew.frozen? ⟨blk, off + i * 1 + t, none⟩ = false) := by
    intro t ht
    rw [hlen] at ht
    rw [Nat.mul_one, Nat.add_assoc]
    exact ⟨by show (w.cell? _).isSome = true; rw [(hH (i + t) (by omega)).1]; rfl, (hH (i + t) (by omega)).2⟩
  obtain ⟨W1, hW1⟩ : ∃ W1, W1 = w.drew.setCells blk (off + i * 1) news := ⟨_, rfl⟩
  have hW1' : W1 = Go.Sort.putRow (Value.int .i64) (Go.Sort.ahead w 1) blk off (Go.Lib.lay d i (d.toList.drop j)) := by
    rw [hW1, hnews, Nat.mul_one, ← Go.Lib.putRow_setCells (Value.int .i64) (Go.Sort.ahead w 1) blk off _ d i (by simp; omega), Go.Sort.putRow_self (Value.int .i64) (Go.Sort.ahead w 1) blk off d (Go.Sort.holds_ahead (Value.int .i64) w 1 blk off d hH)]
    rfl
  have hH1 : Go.Sort.Holds (Value.int .i64) W1 blk off (Go.Lib.lay d i (d.toList.drop j)) := by rw [hW1']; exact Go.Sort.holds_putRow (Value.int .i64) _ blk off d _ (Go.Sort.holds_ahead (Value.int .i64) w 1 blk off d hH) (Go.Lib.lay_size _ _ _)
  have hcl : ∀ ty, (Builtin.clear_ #[26] ty #[.slice (some ⟨blk, off + (i + (d.size - j)), none⟩) (d.size - (i + (d.size - j))) (cap - (i + (d.size - j)))]).run Try.prog W1 = .ok (.tuple #[]) (W1.setCells blk (off + (i + (d.size - j))) (List.replicate (d.size - (i + (d.size - j))) (Value.int .i64 0))) :=
    fun ty => Go.Lib.run_clear_slice W1 _ _ ty _ Try.underlying26 (fun w => Try.zeroValue2 w) rfl rfl blk (off + (i + (d.size - j))) _ _ (by omega) (fun t ht => by rw [show off + (i + (d.size - j)) + t = off + (i + (d.size - j) + t) by omega, (hH1 _ (by rw [Go.Lib.lay_size]; omega)).1]; rfl) (fun t ht => by rw [show off + (i + (d.size - j)) + t = off + (i + (d.size - j) + t) by omega]; exact (hH1 _ (by rw [Go.Lib.lay_size]; omega)).2)
  have X : Aside (W1 = Go.Sort.putRow (Value.int .i64) (Go.Sort.ahead w 1) blk off (Go.Lib.lay d i (d.toList.drop j))) := hW1'
  have hW : Hid (W1 = w.drew.setCells blk (off + i * 1) news) := hW1
  have hic : i ≤ cap := by omega
  have hjc : j ≤ cap := by omega
  have mixed : Try.prog.follows Departure.mixedOrders = true := by kernel_rfl
  have hd1 : d.size - 1 = i + (d.size - j) := by omega
  clear hW1 hW1' hH1 hH hget hnews hlen hjj
  go_enter Try.func69, Try.ntmps69
  go_wp2_with fail
  go_region_law_o (refine step_append_room rfl (.tmp 22) (.tmp 25) 26 rfl 2 i0 1 Try.underlying26 hi0 hz1 blk off i cap (by simp [Act.eval, Act.put]) A (d.size - j) (cap - j) news (by simp [Act.eval, Act.put]) s1.out hsrc.out s2.out (by omega) s3.out ?_; rw [← hW.out])
  go_wp2
  go_ret
  refine ⟨by rw [hd1]; rfl, 1, ?_⟩
  rw [← Go.Lib.delete_arr d i j 0 hij hj, ← Go.Lib.putRow_setCells (Value.int .i64) _ blk off _ _ (i + (d.size - j)) (by rw [Go.Lib.lay_size]; simp; omega), ← X.out, List.map_replicate, show d.size - (i + (d.size - j)) = j - i by omega]


/-! ### impl_perm: function 48 -/
/-- What the rounds of perm make: the rest of the number, the four cells of 'left', the images. -/
def pSt (n : Nat) : Nat → Int × List Int × List Int
  | 0 => ((n : Int), [0, 1, 2, 3], [0, 0, 0, 0])
  | i + 1 =>
    let s := pSt n i
    let b : Int := rd [6, 2, 1, 1] i
    let k := s.1.tdiv b
    (s.1.tmod b, ((s.2.1.take (4 - i)).take k.toNat ++ (s.2.1.take (4 - i)).drop (k.toNat + 1) ++ List.replicate (k.toNat + 1 - k.toNat) (0 : Int)) ++ s.2.1.drop (4 - i), s.2.2.set i (rd s.2.1 k))
def permL (n : Nat) : List Int := (pSt n 4).2.2
theorem pSt_ok : ∀ n, n < 24 → ∀ i, i < 4 → (0 ≤ (pSt n i).1 ∧ (pSt n i).1 < 24) ∧ (0 ≤ (pSt n i).1.tdiv (rd [6, 2, 1, 1] i) ∧ (pSt n i).1.tdiv (rd [6, 2, 1, 1] i) < 4 - i) ∧ (pSt n i).2.1.length = 4 ∧ (pSt n i).2.2.length = 4 := by decide +kernel
theorem permL_ok : ∀ n, n < 24 → (permL n).length = 4 ∧ (∀ x ∈ permL n, 0 ≤ x ∧ x < 4) := by decide +kernel
theorem holds_blk {w : World} {g t : Nat} {L : List Int} (h : w.heap[g]? = some (.cells (nums .i64 L).toArray t (0, 0))) (n : Nat) : Go.Sort.Holds (Value.int .i64) w g 0 (L.take n).toArray := by
  intro j hj
  have hj' : j < (L.take n).length := by simpa using hj
  refine ⟨?_, by rw [Nat.zero_add]; exact blk_frozen h j⟩
  rw [Nat.zero_add, blk_cell h j]
  have h1 : (L.take n).toArray[j]! = (L.take n)[j]'hj' := by rw [getElem!_pos _ j hj]; simp
  rw [h1]
  simp [nums] at hj' ⊢
theorem put_blk {w : World} {g t : Nat} {L : List Int} (h : w.heap[g]? = some (.cells (nums .i64 L).toArray t (0, 0))) (q : Nat) (M : List Int) (hM : M.length ≤ L.length) : (Go.Sort.putRow (Value.int .i64) (Go.Sort.ahead w q) g 0 M.toArray).heap[g]? = some (.cells (nums .i64 (M ++ L.drop M.length)).toArray t (0, 0)) := by
  show (w.heap.modify g _)[g]? = _
  rw [Array.getElem?_modify, if_pos rfl, h]
  simp only [Option.map_some, Go.Sort.onCells]
  congr 2
  apply Array.ext_getElem?
  intro k
  simp only [Go.Sort.putCells, Array.getElem?_mapIdx, List.getElem?_toArray, nums, List.getElem?_map, Nat.zero_le, true_and, Nat.zero_add, Nat.sub_zero, List.size_toArray]
  by_cases hk : k < M.length
  · rw [List.getElem?_append_left hk, List.getElem?_eq_getElem hk, List.getElem?_eq_getElem (show k < L.length by omega)]
    simp [hk]
  · rw [List.getElem?_append_right (by omega), List.getElem?_drop, show M.length + (k - M.length) = k by omega]
    cases hL : L[k]? with
    | none => rfl
    | some y => simp [hk]
theorem put_far {w : World} {g k : Nat} (q : Nat) (M : Array Int) (hk : k ≠ g) : (Go.Sort.putRow (Value.int .i64) (Go.Sort.ahead w q) g 0 M).heap[k]? = w.heap[k]? := by
  show (w.heap.modify g _)[k]? = _
  rw [Array.getElem?_modify, if_neg (Ne.symm hk)]
theorem put_below {B : Nat} {v w : World} (h : Below B v w) {g : Nat} (hg : B ≤ g) (q : Nat) (M : Array Int) : Below B v (Go.Sort.putRow (Value.int .i64) (Go.Sort.ahead w q) g 0 M) :=
  ⟨h.os, h.tape, h.output, by show _ ≤ (w.heap.modify g _).size; rw [Array.size_modify]; exact h.size, fun k hk => (put_far q M (by omega)).trans (h.block k hk)⟩

theorem nums_at (L : List Int) (i : Nat) (h : i < L.length) : (nums .i64 L).toArray[i]? = some (.int .i64 (rd L i)) := by
  simp [nums, rd, List.getD, List.getElem?_eq_getElem h]
theorem nums_set (L : List Int) (i : Nat) (x : Int) : (nums .i64 L).toArray.setIfInBounds i (.int .i64 x) = (nums .i64 (L.set i x)).toArray := by
  simp [nums, List.map_set]
theorem del_blk (g t : Nat) (L : List Int) (m k : Nat) (W : World) (h : W.heap[g]? = some (.cells (nums .i64 L).toArray t (0, 0))) (hL : L.length = 4) (hm : m ≤ 4) (hk : k < m) :
    Calls Try.prog 69 #[.slice (some ⟨g, 0, none⟩) m 4, .int .i64 k, .int .i64 ((k + 1 : Nat) : Int)] W fun e w' => e = .returned (.slice (some ⟨g, 0, none⟩) (m - 1) 4) ∧ w'.heap[g]? = some (.cells (nums .i64 ((L.take m).take k ++ (L.take m).drop (k + 1) ++ List.replicate (k + 1 - k) (0 : Int) ++ L.drop m)).toArray t (0, 0)) ∧ (∀ B v, B ≤ g → Below B v W → Below B v w') ∧ (∀ q, q ≠ g → w'.heap[q]? = W.heap[q]?) := by
  have hs : (L.take m).toArray.size = m := by simp; omega
  have hc := deleteInts g 0 4 k (L.take m).toArray W (holds_blk h m) (by rw [hs]; exact hm) (by decide) (by rw [hs]; exact hk)
  rw [hs] at hc
  refine hc.mono ?_
  rintro e w' ⟨rfl, q, rfl⟩
  have hl : ((L.take m).toArray.toList.take k ++ (L.take m).toArray.toList.drop (k + 1) ++ List.replicate (k + 1 - k) (0 : Int)).length = m := by
    simp
    omega
  refine ⟨rfl, ?_, fun B v hB hw => put_below hw hB q _, fun j hj => put_far q _ hj⟩
  have hp := put_blk h q _ (by rw [hl, hL]; exact hm)
  rw [hl] at hp
  exact hp
def impl_perm.f (a0 : Int) : Option (List Int) := if 0 ≤ a0 ∧ a0 < 24 then some (permL a0.toNat) else none
theorem results_arr {P : Program} {fn : Func} {p : Tmp} {ty : TypeId} (h : fn.results = #[.cell p ty]) (tmps : Array Value) (w : World) (g : Nat) (t : TypeId) (cs : Array Value) (fr : Nat × Nat) (d : TypeDesc)
    (hp : tmps.getD p undef = .pointer (some ⟨g, 0, none⟩)) (hg : w.heap[g]? = some (.cells cs t fr))
    (hu : P.underlying ty = some d) (hd : (match d with | .struct _ | .array _ _ => true | _ => false) = true) (hi : (P.info? ty).map (·.size) = some cs.size) :
    (results fn tmps).run P w = .ok (.agg cs) w := by
  have hp' : tmps[p]?.getD undef = .pointer (some ⟨g, 0, none⟩) := by simpa using hp
  simp [results, h, hp', asAddr, run_loadVar_row w g t ty cs fr d hg hu hd hi]
theorem run_index4 (cs : Array Value) (m : Nat) (x : Value) (hx : cs[m]? = some x) (hm : m < 4) (w : World) : (Instr.index 45 (.agg cs) (.int .i64 (m : Int))).run Try.prog w = .ok x w := by
  have hi : (m : Int) < 4 := by omega
  simp [Instr.index, asIntOf, part, Try.isAgg2, Try.sizeOf2, Try.underlying45, run_underlying, hx, hi, go_sem]
  exact fun h => absurd h (by omega)
theorem run_slice4 (g i : Nat) (hi : i ≤ 4) (W : World) : (Instr.sliceAt 45 (.pointer (some ⟨g, 0, none⟩)) none (some (.int .i64 (i : Int))) none).run Try.prog W = .ok (.slice (some ⟨g, 0, none⟩) i 4) W := by
  have hal : Try.prog.arrayLen 45 = 4 := by simp [Program.arrayLen, Try.underlying45]
  rw [run_sliceAt_array_h W 45 ⟨g, 0, none⟩ (by simp [Program.arrayLen, Program.elem, Try.underlying45]) .i64 (i : Int) (by omega) (by rw [hal]; omega)]
  simp only [hal]
  go_simp
theorem heap_allocs (w : World) (o0 o1 o2 o3 : Obj) (W : World) (hW : W = (((w.alloc o0).alloc o1).alloc o2).alloc o3) : Below w.heap.size w W ∧ W.heap[w.heap.size]? = some o0 ∧ W.heap[w.heap.size + 1]? = some o1 ∧ W.heap[w.heap.size + 1 + 1]? = some o2 ∧ W.heap[w.heap.size + 1 + 1 + 1]? = some o3 := by
  subst hW
  have s1 : ∀ (v : World) (o : Obj), (v.alloc o).heap.size = v.heap.size + 1 := fun v o => by show (v.heap.push o).size = _; simp
  have n1 : ∀ (v : World) (o : Obj) (k : Nat), k = v.heap.size → (v.alloc o).heap[k]? = some o := fun v o k hk => by rw [hk]; exact heap_alloc_new v o
  refine ⟨Below.alloc (Below.alloc (Below.alloc (Below.alloc (Below.refl _ _) (Nat.le_refl _) _) (by rw [s1]; omega) _) (by rw [s1, s1]; omega) _) (by rw [s1, s1, s1]; omega) _, ?_, ?_, ?_, ?_⟩
  · rw [Below.heap_alloc _ _ _ (by rw [s1, s1, s1]; omega), Below.heap_alloc _ _ _ (by rw [s1, s1]; omega), Below.heap_alloc _ _ _ (by rw [s1]; omega)]
    exact n1 _ _ _ rfl
  · rw [Below.heap_alloc _ _ _ (by rw [s1, s1, s1]; omega), Below.heap_alloc _ _ _ (by rw [s1, s1]; omega)]
    exact n1 _ _ _ (by rw [s1])
  · rw [Below.heap_alloc _ _ _ (by rw [s1, s1, s1]; omega)]
    exact n1 _ _ _ (by rw [s1, s1])
  · exact n1 _ _ _ (by rw [s1, s1, s1])
structure PermW (n i : Nat) (w wr : World) : Prop where
  b : Below w.heap.size w wr
  h0 : wr.heap[w.heap.size]? = some (.cells (nums .i64 [0, 0, 0, 0]).toArray 45 (0, 0))
  h1 : wr.heap[w.heap.size + 1]? = some (.cells (nums .i64 (pSt n i).2.2).toArray 45 (0, 0))
  h2 : wr.heap[w.heap.size + 1 + 1]? = some (.cells (nums .i64 (pSt n i).2.1).toArray 2 (0, 0))
  h3 : wr.heap[w.heap.size + 1 + 1 + 1]? = some (.cells (nums .i64 [6, 2, 1, 1]).toArray 2 (0, 0))
set_option maxHeartbeats 8000000 in
set_option maxRecDepth 100000 in
theorem impl_perm.calls (a0 : Int) (r : List Int) (w : World) (h : impl_perm.f a0 = some r) :
    Calls Try.prog 48 #[.int .i64 a0] w fun e w' => e = .returned (.agg (nums .i64 r).toArray) ∧ Below w.heap.size w w' := by
  unfold impl_perm.f at h
  by_cases hc : 0 ≤ a0 ∧ a0 < 24
  case neg => rw [if_neg hc] at h; exact absurd h (by simp)
  rw [if_pos hc] at h
  obtain rfl := Option.some.inj h
  obtain ⟨n, rfl⟩ : ∃ n : Nat, a0 = n := ⟨a0.toNat, by omega⟩
  have hn : n < 24 := by omega
  rw [Int.toNat_natCast]
  clear hc h
  have HN := Aside0.mk hn
  clear hn
  go_enter Try.func48, Try.ntmps48
  go_wp2
  go_loopg [0, 4, 11] 4 (fun gg s0 s4 s11 wr => ∃ i : Nat, gg + i = 4 ∧ s0 = .int .i64 (pSt n i).1 ∧ s4 = .slice (some ⟨w.heap.size + 1 + 1, 0, none⟩) (4 - i) 4 ∧ s11 = .int .i64 i ∧ Aside0 (PermW n i w wr))
  case atStart =>
    obtain ⟨hb, h0, h1, h2, h3⟩ := heap_allocs w _ _ _ _ _ rfl
    exact ⟨0, rfl, rfl, rfl, rfl, ⟨hb, h0, h1, h2, h3⟩⟩
  case round =>
    obtain ⟨i, hi, rfl, rfl, rfl, HW⟩ := hrel
    by_cases h4 : i = 4
    · subst h4
      have hp4 : ∀ j, j < 4 → wr.cell? ⟨w.heap.size + 1, j, none⟩ = some (.int .i64 (rd (permL n) j)) := fun j hj => by
        rw [blk_cell HW.out.h1 j]
        exact nums_at _ j (by have := (permL_ok n HN.out).1; unfold permL at this; omega)
      have a0 := hp4 0 (by decide)
      have a1 := hp4 1 (by decide)
      have a2 := hp4 2 (by decide)
      have a3 := hp4 3 (by decide)
      clear hp4
      have z0 : wr.cell? ⟨w.heap.size, 0, none⟩ = some (.int .i64 0) := (blk_cell HW.out.h0 0).trans rfl
      have z1 : wr.cell? ⟨w.heap.size, 1, none⟩ = some (.int .i64 0) := (blk_cell HW.out.h0 1).trans rfl
      have z2 : wr.cell? ⟨w.heap.size, 2, none⟩ = some (.int .i64 0) := (blk_cell HW.out.h0 2).trans rfl
      have z3 : wr.cell? ⟨w.heap.size, 3, none⟩ = some (.int .i64 0) := (blk_cell HW.out.h0 3).trans rfl
      have f0 := blk_frozen HW.out.h0 0
      have f1 := blk_frozen HW.out.h0 1
      have f2 := blk_frozen HW.out.h0 2
      have f3 := blk_frozen HW.out.h0 3
      go_wp2
      have hblk := blk_set (blk_set (blk_set (blk_set HW.out.h0 0 (.int .i64 (rd (permL n) 0))) 1 (.int .i64 (rd (permL n) 1))) 2 (.int .i64 (rd (permL n) 2))) 3 (.int .i64 (rd (permL n) 3))
      have hbel := (((HW.out.b.setCell (p := ⟨w.heap.size, 0, none⟩) (Nat.le_refl _) (.int .i64 (rd (permL n) 0))).setCell (p := ⟨w.heap.size, 1, none⟩) (Nat.le_refl _) (.int .i64 (rd (permL n) 1))).setCell (p := ⟨w.heap.size, 2, none⟩) (Nat.le_refl _) (.int .i64 (rd (permL n) 2))).setCell (p := ⟨w.heap.size, 3, none⟩) (Nat.le_refl _) (.int .i64 (rd (permL n) 3))
      refine bodyPost_ret (results_arr (p := 2) (ty := 45) rfl _ _ w.heap.size _ _ _ _ rfl hblk Try.underlying45 rfl (by kernel_rfl)) rfl ⟨?_, hbel⟩
      have hl := (permL_ok n HN.out).1
      generalize permL n = q at hl ⊢
      match q, hl with
      | [x0, x1, x2, x3], _ => rfl
    · have hd : decide ((i : Int) < 4) = true := decide_eq_true (by omega)
      have hi4 : i < 4 := by omega
      have hi4t : ((i : Int) < 4) = True := eq_true (by omega)
      obtain ⟨⟨p0, p1⟩, ⟨k0, k1⟩, hL, hO⟩ := pSt_ok n HN.out i hi4
      have hSt : pSt n (i + 1) = ((pSt n i).1.tmod (rd [6, 2, 1, 1] i), (((pSt n i).2.1.take (4 - i)).take ((pSt n i).1.tdiv (rd [6, 2, 1, 1] i)).toNat ++ ((pSt n i).2.1.take (4 - i)).drop (((pSt n i).1.tdiv (rd [6, 2, 1, 1] i)).toNat + 1) ++ List.replicate (((pSt n i).1.tdiv (rd [6, 2, 1, 1] i)).toNat + 1 - ((pSt n i).1.tdiv (rd [6, 2, 1, 1] i)).toNat) (0 : Int)) ++ (pSt n i).2.1.drop (4 - i), (pSt n i).2.2.set i (rd (pSt n i).2.1 ((pSt n i).1.tdiv (rd [6, 2, 1, 1] i)))) := rfl
      have hb : rd [6, 2, 1, 1] (i : Int) = 6 ∨ rd [6, 2, 1, 1] (i : Int) = 2 ∨ rd [6, 2, 1, 1] (i : Int) = 1 := (by decide : ∀ i < 4, rd [6, 2, 1, 1] ((i : Nat) : Int) = 6 ∨ rd [6, 2, 1, 1] ((i : Nat) : Int) = 2 ∨ rd [6, 2, 1, 1] ((i : Nat) : Int) = 1) i hi4
      have hcb : wr.cell? ⟨w.heap.size + 1 + 1 + 1, i, none⟩ = some (.int .i64 (rd [6, 2, 1, 1] i)) := by rw [blk_cell HW.out.h3 i]; exact nums_at _ i hi4
      have HS := Aside0.mk hSt
      clear hSt
      have h1_ := HW.out.h1
      have h2_ := HW.out.h2
      generalize rd [6, 2, 1, 1] (i : Int) = b at *
      generalize (pSt n i).1 = p at *
      generalize (pSt n i).2.1 = L at *
      generalize (pSt n i).2.2 = O at *
      obtain ⟨k, hk⟩ : ∃ k : Nat, p.tdiv b = k := ⟨(p.tdiv b).toNat, by omega⟩
      rw [hk] at k0 k1 HS
      rw [Int.toNat_natCast] at HS
      have kL : k < 4 - i := by omega
      have q1 : (k < 4 - i) = True := eq_true kL
      have hcl : wr.cell? ⟨w.heap.size + 1 + 1, k, none⟩ = some (.int .i64 (rd L k)) := by rw [blk_cell h2_ k]; exact nums_at L k (by omega)
      have hco : wr.cell? ⟨w.heap.size + 1, i, none⟩ = some (.int .i64 (rd O i)) := by rw [blk_cell h1_ i]; exact nums_at O i (by omega)
      have hfo := blk_frozen h1_ i
      have w1 : IntKind.i64.wrap (p.tdiv b) = (k : Int) := by rw [hk, i64_w]; unfold wrap64; omega
      have w2 : IntKind.i64.wrap ((k : Int) + 1) = ((k + 1 : Nat) : Int) := by rw [i64_w]; unfold wrap64; omega
      have w3 : IntKind.i64.wrap ((i : Int) + 1) = ((i + 1 : Nat) : Int) := by rw [i64_w]; unfold wrap64; omega
      have b0 : (b = 0) = False := eq_false (by omega)
      have HO := Aside0.mk hO
      have HL := Aside0.mk hL
      have HK := Aside0.mk kL
      have H1 := Aside0.mk h1_
      have H2 := Aside0.mk h2_
      have HI := Aside0.mk hi
      have HK4 := Aside0.mk hi4
      clear hO hL kL h1_ h2_ hi hi4 h4 hk k0 k1 p0 p1 hb
      go_wp2_with (go_at_call 69; refine (del_blk (w.heap.size + 1 + 1) _ L (4 - i) k _ ((Below.heap_setCell wr _ _ _ (by show w.heap.size + 1 + 1 ≠ w.heap.size + 1; omega)).trans H2.out) HL.out (Nat.sub_le _ _) HK.out).mono ?_; rintro e w5 ⟨rfl, h2', hbel', hfar'⟩)
      go_roundg (gk - 1)
      case measure => have := HI.out; have := HK4.out; omega
      case rel =>
        have hi_ := HI.out
        have hk_ := HK4.out
        refine ⟨i + 1, by omega, by rw [HS.out], by rw [show 4 - i - 1 = 4 - (i + 1) by omega], rfl, ⟨?_, ?_, ?_, ?_, ?_⟩⟩
        · exact hbel' _ _ (by omega) (HW.out.b.setCell (by show w.heap.size ≤ w.heap.size + 1; omega) _)
        · exact (hfar' _ (by omega)).trans ((Below.heap_setCell wr _ _ _ (by show w.heap.size ≠ w.heap.size + 1; omega)).trans HW.out.h0)
        · rw [HS.out]
          exact ((hfar' _ (by omega)).trans (blk_set H1.out i _)).trans (by rw [nums_set])
        · rw [HS.out]
          exact h2'
        · exact (hfar' _ (by omega)).trans ((Below.heap_setCell wr _ _ _ (by show w.heap.size + 1 + 1 + 1 ≠ w.heap.size + 1; omega)).trans HW.out.h3)


/-! ### impl_ApplyPerm4: function 16 -/
theorem isPerm_f (a : Int) : impl_isPerm.f a = some (decide (0 ≤ a ∧ a < 24)) := by
  unfold impl_isPerm.f impl_inRange.f
  by_cases h : 0 ≤ a
  · rw [if_pos h]
    simp only [Option.bind_some]
    congr 1
    exact decide_eq_decide.2 ⟨fun h1 => ⟨h, by omega⟩, fun h1 => by omega⟩
  · rw [if_neg h]
    simp only [Option.bind_some]
    congr 1
    exact (decide_eq_false fun h1 => h h1.1).symm
theorem isVertex_f (a : Int) : impl_isVertex.f a = some (decide (0 ≤ a ∧ a < 4)) := by
  unfold impl_isVertex.f impl_inRange.f
  by_cases h : 0 ≤ a
  · rw [if_pos h]
    simp only [Option.bind_some]
    congr 1
    exact decide_eq_decide.2 ⟨fun h1 => ⟨h, by omega⟩, fun h1 => by omega⟩
  · rw [if_neg h]
    simp only [Option.bind_some]
    congr 1
    exact (decide_eq_false fun h1 => h h1.1).symm
def impl_ApplyPerm4.f (a0 a1 : Int) : Option Int := if 0 ≤ a0 ∧ a0 < 24 then (if 0 ≤ a1 ∧ a1 < 4 then some (rd (permL a0.toNat) a1) else some (-1)) else some (-1)
set_option maxHeartbeats 8000000 in
set_option maxRecDepth 100000 in
theorem impl_ApplyPerm4.calls (a0 a1 : Int) (r : Int) (w : World) (h : impl_ApplyPerm4.f a0 a1 = some r) :
    Calls Try.prog 16 #[.int .i64 a0, .int .i64 a1] w fun e w' => e = .returned (.int .i64 r) ∧ Below w.heap.size w w' := by
  unfold impl_ApplyPerm4.f at h
  by_cases hp : 0 ≤ a0 ∧ a0 < 24
  · rw [if_pos hp] at h
    have CP := Aside0.mk (fun W => impl_isPerm.calls a0 true W (by rw [isPerm_f, decide_eq_true hp]))
    have CF := Aside0.mk (fun W => impl_perm.calls a0 (permL a0.toNat) W (by unfold impl_perm.f; rw [if_pos hp]))
    by_cases hk : 0 ≤ a1 ∧ a1 < 4
    · rw [if_pos hk] at h
      obtain rfl := Option.some.inj h
      have CV := Aside0.mk (fun W => impl_isVertex.calls a1 true W (by rw [isVertex_f, decide_eq_true hk]))
      have hl := (permL_ok a0.toNat (by omega)).1
      obtain ⟨m, rfl⟩ : ∃ m : Nat, a1 = m := ⟨a1.toNat, by omega⟩
      have hm : m < 4 := by omega
      generalize permL a0.toNat = q at hl CF ⊢
      have hx := nums_at q m (by omega)
      have hs : (nums .i64 q).toArray.size = 4 := by simp [nums, hl]
      generalize (nums .i64 q).toArray = aq at hx hs CF
      clear h hp hk hl
      have hri := run_index4 aq m _ hx hm
      go_enter Try.func16, Try.ntmps16
      go_wp2_with (first
        | (go_at_call 46; refine (CP.out _).mono ?_; rintro e w1 ⟨rfl, ⟨n1, rfl⟩⟩)
        | (go_at_call 47; refine (CV.out _).mono ?_; rintro e w2 ⟨rfl, ⟨n2, rfl⟩⟩)
        | (go_at_call 48; refine (CF.out _).mono ?_; rintro e w3 ⟨rfl, hb3⟩))
      go_ret
      exact ⟨rfl, below_then (pw_below_drewN (Below.refl _ _) (n1 + n2)) (Nat.le_refl _) hb3⟩
    · rw [if_neg hk] at h
      obtain rfl := Option.some.inj h
      have CV := Aside0.mk (fun W => impl_isVertex.calls a1 false W (by rw [isVertex_f, decide_eq_false hk]))
      clear h hp hk CF
      go_enter Try.func16, Try.ntmps16
      go_wp2_with (first
        | (go_at_call 46; refine (CP.out _).mono ?_; rintro e w1 ⟨rfl, ⟨n1, rfl⟩⟩)
        | (go_at_call 47; refine (CV.out _).mono ?_; rintro e w2 ⟨rfl, ⟨n2, rfl⟩⟩))
      go_ret
      exact ⟨rfl, pw_below_drewN (Below.refl _ _) (n1 + n2)⟩
  · rw [if_neg hp] at h
    obtain rfl := Option.some.inj h
    have CP := Aside0.mk (fun W => impl_isPerm.calls a0 false W (by rw [isPerm_f, decide_eq_false hp]))
    clear h hp
    go_enter Try.func16, Try.ntmps16
    go_wp2_with (go_at_call 46; refine (CP.out _).mono ?_; rintro e w1 ⟨rfl, ⟨n1, rfl⟩⟩)
    go_ret
    exact ⟨rfl, pw_below_drewN (Below.refl _ _) n1⟩


/-! ### impl_signOf: function 50 -/
/-- The sign, the numbers ahead of one image looked at up to j. -/
def sgIn (q : List Int) (x : Int) (o : Int) : Nat → Int
  | 0 => o
  | j + 1 => if rd q j > x then wrap64 (-(sgIn q x o j)) else sgIn q x o j
def sgOut (q : List Int) : Nat → Int
  | 0 => 1
  | i + 1 => sgIn q (rd q i) (sgOut q i) i
def impl_signOf.f (a0 : Int) : Option Int := if 0 ≤ a0 ∧ a0 < 24 then some (sgOut (permL a0.toNat) 4) else none
theorem perm_lit (a0 : Int) (ha : 0 ≤ a0 ∧ a0 < 24) : ∃ x0 x1 x2 x3, permL a0.toNat = [x0, x1, x2, x3] ∧ ∀ W, Calls Try.prog 48 #[.int .i64 a0] W fun e w' => e = .returned (.agg #[.int .i64 x0, .int .i64 x1, .int .i64 x2, .int .i64 x3]) ∧ Below W.heap.size W w' := by
  have hl := (permL_ok a0.toNat (by omega)).1
  have hc := fun W => impl_perm.calls a0 (permL a0.toNat) W (by unfold impl_perm.f; rw [if_pos ha])
  generalize permL a0.toNat = q at hl hc ⊢
  match q, hl with
  | [x0, x1, x2, x3], _ => exact ⟨x0, x1, x2, x3, rfl, hc⟩
theorem HB3_of (w w3 : World) (hb : Below w.heap.size w w3) (cs : Array Value) (t : Nat) : Below w.heap.size w (w3.alloc (.cells cs t (0, 0))) ∧ (w3.alloc (.cells cs t (0, 0))).heap[w3.heap.size]? = some (.cells cs t (0, 0)) := ⟨below_alloc hb _, heap_alloc_new w3 _⟩
set_option maxHeartbeats 8000000 in
set_option maxRecDepth 100000 in
theorem impl_signOf.calls (a0 : Int) (r : Int) (w : World) (h : impl_signOf.f a0 = some r) :
    Calls Try.prog 50 #[.int .i64 a0] w fun e w' => e = .returned (.int .i64 r) ∧ Below w.heap.size w w' := by
  unfold impl_signOf.f at h
  by_cases hp : 0 ≤ a0 ∧ a0 < 24
  case neg => rw [if_neg hp] at h; exact absurd h (by simp)
  rw [if_pos hp] at h
  obtain rfl := Option.some.inj h
  obtain ⟨x0, x1, x2, x3, hq, hc⟩ := perm_lit a0 hp
  have CF := Aside0.mk hc
  obtain ⟨q, hq'⟩ : ∃ q, q = permL a0.toNat := ⟨_, rfl⟩
  rw [← hq'] at hq ⊢
  have HQ := Aside0.mk hq
  clear h hp hc hq hq'
  go_enter Try.func50, Try.ntmps50
  go_wp2_with (go_at_call 48; refine (CF.out _).mono ?_; rintro e w3 ⟨rfl, hb3⟩)
  have hb3' := HB3_of w w3 hb3 #[.int .i64 x0, .int .i64 x1, .int .i64 x2, .int .i64 x3] 45
  obtain ⟨W, hW⟩ : ∃ W, W = w3.alloc (Obj.cells #[.int .i64 x0, .int .i64 x1, .int .i64 x2, .int .i64 x3] 45) := ⟨_, rfl⟩
  have HB := Aside0.mk hb3'.1
  have hblk : W.heap[w3.heap.size]? = some (.cells (nums .i64 q).toArray 45 (0, 0)) := by rw [hW, HQ.out]; exact hb3'.2
  rw [← hW] at HB ⊢
  have hat : ∀ j, j < 4 → W.cell? ⟨w3.heap.size, j, none⟩ = some (.int .i64 (rd q j)) := fun j hj => by
    rw [blk_cell hblk j]
    exact nums_at _ j (by rw [HQ.out]; exact hj)
  have HA := Aside0.mk hat
  have hix : ∀ i, i < 4 → ∀ w, (Instr.index 45 (.agg #[.int .i64 x0, .int .i64 x1, .int .i64 x2, .int .i64 x3]) (.int .i64 ((i : Nat) : Int))).run Try.prog w = .ok (.int .i64 (rd q i)) w := fun i hi w =>
    run_index4 _ i _ (by have := nums_at q i (by rw [HQ.out]; exact hi); rw [HQ.out] at this ⊢; exact this) hi w
  have HX := Aside0.mk hix
  clear hb3 hb3' hW hblk hat hix CF
  go_loopg [4, 12] 4 (fun gg s4 s12 wr => ∃ i : Nat, gg + i = 4 ∧ s4 = .int .i64 (sgOut q i) ∧ s12 = .int .i64 i ∧ wr = W)
  case atStart => exact ⟨0, rfl, rfl, rfl, rfl⟩
  case round =>
    obtain ⟨i, hi, rfl, rfl, rfl⟩ := hrel
    obtain ⟨g0, hg0⟩ : ∃ g0, g0 = gk := ⟨_, rfl⟩
    subst hg0
    by_cases h4 : i = 4
    · subst h4
      go_wp2
      go_ret
      exact ⟨rfl, HB.out⟩
    · have hi4 : i < 4 := by omega
      have hd : decide ((i : Int) < 4) = true := decide_eq_true (by omega)
      have hi4t : ((i : Int) < 4) = True := eq_true (by omega)
      have hi4n : (i ≤ 4) = True := eq_true (by omega)
      have hxi := HX.out i hi4
      have w3_ : IntKind.i64.wrap ((i : Int) + 1) = ((i + 1 : Nat) : Int) := by rw [i64_w]; unfold wrap64; omega
      have HI := Aside0.mk hi
      have HI4 := Aside0.mk hi4
      have hsl := run_slice4 w3.heap.size i (Nat.le_of_lt hi4)
      clear hi h4 hi4
      go_wp2
      go_loopg [4, 19] i (fun g2 s4 s19 wr2 => ∃ j : Nat, g2 + j = i ∧ s4 = .int .i64 (sgIn q (rd q i) (sgOut q i) j) ∧ s19 = .int .i64 j ∧ wr2 = wr)
      case atStart => exact ⟨0, rfl, rfl, rfl, rfl⟩
      case round =>
        obtain ⟨j, hj, rfl, rfl, rfl⟩ := hrel
        by_cases hji : j = i
        · subst hji
          go_wp2
          go_roundg (g0 - 1)
          case measure => have := HI.out; have := HI4.out; omega
          case rel => exact ⟨j + 1, by have := HI.out; have := HI4.out; omega, rfl, rfl, rfl⟩
        · have hji2 : j < i := by omega
          have hdj : decide ((j : Int) < (i : Int)) = true := decide_eq_true (by omega)
          have hjt : ((j : Int) < (i : Int)) = True := eq_true (by omega)
          have hjn : (j < i) = True := eq_true hji2
          have hcj := HA.out j (by have := HI4.out; omega)
          have w4_ : IntKind.i64.wrap ((j : Int) + 1) = ((j + 1 : Nat) : Int) := by rw [i64_w]; have := HI4.out; unfold wrap64; omega
          by_cases hgt : rd q j > rd q i
          · have hgd : decide (rd q (j : Int) > rd q (i : Int)) = true := decide_eq_true hgt
            have HJ := Aside0.mk hj
            have HJI := Aside0.mk hji2
            have hs : sgIn q (rd q i) (sgOut q i) (j + 1) = wrap64 (-(sgIn q (rd q i) (sgOut q i) j)) := if_pos hgt
            have HS := Aside0.mk hs
            clear hj hji hji2 hgt hs
            go_wp2
            go_roundg (gk - 1)
            case measure => have := HJ.out; have := HJI.out; omega
            case rel => exact ⟨j + 1, by have := HJ.out; have := HJI.out; omega, by rw [HS.out], rfl, rfl⟩
          · have hgd : decide (rd q (j : Int) > rd q (i : Int)) = false := decide_eq_false hgt
            have HJ := Aside0.mk hj
            have HJI := Aside0.mk hji2
            have hs : sgIn q (rd q i) (sgOut q i) (j + 1) = sgIn q (rd q i) (sgOut q i) j := if_neg hgt
            have HS := Aside0.mk hs
            clear hj hji hji2 hgt hs
            go_wp2
            go_roundg (gk - 1)
            case measure => have := HJ.out; have := HJI.out; omega
            case rel => exact ⟨j + 1, by have := HJ.out; have := HJI.out; omega, by rw [HS.out], rfl, rfl⟩


/-! ### impl_indexOf: function 53 -/
/-- One image, less the smaller ones ahead of it. -/
def ixIn (q : List Int) (i : Nat) : Nat → Int
  | 0 => rd q i
  | j + 1 => if rd q j < rd q i then wrap64 (ixIn q i j - 1) else ixIn q i j
def ixOut (q : List Int) : Nat → Int
  | 0 => 0
  | i + 1 => wrap64 (ixOut q i + wrap64 (ixIn q i i * rd [6, 2, 1, 1] i))
def impl_indexOf.f (q : List Int) : Option Int := if q.length = 4 then some (ixOut q 4) else none
theorem heap_allocs2 (w : World) (o0 o1 : Obj) (W : World) (hW : W = (w.alloc o0).alloc o1) : Below w.heap.size w W ∧ W.heap[w.heap.size]? = some o0 ∧ W.heap[w.heap.size + 1]? = some o1 := by
  subst hW
  have s1 : ∀ (v : World) (o : Obj), (v.alloc o).heap.size = v.heap.size + 1 := fun v o => by show (v.heap.push o).size = _; simp
  have n1 : ∀ (v : World) (o : Obj) (k : Nat), k = v.heap.size → (v.alloc o).heap[k]? = some o := fun v o k hk => by rw [hk]; exact heap_alloc_new v o
  refine ⟨Below.alloc (Below.alloc (Below.refl _ _) (Nat.le_refl _) _) (by rw [s1]; omega) _, ?_, ?_⟩
  · rw [Below.heap_alloc _ _ _ (by rw [s1]; omega)]
    exact n1 _ _ _ rfl
  · exact n1 _ _ _ (by rw [s1])
set_option maxHeartbeats 8000000 in
set_option maxRecDepth 100000 in
theorem impl_indexOf.calls (q : List Int) (r : Int) (w : World) (h : impl_indexOf.f q = some r) :
    Calls Try.prog 53 #[.agg (nums .i64 q).toArray] w fun e w' => e = .returned (.int .i64 r) ∧ Below w.heap.size w w' := by
  unfold impl_indexOf.f at h
  by_cases hp : q.length = 4
  case neg => rw [if_neg hp] at h; exact absurd h (by simp)
  rw [if_pos hp] at h
  obtain rfl := Option.some.inj h
  obtain ⟨x0, x1, x2, x3, hq⟩ : ∃ x0 x1 x2 x3, q = [x0, x1, x2, x3] := by
    match q, hp with
    | [x0, x1, x2, x3], _ => exact ⟨x0, x1, x2, x3, rfl⟩
  rw [show (nums .i64 q).toArray = #[.int .i64 x0, .int .i64 x1, .int .i64 x2, .int .i64 x3] by rw [hq]; rfl]
  have HQ := Aside0.mk hq
  clear h hp hq
  go_enter Try.func53, Try.ntmps53
  go_wp2
  obtain ⟨W, hW⟩ : ∃ W, W = (w.alloc (.cells #[.int .i64 x0, .int .i64 x1, .int .i64 x2, .int .i64 x3] 45 (0, 0))).alloc (.cells #[.int .i64 6, .int .i64 2, .int .i64 1, .int .i64 1] 2 (0, 0)) := ⟨_, rfl⟩
  obtain ⟨hb, h0, h1⟩ := heap_allocs2 w _ _ W hW
  rw [← hW]
  have HB := Aside0.mk hb
  have hat : ∀ j, j < 4 → W.cell? ⟨w.heap.size, j, none⟩ = some (.int .i64 (rd q j)) := fun j hj => by
    rw [blk_cell h0 j]
    exact (by rw [HQ.out]; rfl : (#[.int .i64 x0, .int .i64 x1, .int .i64 x2, .int .i64 x3] : Array Value) = (nums .i64 q).toArray) ▸ nums_at q j (by rw [HQ.out]; exact hj)
  have hab : ∀ j, j < 4 → W.cell? ⟨w.heap.size + 1, j, none⟩ = some (.int .i64 (rd [6, 2, 1, 1] j)) := fun j hj => by
    rw [blk_cell h1 j]
    exact nums_at [6, 2, 1, 1] j hj
  have HA := Aside0.mk hat
  have HAB := Aside0.mk hab
  clear hb h0 h1 hW hat hab
  go_loopg [3, 11] 4 (fun gg s3 s11 wr => ∃ i : Nat, gg + i = 4 ∧ s3 = .int .i64 (ixOut q i) ∧ s11 = .int .i64 i ∧ wr = W)
  case atStart => exact ⟨0, rfl, rfl, rfl, rfl⟩
  case round =>
    obtain ⟨i, hi, rfl, rfl, rfl⟩ := hrel
    obtain ⟨g0, hg0⟩ : ∃ g0, g0 = gk := ⟨_, rfl⟩
    subst hg0
    by_cases h4 : i = 4
    · subst h4
      go_wp2
      go_ret
      exact ⟨rfl, HB.out⟩
    · have hi4 : i < 4 := by omega
      have hd : decide ((i : Int) < 4) = true := decide_eq_true (by omega)
      have hi4t : ((i : Int) < 4) = True := eq_true (by omega)
      have hi4u : (i < 4) = True := eq_true (by omega)
      have hi4n : (i ≤ 4) = True := eq_true (by omega)
      have hcb := HAB.out i hi4
      have hci := HA.out i hi4
      have hsl := run_slice4 w.heap.size i (Nat.le_of_lt hi4)
      have w3_ : IntKind.i64.wrap ((i : Int) + 1) = ((i + 1 : Nat) : Int) := by rw [i64_w]; unfold wrap64; omega
      have HI := Aside0.mk hi
      have HI4 := Aside0.mk hi4
      clear hi h4 hi4
      go_wp2
      go_loopg [6, 22] i (fun g2 s6 s22 wr2 => ∃ j : Nat, g2 + j = i ∧ s6 = .int .i64 (ixIn q i j) ∧ s22 = .int .i64 j ∧ wr2 = wr)
      case atStart => exact ⟨0, by omega, rfl, rfl, rfl⟩
      case round =>
        obtain ⟨j, hj, rfl, rfl, rfl⟩ := hrel
        by_cases hji : j = i
        · subst hji
          go_wp2
          go_roundg (g0 - 1)
          case measure => have := HI.out; have := HI4.out; omega
          case rel => exact ⟨j + 1, by have := HI.out; have := HI4.out; omega, rfl, rfl, rfl⟩
        · have hji2 : j < i := by omega
          have hdj : decide ((j : Int) < (i : Int)) = true := decide_eq_true (by omega)
          have hjt : ((j : Int) < (i : Int)) = True := eq_true (by omega)
          have hjn : (j < i) = True := eq_true hji2
          have hcj := HA.out j (by have := HI4.out; omega)
          have w4_ : IntKind.i64.wrap ((j : Int) + 1) = ((j + 1 : Nat) : Int) := by rw [i64_w]; have := HI4.out; unfold wrap64; omega
          by_cases hgt : rd q j < rd q i
          · have hgd : decide (rd q (j : Int) < rd q (i : Int)) = true := decide_eq_true hgt
            have HJ := Aside0.mk hj
            have HJI := Aside0.mk hji2
            have hs : ixIn q i (j + 1) = wrap64 (ixIn q i j - 1) := if_pos hgt
            have HS := Aside0.mk hs
            clear hj hji hji2 hgt hs
            go_wp2
            go_roundg (gk - 1)
            case measure => have := HJ.out; have := HJI.out; omega
            case rel => exact ⟨j + 1, by have := HJ.out; have := HJI.out; omega, by rw [HS.out], rfl, rfl⟩
          · have hgd : decide (rd q (j : Int) < rd q (i : Int)) = false := decide_eq_false hgt
            have HJ := Aside0.mk hj
            have HJI := Aside0.mk hji2
            have hs : ixIn q i (j + 1) = ixIn q i j := if_neg hgt
            have HS := Aside0.mk hs
            clear hj hji hji2 hgt hs
            go_wp2
            go_roundg (gk - 1)
            case measure => have := HJ.out; have := HJI.out; omega
            case rel => exact ⟨j + 1, by have := HJ.out; have := HJI.out; omega, by rw [HS.out], rfl, rfl⟩


/-! ### impl_invert: function 57 -/
def inL (q : List Int) : Nat → List Int
  | 0 => [0, 0, 0, 0]
  | i + 1 => (inL q i).set (rd q i).toNat i
theorem inL_length (q : List Int) : ∀ i, (inL q i).length = 4
  | 0 => rfl
  | i + 1 => by unfold inL; rw [List.length_set, inL_length q i]
theorem rd_perm (n : Nat) (hn : n < 24) (i : Nat) (hi : i < 4) : 0 ≤ rd (permL n) i ∧ rd (permL n) i < 4 := by
  refine (permL_ok n hn).2 _ ?_
  have := (permL_ok n hn).1
  simp [rd, List.getD, List.getElem?_eq_getElem (show i < (permL n).length by omega)]
def impl_invert.f (a0 : Int) : Option Int := if 0 ≤ a0 ∧ a0 < 24 then some (ixOut (inL (permL a0.toNat) 4) 4) else none
structure InvW (q : List Int) (i : Nat) (w wr : World) : Prop where
  b : Below w.heap.size w wr
  h0 : wr.heap[w.heap.size]? = some (.cells (nums .i64 (inL q i)).toArray 45 (0, 0))
set_option maxHeartbeats 8000000 in
set_option maxRecDepth 100000 in
theorem impl_invert.calls (a0 : Int) (r : Int) (w : World) (h : impl_invert.f a0 = some r) :
    Calls Try.prog 57 #[.int .i64 a0] w fun e w' => e = .returned (.int .i64 r) ∧ Below w.heap.size w w' := by
  unfold impl_invert.f at h
  by_cases hp : 0 ≤ a0 ∧ a0 < 24
  case neg => rw [if_neg hp] at h; exact absurd h (by simp)
  rw [if_pos hp] at h
  obtain rfl := Option.some.inj h
  obtain ⟨x0, x1, x2, x3, hq, hc⟩ := perm_lit a0 hp
  have CF := Aside0.mk hc
  have hrd := rd_perm a0.toNat (by omega)
  obtain ⟨q, hq'⟩ : ∃ q, q = permL a0.toNat := ⟨_, rfl⟩
  rw [← hq'] at hq hrd ⊢
  have HQ := Aside0.mk hq
  have HR := Aside0.mk hrd
  have hix : ∀ i, i < 4 → ∀ w, (Instr.index 45 (.agg #[.int .i64 x0, .int .i64 x1, .int .i64 x2, .int .i64 x3]) (.int .i64 ((i : Nat) : Int))).run Try.prog w = .ok (.int .i64 (rd q i)) w := fun i hi w =>
    run_index4 _ i _ (by have := nums_at q i (by rw [HQ.out]; exact hi); rw [HQ.out] at this ⊢; exact this) hi w
  have HX := Aside0.mk hix
  obtain ⟨w0, hw0⟩ : ∃ w0, w0 = w.alloc (.cells #[.int .i64 0, .int .i64 0, .int .i64 0, .int .i64 0] 45 (0, 0)) := ⟨_, rfl⟩
  obtain ⟨hb0, hz0⟩ := HB3_of w w (Below.refl _ _) #[.int .i64 0, .int .i64 0, .int .i64 0, .int .i64 0] 45
  rw [← hw0] at hb0 hz0
  have hsz : w.heap.size ≤ w0.heap.size := hb0.size
  have HB0 := Aside0.mk hb0
  have HZ0 := Aside0.mk hz0
  have HSZ := Aside0.mk hsz
  have HW0 := Aside0.mk hw0
  clear h hp hc hq hq' hrd hix hb0 hz0 hsz hw0
  go_enter Try.func57, Try.ntmps57
  go_wp2_with (go_at_call 48; (try rw [← HW0.out]); refine (CF.out _).mono ?_; rintro e w3 ⟨rfl, hb3⟩)
  have HI0 : Aside0 (InvW q 0 w w3) := ⟨⟨below_then HB0.out HSZ.out hb3, (blk_below HZ0.out hb3).trans rfl⟩⟩
  clear hb3 HB0 HZ0 HSZ HW0 CF
  go_loopg [8] 4 (fun gg s8 wr => ∃ i : Nat, gg + i = 4 ∧ s8 = .int .i64 i ∧ Aside0 (InvW q i w wr))
  case atStart => exact ⟨0, rfl, rfl, HI0⟩
  case round =>
    clear HI0
    obtain ⟨i, hi, rfl, HW⟩ := hrel
    by_cases h4 : i = 4
    · subst h4
      have hl := inL_length q 4
      have hcc : ∀ j, j < 4 → wr.cell? ⟨w.heap.size, j, none⟩ = some (.int .i64 (rd (inL q 4) j)) := fun j hj => by
        rw [blk_cell HW.out.h0 j]
        exact nums_at _ j (by omega)
      have a0_ := hcc 0 (by decide)
      have a1_ := hcc 1 (by decide)
      have a2_ := hcc 2 (by decide)
      have a3_ := hcc 3 (by decide)
      have CI := Aside0.mk (fun W => impl_indexOf.calls (inL q 4) (ixOut (inL q 4) 4) W (by unfold impl_indexOf.f; rw [if_pos hl]))
      have hla : (nums .i64 (inL q 4)).toArray = #[.int .i64 (rd (inL q 4) 0), .int .i64 (rd (inL q 4) 1), .int .i64 (rd (inL q 4) 2), .int .i64 (rd (inL q 4) 3)] := by
        generalize inL q 4 = m at hl
        match m, hl with
        | [y0, y1, y2, y3], _ => rfl
      rw [hla] at CI
      clear hcc hl hla
      go_wp2_with (go_at_call 53; refine (CI.out _).mono ?_; rintro e w5 ⟨rfl, hb5⟩)
      go_ret
      exact ⟨rfl, below_then HW.out.b HW.out.b.size hb5⟩
    · have hi4 : i < 4 := by omega
      have hd : decide ((i : Int) < 4) = true := decide_eq_true (by omega)
      have hi4t : ((i : Int) < 4) = True := eq_true (by omega)
      have hxi := HX.out i hi4
      obtain ⟨x, hx⟩ : ∃ x : Nat, rd q i = x := ⟨(rd q i).toNat, by have := (HR.out i hi4).1; omega⟩
      have hx4 : x < 4 := by have := (HR.out i hi4).2; omega
      rw [hx] at hxi
      have hs : inL q (i + 1) = (inL q i).set x i := by show (inL q i).set (rd q i).toNat i = _; rw [hx, Int.toNat_natCast]
      have hcx : wr.cell? ⟨w.heap.size, x, none⟩ = some (.int .i64 (rd (inL q i) x)) := by rw [blk_cell HW.out.h0 x]; exact nums_at _ x (by rw [inL_length]; exact hx4)
      have hfx := blk_frozen HW.out.h0 x
      have hx4t : ((x : Int) < 4) = True := eq_true (by omega)
      have w3_ : IntKind.i64.wrap ((i : Int) + 1) = ((i + 1 : Nat) : Int) := by rw [i64_w]; unfold wrap64; omega
      have HI := Aside0.mk hi
      have HI4 := Aside0.mk hi4
      have HS := Aside0.mk hs
      clear hi h4 hi4 hs hx hx4
      go_wp2
      go_roundg (gk - 1)
      case measure => have := HI.out; have := HI4.out; omega
      case rel =>
        refine ⟨i + 1, by have := HI.out; have := HI4.out; omega, rfl, ⟨HW.out.b.setCell (Nat.le_refl _) _, ?_⟩⟩
        rw [HS.out]
        exact (blk_set HW.out.h0 x _).trans (by rw [nums_set])


/-! ### slices_IndexFunc_int64_int64: function 72 -/
/-- The first place at which p holds, counted from i on, or -1. -/
def idxOf {α : Type} (p : α → Bool) : List α → Int → Int
  | [], _ => -1
  | x :: r, i => if p x = true then i else idxOf p r (i + 1)
theorem idxOf_any {α : Type} (p : α → Bool) : ∀ (l : List α) (i : Int), 0 ≤ i → decide (0 ≤ idxOf p l i) = l.any p
  | [], i, _ => by simp [idxOf]
  | x :: r, i, h => by
    unfold idxOf
    by_cases hp : p x = true
    · simp [hp, h]
    · rw [if_neg hp, idxOf_any p r (i + 1) (by omega)]
      simp [hp]
theorem rd_drop (l : List Int) (k : Nat) (h : k < l.length) : l.drop k = rd l k :: l.drop (k + 1) := by
  rw [List.drop_eq_getElem_cons h]
  simp [rd, List.getD, List.getElem?_eq_getElem h]
theorem rd_mem (l : List Int) (k : Nat) (h : k < l.length) : rd l k ∈ l := by
  simp [rd, List.getD, List.getElem?_eq_getElem h]
set_option maxHeartbeats 8000000 in
set_option maxRecDepth 100000 in
theorem indexInts (g : Nat) (lb : Array Value) (eg : ∀ args W, (callFunc g args).run Try.prog W = .ok (.enter g args) W)
    (p : Int → Bool) (A0 : Option Addr) (c0 : Nat) (l0 : List Int) (w : World) (hr0 : Kd.C (Kd.int .i64) w A0 l0.length l0)
    (hp : ∀ (W : World) (x : Int), x ∈ l0 → Below w.heap.size w W → Calls Try.prog g (#[.int .i64 x] ++ lb) W fun e w' => e = .returned (.bool (p x)) ∧ Below W.heap.size W w') :
    Calls Try.prog 72 #[.slice A0 l0.length c0, .func (.func g) #[] lb] w fun e w' => e = .returned (.int .i64 (idxOf p l0 0)) ∧ Below w.heap.size w w' := by
  have hbig := hr0.2.1
  have HR0 := Aside0.mk hr0
  have HP := Aside0.mk hp
  clear hr0 hp
  go_enter Try.func72, Try.ntmps72
  go_wp2
  go_loopg [5, 8] l0.length (fun gg _ s8 wr => ∃ kk : Nat, kk ≤ l0.length ∧ l0.length - kk ≤ gg ∧ s8 = .int .i64 kk ∧ Aside0 (Below w.heap.size w wr) ∧ Aside0 (idxOf p l0 0 = idxOf p (l0.drop kk) kk))
  case atStart => exact ⟨0, Nat.zero_le _, by omega, rfl, ⟨Below.refl _ w⟩, ⟨by simp⟩⟩
  case round =>
    obtain ⟨kk, hkk, hg, rfl, BW, AI⟩ := hrel
    by_cases hlt : kk < l0.length
    · have hltz : (kk : Int) < (l0.length : Int) := by omega
      obtain ⟨ad, e, hx0⟩ := Kd.at_int HR0.out (kk : Int) (by omega) (by omega)
      cases e
      have hx : wr.cell? (ad.add kk) = some (.int .i64 (rd l0 kk)) := by
        have := (BW.out.cell (World.block_lt_of_cell? w _ hx0)).trans hx0
        simpa using this
      clear hx0
      have hcall := HP.out wr (rd l0 kk) (rd_mem l0 kk hlt) BW.out
      have AD := Aside0.mk (rd_drop l0 kk hlt)
      generalize rd l0 kk = y at hx hcall AD
      cases hq : p y with
      | true =>
        rw [hq] at hcall
        have HQ := Aside0.mk hq
        clear hq
        go_wp2_with ((with_reducible refine hcall.mono ?_); rintro e w' ⟨rfl, hb'⟩)
        go_ret
        refine ⟨?_, BW.out.trans (hb'.mono BW.out.size)⟩
        rw [AI.out, AD.out]
        simp [idxOf, HQ.out]
      | false =>
        rw [hq] at hcall
        have HQ := Aside0.mk hq
        clear hq
        go_wp2_with ((with_reducible refine hcall.mono ?_); rintro e w' ⟨rfl, hb'⟩)
        go_roundg (l0.length - (kk + 1))
        case measure => omega
        case rel =>
          refine ⟨kk + 1, by omega, by omega, by go_num, ⟨BW.out.trans (hb'.mono BW.out.size)⟩, ⟨?_⟩⟩
          rw [AI.out, AD.out]
          simp [idxOf, HQ.out]
    · have hltz : ¬ (kk : Int) < (l0.length : Int) := by omega
      have hk : kk = l0.length := by omega
      have HK := Aside0.mk hk
      clear hk
      go_wp2
      go_ret
      refine ⟨?_, BW.out⟩
      rw [AI.out, HK.out]
      simp [idxOf]

set_option maxHeartbeats 8000000 in
set_option maxRecDepth 100000 in
theorem indexIntsS (g : Nat) (lb : Array Value) (eg : ∀ args W, (callFunc g args).run Try.prog W = .ok (.enter g args) W)
    (p : Int → Bool) (A0 : Option Addr) (c0 : Nat) (l0 : List Int) (w : World) (hr0 : Kd.C (Kd.int .i64) w A0 l0.length l0)
    (hp : ∀ (x : Int), x ∈ l0 → Calls Try.prog g (#[.int .i64 x] ++ lb) w fun e w' => e = .returned (.bool (p x)) ∧ w' = w) :
    Calls Try.prog 72 #[.slice A0 l0.length c0, .func (.func g) #[] lb] w fun e w' => e = .returned (.int .i64 (idxOf p l0 0)) ∧ w' = w := by
  have hbig := hr0.2.1
  have HR0 := Aside0.mk hr0
  have HP := Aside0.mk hp
  clear hr0 hp
  go_enter Try.func72, Try.ntmps72
  go_wp2
  go_loopg [5, 8] l0.length (fun gg _ s8 wr => ∃ kk : Nat, kk ≤ l0.length ∧ l0.length - kk ≤ gg ∧ s8 = .int .i64 kk ∧ wr = w ∧ Aside0 (idxOf p l0 0 = idxOf p (l0.drop kk) kk))
  case atStart => exact ⟨0, Nat.zero_le _, by omega, rfl, rfl, ⟨by simp⟩⟩
  case round =>
    obtain ⟨kk, hkk, hg, rfl, rfl, AI⟩ := hrel
    by_cases hlt : kk < l0.length
    · have hltz : (kk : Int) < (l0.length : Int) := by omega
      obtain ⟨ad, e, hx0⟩ := Kd.at_int HR0.out (kk : Int) (by omega) (by omega)
      cases e
      have hx : wr.cell? (ad.add kk) = some (.int .i64 (rd l0 kk)) := by simpa using hx0
      clear hx0
      have hcall := HP.out (rd l0 kk) (rd_mem l0 kk hlt)
      have AD := Aside0.mk (rd_drop l0 kk hlt)
      generalize rd l0 kk = y at hx hcall AD
      cases hq : p y with
      | true =>
        rw [hq] at hcall
        have HQ := Aside0.mk hq
        clear hq
        go_wp2_with ((with_reducible refine hcall.mono ?_); rintro e w' ⟨rfl, rfl⟩)
        go_ret
        refine ⟨?_, rfl⟩
        rw [AI.out, AD.out]
        simp [idxOf, HQ.out]
      | false =>
        rw [hq] at hcall
        have HQ := Aside0.mk hq
        clear hq
        go_wp2_with ((with_reducible refine hcall.mono ?_); rintro e w' ⟨rfl, rfl⟩)
        go_roundg (l0.length - (kk + 1))
        case measure => omega
        case rel =>
          refine ⟨kk + 1, by omega, by omega, by go_num, rfl, ⟨?_⟩⟩
          rw [AI.out, AD.out]
          simp [idxOf, HQ.out]
    · have hltz : ¬ (kk : Int) < (l0.length : Int) := by omega
      have hk : kk = l0.length := by omega
      have HK := Aside0.mk hk
      clear hk
      go_wp2
      go_ret
      refine ⟨?_, rfl⟩
      rw [AI.out, HK.out]
      simp [idxOf]


/-! ### slices_ContainsFunc_int64_int64: function 59 -/
set_option maxHeartbeats 8000000 in
set_option maxRecDepth 100000 in
theorem containsInts (g : Nat) (lb : Array Value) (eg : ∀ args W, (callFunc g args).run Try.prog W = .ok (.enter g args) W)
    (p : Int → Bool) (A0 : Option Addr) (c0 : Nat) (l0 : List Int) (w : World) (hr0 : Kd.C (Kd.int .i64) w A0 l0.length l0)
    (hp : ∀ (W : World) (x : Int), x ∈ l0 → Below w.heap.size w W → Calls Try.prog g (#[.int .i64 x] ++ lb) W fun e w' => e = .returned (.bool (p x)) ∧ Below W.heap.size W w') :
    Calls Try.prog 59 #[.slice A0 l0.length c0, .func (.func g) #[] lb] w fun e w' => e = .returned (.bool (l0.any p)) ∧ Below w.heap.size w w' := by
  rw [← idxOf_any p l0 0 (Int.le_refl 0)]
  have hI := indexInts g lb eg p A0 c0 l0 w hr0 hp
  clear hr0 hp eg
  go_enter Try.func59, Try.ntmps59
  go_wp2_with (go_at_call 72; refine hI.mono ?_; rintro e w' ⟨rfl, hb'⟩)
  go_ret
  exact ⟨rfl, hb'⟩

set_option maxHeartbeats 8000000 in
set_option maxRecDepth 100000 in
theorem containsIntsS (g : Nat) (lb : Array Value) (eg : ∀ args W, (callFunc g args).run Try.prog W = .ok (.enter g args) W)
    (p : Int → Bool) (A0 : Option Addr) (c0 : Nat) (l0 : List Int) (w : World) (hr0 : Kd.C (Kd.int .i64) w A0 l0.length l0)
    (hp : ∀ (x : Int), x ∈ l0 → Calls Try.prog g (#[.int .i64 x] ++ lb) w fun e w' => e = .returned (.bool (p x)) ∧ w' = w) :
    Calls Try.prog 59 #[.slice A0 l0.length c0, .func (.func g) #[] lb] w fun e w' => e = .returned (.bool (l0.any p)) ∧ w' = w := by
  rw [← idxOf_any p l0 0 (Int.le_refl 0)]
  have hI := indexIntsS g lb eg p A0 c0 l0 w hr0 hp
  clear hr0 hp eg
  go_enter Try.func59, Try.ntmps59
  go_wp2_with (go_at_call 72; refine hI.mono ?_; rintro e w' ⟨rfl, rfl⟩)
  go_ret
  exact ⟨rfl, rfl⟩


end Go.Proofs.Ytmffjekpnibnfaa.PFnExtend
