/- Written by this session's program out of the kit's print and this session's contracts. -/
import Derived.Test.YtmffjekpnibnfaaPFnExactPerm4x0
import Derived.Test.YtmffjekpnibnfaaPFnExactPerm4x1
namespace Go.Proofs.Ytmffjekpnibnfaa.PFnExactPerm4
open Go.RowKit Go.Proofs.YtmffjekpnibnfaaW.PrintWords Go.Proofs.YtmffjekpnibnfaaW.PrintLast Go.Proofs.YtmffjekpnibnfaaW.PrintMore
attribute [local go_sem] max2_int min2_int max_two min_two max_three min_three max_four min_four   -- for this text's walks alone
set_option linter.unusedVariables false
set_option linter.unusedSimpArgs false

/-! ### impl_perm: function 48 -/
/-- What the rounds of perm make: the rest of the number, the four cells of 'left', the images. -/
def pSt (n : Nat) : Nat → Int × List Int × List Int
  | 0 => ((n : Int), [0, 1, 2, 3], [0, 0, 0, 0])
  | i + 1 =>
    let s := pSt n i
    let b : Int := rd [6, 2, 1, 1] i
    let k := s.1.tdiv b
    (s.1.tmod b, ((s.2.1.take (4 - i)).take k.toNat ++ (s.2.1.take (4 - i)).drop (k.toNat + 1) ++ List.replicate (k.toNat + 1 - k.toNat) (0 : Int)) ++ s.2.1.drop (4 - i), s.2.2.set i (rd s.2.1 k))
def permL (n : Nat) : List Int := (pSt n 4).2.2
theorem pSt_ok : ∀ n, n < 24 → ∀ i, i < 4 → (0 ≤ (pSt n i).1 ∧ (pSt n i).1 < 24) ∧ (0 ≤ (pSt n i).1.tdiv (rd [6, 2, 1, 1] i) ∧ (pSt n i).1.tdiv (rd [6, 2, 1, 1] i) < 4 - i) ∧ (pSt n i).2.1.length = 4 ∧ (pSt n i).2.2.length = 4 := by decide +kernel
theorem permL_ok : ∀ n, n < 24 → (permL n).length = 4 ∧ (∀ x ∈ permL n, 0 ≤ x ∧ x < 4) := by decide +kernel
theorem holds_blk {w : World} {g t : Nat} {L : List Int} (h : w.heap[g]? = some (.cells (nums .i64 L).toArray t (0, 0))) (n : Nat) : Go.Sort.Holds (Value.int .i64) w g 0 (L.take n).toArray := by
  intro j hj
  have hj' : j < (L.take n).length := by simpa using hj
  refine ⟨?_, by rw [Nat.zero_add]; exact blk_frozen h j⟩
  rw [Nat.zero_add, blk_cell h j]
  have h1 : (L.take n).toArray[j]! = (L.take n)[j]'hj' := by rw [getElem!_pos _ j hj]; simp
  rw [h1]
  simp [nums] at hj' ⊢
theorem put_blk {w : World} {g t : Nat} {L : List Int} (h : w.heap[g]? = some (.cells (nums .i64 L).toArray t (0, 0))) (q : Nat) (M : List Int) (hM : M.length ≤ L.length) : (Go.Sort.putRow (Value.int .i64) (Go.Sort.ahead w q) g 0 M.toArray).heap[g]? = some (.cells (nums .i64 (M ++ L.drop M.length)).toArray t (0, 0)) := by
  show (w.heap.modify g _)[g]? = _
  rw [Array.getElem?_modify, if_pos rfl, h]
  simp only [Option.map_some, Go.Sort.onCells]
  congr 2
  apply Array.ext_getElem?
  intro k
  simp only [Go.Sort.putCells, Array.getElem?_mapIdx, List.getElem?_toArray, nums, List.getElem?_map, Nat.zero_le, true_and, Nat.zero_add, Nat.sub_zero, List.size_toArray]
  by_cases hk : k < M.length
  · rw [List.getElem?_append_left hk, List.getElem?_eq_getElem hk, List.getElem?_eq_getElem (show k < L.length by omega)]
    simp [hk]
  · rw [List.getElem?_append_right (by omega), List.getElem?_drop, show M.length + (k - M.length) = k by omega]
    cases hL : L[k]? with
    | none => rfl
    | some y => simp [hk]
theorem put_far {w : World} {g k : Nat} (q : Nat) (M : Array Int) (hk : k ≠ g) : (Go.Sort.putRow (Value.int .i64) (Go.Sort.ahead w q) g 0 M).heap[k]? = w.heap[k]? := by
  show (w.heap.modify g _)[k]? = _
  rw [Array.getElem?_modify, if_neg (Ne.symm hk)]
theorem put_below {B : Nat} {v w : World} (h : Below B v w) {g : Nat} (hg : B ≤ g) (q : Nat) (M : Array Int) : Below B v (Go.Sort.putRow (Value.int .i64) (Go.Sort.ahead w q) g 0 M) :=
  ⟨h.os, h.tape, h.output, by show _ ≤ (w.heap.modify g _).size; rw [Array.size_modify]; exact h.size, fun k hk => (put_far q M (by omega)).trans (h.block k hk)⟩

theorem nums_at (L : List Int) (i : Nat) (h : i < L.length) : (nums .i64 L).toArray[i]? = some (.int .i64 (rd L i)) := by
  simp [nums, rd, List.getD, List.getElem?_eq_getElem h]
theorem nums_set (L : List Int) (i : Nat) (x : Int) : (nums .i64 L).toArray.setIfInBounds i (.int .i64 x) = (nums .i64 (L.set i x)).toArray := by
  simp [nums, List.map_set]
theorem del_blk (g t : Nat) (L : List Int) (m k : Nat) (W : World) (h : W.heap[g]? = some (.cells (nums .i64 L).toArray t (0, 0))) (hL : L.length = 4) (hm : m ≤ 4) (hk : k < m) :
    Calls Try.prog 69 #[.slice (some ⟨g, 0, none⟩) m 4, .int .i64 k, .int .i64 ((k + 1 : Nat) : Int)] W fun e w' => e = .returned (.slice (some ⟨g, 0, none⟩) (m - 1) 4) ∧ w'.heap[g]? = some (.cells (nums .i64 ((L.take m).take k ++ (L.take m).drop (k + 1) ++ List.replicate (k + 1 - k) (0 : Int) ++ L.drop m)).toArray t (0, 0)) ∧ (∀ B v, B ≤ g → Below B v W → Below B v w') ∧ (∀ q, q ≠ g → w'.heap[q]? = W.heap[q]?) := by
  have hs : (L.take m).toArray.size = m := by simp; omega
  have hc := deleteInts g 0 4 k (L.take m).toArray W (holds_blk h m) (by rw [hs]; exact hm) (by decide) (by rw [hs]; exact hk)
  rw [hs] at hc
  refine hc.mono ?_
  rintro e w' ⟨rfl, q, rfl⟩
  have hl : ((L.take m).toArray.toList.take k ++ (L.take m).toArray.toList.drop (k + 1) ++ List.replicate (k + 1 - k) (0 : Int)).length = m := by
    simp
    omega
  refine ⟨rfl, ?_, fun B v hB hw => put_below hw hB q _, fun j hj => put_far q _ hj⟩
  have hp := put_blk h q _ (by rw [hl, hL]; exact hm)
  rw [hl] at hp
  exact hp
def impl_perm.f (a0 : Int) : Option (List Int) := if 0 ≤ a0 ∧ a0 < 24 then some (permL a0.toNat) else none
theorem results_arr {P : Program} {fn : Func} {p : Tmp} {ty : TypeId} (h : fn.results = #[.cell p ty]) (tmps : Array Value) (w : World) (g : Nat) (t : TypeId) (cs : Array Value) (fr : Nat × Nat) (d : TypeDesc)
    (hp : tmps.getD p undef = .pointer (some ⟨g, 0, none⟩)) (hg : w.heap[g]? = some (.cells cs t fr))
    (hu : P.underlying ty = some d) (hd : (match d with | .struct _ | .array _ _ => true | _ => false) = true) (hi : (P.info? ty).map (·.size) = some cs.size) :
    (results fn tmps).run P w = .ok (.agg cs) w := by
  have hp' : tmps[p]?.getD undef = .pointer (some ⟨g, 0, none⟩) := by simpa using hp
  simp [results, h, hp', asAddr, run_loadVar_row w g t ty cs fr d hg hu hd hi]
theorem run_index4 (cs : Array Value) (m : Nat) (x : Value) (hx : cs[m]? = some x) (hm : m < 4) (w : World) : (Instr.index 45 (.agg cs) (.int .i64 (m : Int))).run Try.prog w = .ok x w := by
  have hi : (m : Int) < 4 := by omega
  simp [Instr.index, asIntOf, part, Try.isAgg2, Try.sizeOf2, Try.underlying45, run_underlying, hx, hi, go_sem]
  exact fun h => absurd h (by omega)
theorem run_slice4 (g i : Nat) (hi : i ≤ 4) (W : World) : (Instr.sliceAt 45 (.pointer (some ⟨g, 0, none⟩)) none (some (.int .i64 (i : Int))) none).run Try.prog W = .ok (.slice (some ⟨g, 0, none⟩) i 4) W := by
  have hal : Try.prog.arrayLen 45 = 4 := by simp [Program.arrayLen, Try.underlying45]
  rw [run_sliceAt_array_h W 45 ⟨g, 0, none⟩ (by simp [Program.arrayLen, Program.elem, Try.underlying45]) .i64 (i : Int) (by omega) (by rw [hal]; omega)]
  simp only [hal]
  go_simp
theorem heap_allocs (w : World) (o0 o1 o2 o3 : Obj) (W : World) (hW : W = (((w.alloc o0).alloc o1).alloc o2).alloc o3) : Below w.heap.size w W ∧ W.heap[w.heap.size]? = some o0 ∧ W.heap[w.heap.size + 1]? = some o1 ∧ W.heap[w.heap.size + 1 + 1]? = some o2 ∧ W.heap[w.heap.size + 1 + 1 + 1]? = some o3 := by
  subst hW
  have s1 : ∀ (v : World) (o : Obj), (v.alloc o).heap.size = v.heap.size + 1 := fun v o => by show (v.heap.push o).size = _; simp
  have n1 : ∀ (v : World) (o : Obj) (k : Nat), k = v.heap.size → (v.alloc o).heap[k]? = some o := fun v o k hk => by rw [hk]; exact heap_alloc_new v o
  refine ⟨Below.alloc (Below.alloc (Below.alloc (Below.alloc (Below.refl _ _) (Nat.le_refl _) _) (by rw [s1]; omega) _) (by rw [s1, s1]; omega) _) (by rw [s1, s1, s1]; omega) _, ?_, ?_, ?_, ?_⟩
  · rw [Below.heap_alloc _ _ _ (by rw [s1, s1, s1]; omega), Below.heap_alloc _ _ _ (by rw [s1, s1]; omega), Below.heap_alloc _ _ _ (by rw [s1]; omega)]
    exact n1 _ _ _ rfl
  · rw [Below.heap_alloc _ _ _ (by rw [s1, s1, s1]; omega), Below.heap_alloc _ _ _ (by rw [s1, s1]; omega)]
    exact n1 _ _ _ (by rw [s1])
  · rw [Below.heap_alloc _ _ _ (by rw [s1, s1, s1]; omega)]
    exact n1 _ _ _ (by rw [s1, s1])
  · exact n1 _ _ _ (by rw [s1, s1, s1])
structure PermW (n i : Nat) (w wr : World) : Prop where
  b : Below w.heap.size w wr
  h0 : wr.heap[w.heap.size]? = some (.cells (nums .i64 [0, 0, 0, 0]).toArray 45 (0, 0))
  h1 : wr.heap[w.heap.size + 1]? = some (.cells (nums .i64 (pSt n i).2.2).toArray 45 (0, 0))
  h2 : wr.heap[w.heap.size + 1 + 1]? = some (.cells (nums .i64 (pSt n i).2.1).toArray 2 (0, 0))
  h3 : wr.heap[w.heap.size + 1 + 1 + 1]? = some (.cells (nums .i64 [6, 2, 1, 1]).toArray 2 (0, 0))
set_option maxHeartbeats 8000000 in
set_option maxRecDepth 100000 in
theorem impl_perm.calls (a0 : Int) (r : List Int) (w : World) (h : impl_perm.f a0 = some r) :
    Calls Try.prog 48 #[.int .i64 a0] w fun e w' => e = .returned (.agg (nums .i64 r).toArray) ∧ Below w.heap.size w w' := by
  unfold impl_perm.f at h
  by_cases hc : 0 ≤ a0 ∧ a0 < 24
  case neg => rw [if_neg hc] at h; exact absurd h (by simp)
  rw [if_pos hc] at h
  obtain rfl := Option.some.inj h
  obtain ⟨n, rfl⟩ : ∃ n : Nat, a0 = n := ⟨a0.toNat, by omega⟩
  have hn : n < 24 := by omega
  rw [Int.toNat_natCast]
  clear hc h
  have HN := Aside0.mk hn
  clear hn
  go_enter Try.func48, Try.ntmps48
  go_wp2
  go_loopg [0, 4, 11] 4 (fun gg s0 s4 s11 wr => ∃ i : Nat, gg + i = 4 ∧ s0 = .int .i64 (pSt n i).1 ∧ s4 = .slice (some ⟨w.heap.size + 1 + 1, 0, none⟩) (4 - i) 4 ∧ s11 = .int .i64 i ∧ Aside0 (PermW n i w wr))
  case atStart =>
    obtain ⟨hb, h0, h1, h2, h3⟩ := heap_allocs w _ _ _ _ _ rfl
    exact ⟨0, rfl, rfl, rfl, rfl, ⟨hb, h0, h1, h2, h3⟩⟩
  case round =>
    obtain ⟨i, hi, rfl, rfl, rfl, HW⟩ := hrel
    by_cases h4 : i = 4
    · subst h4
      have hp4 : ∀ j, j < 4 → wr.cell? ⟨w.heap.size + 1, j, none⟩ = some (.int .i64 (rd (permL n) j)) := fun j hj => by
        rw [blk_cell HW.out.h1 j]
        exact nums_at _ j (by have := (permL_ok n HN.out).1; unfold permL at this; omega)
      have a0 := hp4 0 (by decide)
      have a1 := hp4 1 (by decide)
      have a2 := hp4 2 (by decide)
      have a3 := hp4 3 (by decide)
      clear hp4
      have z0 : wr.cell? ⟨w.heap.size, 0, none⟩ = some (.int .i64 0) := (blk_cell HW.out.h0 0).trans rfl
      have z1 : wr.cell? ⟨w.heap.size, 1, none⟩ = some (.int .i64 0) := (blk_cell HW.out.h0 1).trans rfl
      have z2 : wr.cell? ⟨w.heap.size, 2, none⟩ = some (.int .i64 0) := (blk_cell HW.out.h0 2).trans rfl
      have z3 : wr.cell? ⟨w.heap.size, 3, none⟩ = some (.int .i64 0) := (blk_cell HW.out.h0 3).trans rfl
      have f0 := blk_frozen HW.out.h0 0
      have f1 := blk_frozen HW.out.h0 1
      have f2 := blk_frozen HW.out.h0 2
      have f3 := blk_frozen HW.out.h0 3
      go_wp2
      have hblk := blk_set (blk_set (blk_set (blk_set HW.out.h0 0 (.int .i64 (rd (permL n) 0))) 1 (.int .i64 (rd (permL n) 1))) 2 (.int .i64 (rd (permL n) 2))) 3 (.int .i64 (rd (permL n) 3))
      have hbel := (((HW.out.b.setCell (p := ⟨w.heap.size, 0, none⟩) (Nat.le_refl _) (.int .i64 (rd (permL n) 0))).setCell (p := ⟨w.heap.size, 1, none⟩) (Nat.le_refl _) (.int .i64 (rd (permL n) 1))).setCell (p := ⟨w.heap.size, 2, none⟩) (Nat.le_refl _) (.int .i64 (rd (permL n) 2))).setCell (p := ⟨w.heap.size, 3, none⟩) (Nat.le_refl _) (.int .i64 (rd (permL n) 3))
      refine bodyPost_ret (results_arr (p := 2) (ty := 45) rfl _ _ w.heap.size _ _ _ _ rfl hblk Try.underlying45 rfl (by kernel_rfl)) rfl ⟨?_, hbel⟩
      have hl := (permL_ok n HN.out).1
      generalize permL n = q at hl ⊢
      match q, hl with
      | [x0, x1, x2, x3], _ => rfl
    · have hd : decide ((i : Int) < 4) = true := decide_eq_true (by omega)
      have hi4 : i < 4 := by omega
      have hi4t : ((i : Int) < 4) = True := eq_true (by omega)
      obtain ⟨⟨p0, p1⟩, ⟨k0, k1⟩, hL, hO⟩ := pSt_ok n HN.out i hi4
      have hSt : pSt n (i + 1) = ((pSt n i).1.tmod (rd [6, 2, 1, 1] i), (((pSt n i).2.1.take (4 - i)).take ((pSt n i).1.tdiv (rd [6, 2, 1, 1] i)).toNat ++ ((pSt n i).2.1.take (4 - i)).drop (((pSt n i).1.tdiv (rd [6, 2, 1, 1] i)).toNat + 1) ++ List.replicate (((pSt n i).1.tdiv (rd [6, 2, 1, 1] i)).toNat + 1 - ((pSt n i).1.tdiv (rd [6, 2, 1, 1] i)).toNat) (0 : Int)) ++ (pSt n i).2.1.drop (4 - i), (pSt n i).2.2.set i (rd (pSt n i).2.1 ((pSt n i).1.tdiv (rd [6, 2, 1, 1] i)))) := rfl
      have hb : rd [6, 2, 1, 1] (i : Int) = 6 ∨ rd [6, 2, 1, 1] (i : Int) = 2 ∨ rd [6, 2, 1, 1] (i : Int) = 1 := (by decide : ∀ i < 4, rd [6, 2, 1, 1] ((i : Nat) : Int) = 6 ∨ rd [6, 2, 1, 1] ((i : Nat) : Int) = 2 ∨ rd [6, 2, 1, 1] ((i : Nat) : Int) = 1) i hi4
      have hcb : wr.cell? ⟨w.heap.size + 1 + 1 + 1, i, none⟩ = some (.int .i64 (rd [6, 2, 1, 1] i)) := by rw [blk_cell HW.out.h3 i]; exact nums_at _ i hi4
      have HS := Aside0.mk hSt
      clear hSt
      have h1_ := HW.out.h1
      have h2_ := HW.out.h2
      generalize rd [6, 2, 1, 1] (i : Int) = b at *
      generalize (pSt n i).1 = p at *
      generalize (pSt n i).2.1 = L at *
      generalize (pSt n i).2.2 = O at *
      obtain ⟨k, hk⟩ : ∃ k : Nat, p.tdiv b = k := ⟨(p.tdiv b).toNat, by omega⟩
      rw [hk] at k0 k1 HS
      rw [Int.toNat_natCast] at HS
      have kL : k < 4 - i := by omega
      have q1 : (k < 4 - i) = True := eq_true kL
      have hcl : wr.cell? ⟨w.heap.size + 1 + 1, k, none⟩ = some (.int .i64 (rd L k)) := by rw [blk_cell h2_ k]; exact nums_at L k (by omega)
      have hco : wr.cell? ⟨w.heap.size + 1, i, none⟩ = some (.int .i64 (rd O i)) := by rw [blk_cell h1_ i]; exact nums_at O i (by omega)
      have hfo := blk_frozen h1_ i
      have w1 : IntKind.i64.wrap (p.tdiv b) = (k : Int) := by rw [hk, i64_w]; unfold wrap64; omega
      have w2 : IntKind.i64.wrap ((k : Int) + 1) = ((k + 1 : Nat) : Int) := by rw [i64_w]; unfold wrap64; omega
      have w3 : IntKind.i64.wrap ((i : Int) + 1) = ((i + 1 : Nat) : Int) := by rw [i64_w]; unfold wrap64; omega
      have b0 : (b = 0) = False := eq_false (by omega)
      have HO := Aside0.mk hO
      have HL := Aside0.mk hL
      have HK := Aside0.mk kL
      have H1 := Aside0.mk h1_
      have H2 := Aside0.mk h2_
      have HI := Aside0.mk hi
      have HK4 := Aside0.mk hi4
      clear hO hL kL h1_ h2_ hi hi4 h4 hk k0 k1 p0 p1 hb
      go_wp2_with (go_at_call 69; refine (del_blk (w.heap.size + 1 + 1) _ L (4 - i) k _ ((Below.heap_setCell wr _ _ _ (by show w.heap.size + 1 + 1 ≠ w.heap.size + 1; omega)).trans H2.out) HL.out (Nat.sub_le _ _) HK.out).mono ?_; rintro e w5 ⟨rfl, h2', hbel', hfar'⟩)
      go_roundg (gk - 1)
      case measure => have := HI.out; have := HK4.out; omega
      case rel =>
        have hi_ := HI.out
        have hk_ := HK4.out
        refine ⟨i + 1, by omega, by rw [HS.out], by rw [show 4 - i - 1 = 4 - (i + 1) by omega], rfl, ⟨?_, ?_, ?_, ?_, ?_⟩⟩
        · exact hbel' _ _ (by omega) (HW.out.b.setCell (by show w.heap.size ≤ w.heap.size + 1; omega) _)
        · exact (hfar' _ (by omega)).trans ((Below.heap_setCell wr _ _ _ (by show w.heap.size ≠ w.heap.size + 1; omega)).trans HW.out.h0)
        · rw [HS.out]
          exact ((hfar' _ (by omega)).trans (blk_set H1.out i _)).trans (by rw [nums_set])
        · rw [HS.out]
          exact h2'
        · exact (hfar' _ (by omega)).trans ((Below.heap_setCell wr _ _ _ (by show w.heap.size + 1 + 1 + 1 ≠ w.heap.size + 1; omega)).trans HW.out.h3)


/-! ### impl_signOf: function 50 -/
/-- The sign, the numbers ahead of one image looked at up to j. -/
def sgIn (q : List Int) (x : Int) (o : Int) : Nat → Int
  | 0 => o
  | j + 1 => if rd q j > x then wrap64 (-(sgIn q x o j)) else sgIn q x o j
def sgOut (q : List Int) : Nat → Int
  | 0 => 1
  | i + 1 => sgIn q (rd q i) (sgOut q i) i
def impl_signOf.f (a0 : Int) : Option Int := if 0 ≤ a0 ∧ a0 < 24 then some (sgOut (permL a0.toNat) 4) else none
theorem perm_lit (a0 : Int) (ha : 0 ≤ a0 ∧ a0 < 24) : ∃ x0 x1 x2 x3, permL a0.toNat = [x0, x1, x2, x3] ∧ ∀ W, Calls Try.prog 48 #[.int .i64 a0] W fun e w' => e = .returned (.agg #[.int .i64 x0, .int .i64 x1, .int .i64 x2, .int .i64 x3]) ∧ Below W.heap.size W w' := by
  have hl := (permL_ok a0.toNat (by omega)).1
  have hc := fun W => impl_perm.calls a0 (permL a0.toNat) W (by unfold impl_perm.f; rw [if_pos ha])
  generalize permL a0.toNat = q at hl hc ⊢
  match q, hl with
  | [x0, x1, x2, x3], _ => exact ⟨x0, x1, x2, x3, rfl, hc⟩
theorem HB3_of (w w3 : World) (hb : Below w.heap.size w w3) (cs : Array Value) (t : Nat) : Below w.heap.size w (w3.alloc (.cells cs t (0, 0))) ∧ (w3.alloc (.cells cs t (0, 0))).heap[w3.heap.size]? = some (.cells cs t (0, 0)) := ⟨below_alloc hb _, heap_alloc_new w3 _⟩
set_option maxHeartbeats 8000000 in
set_option maxRecDepth 100000 in
theorem impl_signOf.calls (a0 : Int) (r : Int) (w : World) (h : impl_signOf.f a0 = some r) :
    Calls Try.prog 50 #[.int .i64 a0] w fun e w' => e = .returned (.int .i64 r) ∧ Below w.heap.size w w' := by
  unfold impl_signOf.f at h
  by_cases hp : 0 ≤ a0 ∧ a0 < 24
  case neg => rw [if_neg hp] at h; exact absurd h (by simp)
  rw [if_pos hp] at h
  obtain rfl := Option.some.inj h
  obtain ⟨x0, x1, x2, x3, hq, hc⟩ := perm_lit a0 hp
  have CF := Aside0.mk hc
  obtain ⟨q, hq'⟩ : ∃ q, q = permL a0.toNat := ⟨_, rfl⟩
  rw [← hq'] at hq ⊢
  have HQ := Aside0.mk hq
  clear h hp hc hq hq'
  go_enter Try.func50, Try.ntmps50
  go_wp2_with (go_at_call 48; refine (CF.out _).mono ?_; rintro e w3 ⟨rfl, hb3⟩)
  have hb3' := HB3_of w w3 hb3 #[.int .i64 x0, .int .i64 x1, .int .i64 x2, .int .i64 x3] 45
  obtain ⟨W, hW⟩ : ∃ W, W = w3.alloc (Obj.cells #[.int .i64 x0, .int .i64 x1, .int .i64 x2, .int .i64 x3] 45) := ⟨_, rfl⟩
  have HB := Aside0.mk hb3'.1
  have hblk : W.heap[w3.heap.size]? = some (.cells (nums .i64 q).toArray 45 (0, 0)) := by rw [hW, HQ.out]; exact hb3'.2
  rw [← hW] at HB ⊢
  have hat : ∀ j, j < 4 → W.cell? ⟨w3.heap.size, j, none⟩ = some (.int .i64 (rd q j)) := fun j hj => by
    rw [blk_cell hblk j]
    exact nums_at _ j (by rw [HQ.out]; exact hj)
  have HA := Aside0.mk hat
  have hix : ∀ i, i < 4 → ∀ w, (Instr.index 45 (.agg #[.int .i64 x0, .int .i64 x1, .int .i64 x2, .int .i64 x3]) (.int .i64 ((i : Nat) : Int))).run Try.prog w = .ok (.int .i64 (rd q i)) w := fun i hi w =>
    run_index4 _ i _ (by have := nums_at q i (by rw [HQ.out]; exact hi); rw [HQ.out] at this ⊢; exact this) hi w
  have HX := Aside0.mk hix
  clear hb3 hb3' hW hblk hat hix CF
  go_loopg [4, 12] 4 (fun gg s4 s12 wr => ∃ i : Nat, gg + i = 4 ∧ s4 = .int .i64 (sgOut q i) ∧ s12 = .int .i64 i ∧ wr = W)
  case atStart => exact ⟨0, rfl, rfl, rfl, rfl⟩
  case round =>
    obtain ⟨i, hi, rfl, rfl, rfl⟩ := hrel
    obtain ⟨g0, hg0⟩ : ∃ g0, g0 = gk := ⟨_, rfl⟩
    subst hg0
    by_cases h4 : i = 4
    · subst h4
      go_wp2
      go_ret
      exact ⟨rfl, HB.out⟩
    · have hi4 : i < 4 := by omega
      have hd : decide ((i : Int) < 4) = true := decide_eq_true (by omega)
      have hi4t : ((i : Int) < 4) = True := eq_true (by omega)
      have hi4n : (i ≤ 4) = True := eq_true (by omega)
      have hxi := HX.out i hi4
      have w3_ : IntKind.i64.wrap ((i : Int) + 1) = ((i + 1 : Nat) : Int) := by rw [i64_w]; unfold wrap64; omega
      have HI := Aside0.mk hi
      have HI4 := Aside0.mk hi4
      have hsl := run_slice4 w3.heap.size i (Nat.le_of_lt hi4)
      clear hi h4 hi4
      go_wp2
      go_loopg [4, 19] i (fun g2 s4 s19 wr2 => ∃ j : Nat, g2 + j = i ∧ s4 = .int .i64 (sgIn q (rd q i) (sgOut q i) j) ∧ s19 = .int .i64 j ∧ wr2 = wr)
      case atStart => exact ⟨0, rfl, rfl, rfl, rfl⟩
      case round =>
        obtain ⟨j, hj, rfl, rfl, rfl⟩ := hrel
        by_cases hji : j = i
        · subst hji
          go_wp2
          go_roundg (g0 - 1)
          case measure => have := HI.out; have := HI4.out; omega
          case rel => exact ⟨j + 1, by have := HI.out; have := HI4.out; omega, rfl, rfl, rfl⟩
        · have hji2 : j < i := by omega
          have hdj : decide ((j : Int) < (i : Int)) = true := decide_eq_true (by omega)
          have hjt : ((j : Int) < (i : Int)) = True := eq_true (by omega)
          have hjn : (j < i) = True := eq_true hji2
          have hcj := HA.out j (by have := HI4.out; omega)
          have w4_ : IntKind.i64.wrap ((j : Int) + 1) = ((j + 1 : Nat) : Int) := by rw [i64_w]; have := HI4.out; unfold wrap64; omega
          by_cases hgt : rd q j > rd q i
          · have hgd : decide (rd q (j : Int) > rd q (i : Int)) = true := decide_eq_true hgt
            have HJ := Aside0.mk hj
            have HJI := Aside0.mk hji2
            have hs : sgIn q (rd q i) (sgOut q i) (j + 1) = wrap64 (-(sgIn q (rd q i) (sgOut q i) j)) := if_pos hgt
            have HS := Aside0.mk hs
            clear hj hji hji2 hgt hs
            go_wp2
            go_roundg (gk - 1)
            case measure => have := HJ.out; have := HJI.out; omega
            case rel => exact ⟨j + 1, by have := HJ.out; have := HJI.out; omega, by rw [HS.out], rfl, rfl⟩
          · have hgd : decide (rd q (j : Int) > rd q (i : Int)) = false := decide_eq_false hgt
            have HJ := Aside0.mk hj
            have HJI := Aside0.mk hji2
            have hs : sgIn q (rd q i) (sgOut q i) (j + 1) = sgIn q (rd q i) (sgOut q i) j := if_neg hgt
            have HS := Aside0.mk hs
            clear hj hji hji2 hgt hs
            go_wp2
            go_roundg (gk - 1)
            case measure => have := HJ.out; have := HJI.out; omega
            case rel => exact ⟨j + 1, by have := HJ.out; have := HJI.out; omega, by rw [HS.out], rfl, rfl⟩


/-! ### impl_Perm4: function 20 -/
theorem p4_isPerm (a : Int) : impl_isPerm.f a = some (decide (0 ≤ a ∧ a < 24)) := by
  unfold impl_isPerm.f impl_inRange.f
  by_cases h : 0 ≤ a
  · rw [if_pos h]
    simp only [Option.bind_some]
    congr 1
    exact decide_eq_decide.2 ⟨fun h1 => ⟨h, by omega⟩, fun h1 => by omega⟩
  · rw [if_neg h]
    simp only [Option.bind_some]
    congr 1
    exact (decide_eq_false fun h1 => h h1.1).symm
theorem p4_slice (g : Nat) (W : World) : (Instr.sliceAt 45 (.pointer (some ⟨g, 0, none⟩)) none none none).run Try.prog W = .ok (.slice (some ⟨g, 0, none⟩) 4 4) W := by
  have hal : Try.prog.arrayLen 45 = 4 := by simp [Program.arrayLen, Try.underlying45]
  rw [run_sliceAt_array_all W 45 ⟨g, 0, none⟩ (by simp [Program.arrayLen, Program.elem, Try.underlying45])]
  simp only [hal]
  go_simp
def impl_Perm4.f (a0 : Int) : Option (List Int) := if 0 ≤ a0 ∧ a0 < 24 then some (permL a0.toNat) else some []
set_option maxHeartbeats 8000000 in
set_option maxRecDepth 100000 in
theorem impl_Perm4.calls (a0 : Int) (r : List Int) (w : World) (h : impl_Perm4.f a0 = some r) :
    Calls Try.prog 20 #[.int .i64 a0] w fun e w' => ∃ v0_ : Value, e = .returned (v0_) ∧ Kd.R (Kd.int .i64) 45 w' w.heap.size (fun _ => True) v0_ r ∧ Below w.heap.size w w' := by
  unfold impl_Perm4.f at h
  by_cases hp : 0 ≤ a0 ∧ a0 < 24
  · rw [if_pos hp] at h
    obtain rfl := Option.some.inj h
    have CP := Aside0.mk (fun W => impl_isPerm.calls a0 true W (by rw [p4_isPerm, decide_eq_true hp]))
    obtain ⟨x0, x1, x2, x3, hq, hc⟩ := perm_lit a0 hp
    have CF := Aside0.mk hc
    have hsl := p4_slice
    clear h hp hc
    go_enter Try.func20, Try.ntmps20
    go_wp2_with (first
      | (go_at_call 46; refine (CP.out _).mono ?_; rintro e w1 ⟨rfl, ⟨n1, rfl⟩⟩)
      | (go_at_call 48; refine (CF.out _).mono ?_; rintro e w3 ⟨rfl, hb3⟩))
    go_ret
    have hb := below_then (pw_below_drewN (Below.refl w.heap.size w) n1) (Nat.le_refl _) hb3
    refine ⟨_, rfl, ?_, below_alloc hb _⟩
    rw [hq]
    exact Kd.R_of_own (own_lit w3 w.heap.size 45 .i64 [x0, x1, x2, x3] hb.size (by simp)) (fun _ _ => trivial)
  · rw [if_neg hp] at h
    obtain rfl := Option.some.inj h
    have CP := Aside0.mk (fun W => impl_isPerm.calls a0 false W (by rw [p4_isPerm, decide_eq_false hp]))
    clear h hp
    go_enter Try.func20, Try.ntmps20
    go_wp2_with (go_at_call 46; refine (CP.out _).mono ?_; rintro e w1 ⟨rfl, ⟨n1, rfl⟩⟩)
    go_ret
    exact ⟨_, rfl, Kd.R_nil _ _ _ _ _, pw_below_drewN (Below.refl _ _) n1⟩

/-! ### laws_eqInt64S: function 21 -/
def laws_eqInt64S.l0 : Nat → List Int → List Int → Int → Option (Bool)
  | 0, _, _, _ => none
  | k + 1, x0, x1, x5 => if x5 < (x0.length : Int) then (if 0 ≤ x5 then (if x5 < (x1.length : Int) then (if (rd x0 x5) = (rd x1 x5) then (laws_eqInt64S.l0 k x0 x1 (wrap64 (x5 + 1))) else (some false)) else (none)) else (none)) else (some true)
def laws_eqInt64S.f (k : Nat) (l0 : List Int) (l1 : List Int) : Option (Bool) := if (l0.length : Int) = (l1.length : Int) then (laws_eqInt64S.l0 k l0 l1 0) else (some false)
theorem laws_eqInt64S.mono_l : ∀ k, (∀ y0 y1 y2, LeO (laws_eqInt64S.l0 k y0 y1 y2) (laws_eqInt64S.l0 (k + 1) y0 y1 y2))
  | 0 => fun _ _ _ r h => by simp [laws_eqInt64S.l0] at h
  | k + 1 => by
    have ih0 := laws_eqInt64S.mono_l k
    · intro y0 y1 y2
      unfold laws_eqInt64S.l0
      repeat' first
      | (with_reducible exact ih0 _ _ _)
      | (with_reducible exact LeO.refl _)
      | (with_reducible exact LeO.none _)
      | (with_reducible refine LeO.ite ?_ ?_)
      | (with_reducible refine LeO.bind ?_ (fun _ => ?_))
      | exact ih0 _ _ _
      | exact LeO.none _
      | refine LeO.ite ?_ ?_
      | refine LeO.bind ?_ (fun _ => ?_)
theorem laws_eqInt64S.mono : ∀ a0 a1 k, LeO (laws_eqInt64S.f k a0 a1) (laws_eqInt64S.f (k + 1) a0 a1) := by
  intro a0 a1 k
  have ih0 := laws_eqInt64S.mono_l k
  unfold laws_eqInt64S.f
  repeat' first
      | (with_reducible exact ih0 _ _ _)
      | (with_reducible exact LeO.refl _)
      | (with_reducible exact LeO.none _)
      | (with_reducible refine LeO.ite ?_ ?_)
      | (with_reducible refine LeO.bind ?_ (fun _ => ?_))
      | exact ih0 _ _ _
      | exact LeO.none _
      | refine LeO.ite ?_ ?_
      | refine LeO.bind ?_ (fun _ => ?_)
set_option maxHeartbeats 8000000 in
set_option maxRecDepth 100000 in
theorem laws_eqInt64S.calls (k : Nat) (A0 : Option Addr) (c0 : Nat) (l0 : List Int) (A1 : Option Addr) (c1 : Nat) (l1 : List Int) (r : Bool) (w : World) (hr0 : Kd.C (Kd.int .i64) w A0 l0.length l0) (hc0 : l0.length ≤ c0) (hr1 : Kd.C (Kd.int .i64) w A1 l1.length l1) (hc1 : l1.length ≤ c1) (h : laws_eqInt64S.f k l0 l1 = some r) :
    Calls Try.prog 21 #[.slice A0 l0.length c0, .slice A1 l1.length c1] w fun e w' => e = .returned (.bool r) ∧ Drawn0 w w' := by
  have HR0 := Aside0.mk hr0
  have HC0 := Aside0.mk hc0
  clear hr0 hc0
  have HR1 := Aside0.mk hr1
  have HC1 := Aside0.mk hc1
  clear hr1 hc1
  have H : (if (l0.length : Int) = (l1.length : Int) then (laws_eqInt64S.l0 k l0 l1 0) else (some false)) = some r := h
  clear h
  by_cases c3 : (l0.length : Int) = (l1.length : Int)
  · rw [if_pos c3] at H
    have c3b0 : ((l0.length : Int) == (l1.length : Int)) = true := beq_iff_eq.mpr c3
    have c3b1 : ((l0.length : Int) != (l1.length : Int)) = false := bne_eq_false_iff_eq.mpr c3
    have c3b2 : (l0.length == l1.length) = true := by first | simpa using c3 | (simp at c3 ⊢; omega)
    clear c3
    have H' := Aside0.mk H
    clear H
    go_enter Try.func21, Try.ntmps21
    go_wp2
    repeat (go_quiet (fail); try go_wp2)
    go_loopg [5] k (fun kq v5 w' => ∃ (x5_1 : Int), v5 = .int .i64 x5_1 ∧ Aside0 (laws_eqInt64S.l0 kq l0 l1 x5_1 = some r) ∧ Aside0 (kq ≤ k) ∧ Drawn0 w w')
    case atStart => exact ⟨(0), (by first | rfl | (simp; done) | (simp [*]; done)), H', ⟨Nat.le_refl _⟩, by repeat (first | exact Drawn0.refl _ | apply Drawn0.step)⟩
    case round =>
      clear H'
      try clear c1
      try clear c2
      try clear p2
      try clear c3
      try clear c3b0
      try clear c3b1
      try clear c3b2
      obtain ⟨x5_1, rfl, HA, HK1, ⟨m1, rfl⟩⟩ := hrel
      cases gk with
      | zero => exact absurd HA.out (by simp [laws_eqInt64S.l0])
      | succ k1 =>
        have H := HA.out
        clear HA
        simp only [laws_eqInt64S.l0] at H
        by_cases c4 : x5_1 < (l0.length : Int)
        · rw [if_pos c4] at H
          have c4b0 : decide (x5_1 < (l0.length : Int)) = true := decide_eq_true c4
          clear c4
          by_cases c5 : 0 ≤ x5_1
          · rw [if_pos c5] at H
            have c5b0 : decide (0 ≤ x5_1) = true := decide_eq_true c5
            clear c5
            by_cases c6 : x5_1 < (l1.length : Int)
            · rw [if_pos c6] at H
              have c6b0 : decide (x5_1 < (l1.length : Int)) = true := decide_eq_true c6
              clear c6
              by_cases c7 : (rd l0 x5_1) = (rd l1 x5_1)
              · rw [if_pos c7] at H
                have c7b0 : ((rd l0 x5_1) == (rd l1 x5_1)) = true := beq_iff_eq.mpr c7
                have c7b1 : ((rd l0 x5_1) != (rd l1 x5_1)) = false := bne_eq_false_iff_eq.mpr c7
                clear c7
                have H' := Aside0.mk H
                clear H
                have p133 : 0 ≤ (x5_1 : Int) := of_decide_eq_true (by first | (with_reducible assumption) | assumption)
                have q133 : x5_1 < (l0.length : Int) := of_decide_eq_true (by first | (with_reducible assumption) | assumption)
                obtain ⟨ad133, e133, hx133_0⟩ := Kd.at_int HR0.out x5_1 p133 q133
                cases e133
                replace p133 := eq_true p133
                replace q133 := eq_true q133
                have p134 : 0 ≤ (x5_1 : Int) := of_decide_eq_true (by first | (with_reducible assumption) | assumption)
                have q134 : x5_1 < (l1.length : Int) := of_decide_eq_true (by first | (with_reducible assumption) | assumption)
                obtain ⟨ad134, e134, hx134_0⟩ := Kd.at_int HR1.out x5_1 p134 q134
                cases e134
                replace p134 := eq_true p134
                replace q134 := eq_true q134
                go_wp2
                repeat (go_quiet (fail); try go_wp2)
                go_roundg k1
                case measure => have := HK1.out; omega
                case rel => exact ⟨(wrap64 (x5_1 + 1)), (by first | rfl | (simp; done) | (simp [*]; done)), H', ⟨by have := HK1.out; omega⟩, by repeat (first | exact Drawn0.refl _ | apply Drawn0.step)⟩
              · rw [if_neg c7] at H
                have c7b0 : ((rd l0 x5_1) == (rd l1 x5_1)) = false := beq_eq_false_iff_ne.mpr c7
                have c7b1 : ((rd l0 x5_1) != (rd l1 x5_1)) = true := bne_iff_ne.mpr c7
                obtain rfl := Option.some.inj H
                have p133 : 0 ≤ (x5_1 : Int) := of_decide_eq_true (by first | (with_reducible assumption) | assumption)
                have q133 : x5_1 < (l0.length : Int) := of_decide_eq_true (by first | (with_reducible assumption) | assumption)
                obtain ⟨ad133, e133, hx133_0⟩ := Kd.at_int HR0.out x5_1 p133 q133
                cases e133
                replace p133 := eq_true p133
                replace q133 := eq_true q133
                have p134 : 0 ≤ (x5_1 : Int) := of_decide_eq_true (by first | (with_reducible assumption) | assumption)
                have q134 : x5_1 < (l1.length : Int) := of_decide_eq_true (by first | (with_reducible assumption) | assumption)
                obtain ⟨ad134, e134, hx134_0⟩ := Kd.at_int HR1.out x5_1 p134 q134
                cases e134
                replace p134 := eq_true p134
                replace q134 := eq_true q134
                go_wp2
                repeat (go_quiet (fail); try go_wp2)
                go_ret
                exact ⟨by first | rfl | (simp; done) | (simp [*]; done), by repeat (first | exact Drawn0.refl _ | apply Drawn0.step)⟩
            · rw [if_neg c6] at H
              exact absurd H (by simp)
          · rw [if_neg c5] at H
            exact absurd H (by simp)
        · rw [if_neg c4] at H
          have c4b0 : decide (x5_1 < (l0.length : Int)) = false := decide_eq_false c4
          clear c4
          obtain rfl := Option.some.inj H
          go_wp2
          repeat (go_quiet (fail); try go_wp2)
          go_ret
          exact ⟨by first | rfl | (simp; done) | (simp [*]; done), by repeat (first | exact Drawn0.refl _ | apply Drawn0.step)⟩
  · rw [if_neg c3] at H
    have c3b0 : ((l0.length : Int) == (l1.length : Int)) = false := beq_eq_false_iff_ne.mpr c3
    have c3b1 : ((l0.length : Int) != (l1.length : Int)) = true := bne_iff_ne.mpr c3
    have c3b2 : (l0.length == l1.length) = false := by first | simpa using c3 | (simp at c3 ⊢; omega)
    obtain rfl := Option.some.inj H
    go_enter Try.func21, Try.ntmps21
    go_wp2
    repeat (go_quiet (fail); try go_wp2)
    go_ret
    exact ⟨by first | rfl | (simp; done) | (simp [*]; done), by repeat (first | exact Drawn0.refl _ | apply Drawn0.step)⟩

/-! ### laws_markInt64S: function 22 -/
def laws_markInt64S.l0 : Nat → List Int → Int → Int → Option (Int × List Int)
  | 0, _, _, _ => none
  | k + 1, x0, x1, x5 => if x5 < (x0.length : Int) then (if 0 ≤ x5 then (laws_markInt64S.l0 k (x0.set (x5 : Int).toNat x1) (wrap64 (x1 + 1)) (wrap64 (x5 + 1))) else (none)) else (some (x1, x0))
def laws_markInt64S.f (k : Nat) (l0 : List Int) (a1 : Int) : Option (Int × List Int) := laws_markInt64S.l0 k l0 a1 0
theorem laws_markInt64S.mono_l : ∀ k, (∀ y0 y1 y2, LeO (laws_markInt64S.l0 k y0 y1 y2) (laws_markInt64S.l0 (k + 1) y0 y1 y2))
  | 0 => fun _ _ _ r h => by simp [laws_markInt64S.l0] at h
  | k + 1 => by
    have ih0 := laws_markInt64S.mono_l k
    · intro y0 y1 y2
      unfold laws_markInt64S.l0
      repeat' first
      | (with_reducible exact ih0 _ _ _)
      | (with_reducible exact LeO.refl _)
      | (with_reducible exact LeO.none _)
      | (with_reducible refine LeO.ite ?_ ?_)
      | (with_reducible refine LeO.bind ?_ (fun _ => ?_))
      | exact ih0 _ _ _
      | exact LeO.none _
      | refine LeO.ite ?_ ?_
      | refine LeO.bind ?_ (fun _ => ?_)
theorem laws_markInt64S.mono : ∀ a0 a1 k, LeO (laws_markInt64S.f k a0 a1) (laws_markInt64S.f (k + 1) a0 a1) := by
  intro a0 a1 k
  have ih0 := laws_markInt64S.mono_l k
  unfold laws_markInt64S.f
  repeat' first
      | (with_reducible exact ih0 _ _ _)
      | (with_reducible exact LeO.refl _)
      | (with_reducible exact LeO.none _)
      | (with_reducible refine LeO.ite ?_ ?_)
      | (with_reducible refine LeO.bind ?_ (fun _ => ?_))
      | exact ih0 _ _ _
      | exact LeO.none _
      | refine LeO.ite ?_ ?_
      | refine LeO.bind ?_ (fun _ => ?_)
set_option maxHeartbeats 8000000 in
set_option maxRecDepth 100000 in
theorem laws_markInt64S.calls (k : Nat) (P0_ : Nat → Prop) (u9000_ : Value) (l0 : List Int) (a1 : Int) (r1 : Int) (r2 : List Int) (w0 w : World) (hB : Below w0.heap.size w0 w) (ho0 : Kd.R (Kd.int .i64) 45 w w0.heap.size P0_ u9000_ l0) (h : laws_markInt64S.f k l0 a1 = some (r1, r2)) :
    Calls Try.prog 22 #[u9000_, .int .i64 a1] w fun e w' => e = .returned (.int .i64 r1) ∧ Kd.R (Kd.int .i64) 45 w' w0.heap.size (fun k_ => (P0_ k_ ∨ w.heap.size ≤ k_)) u9000_ r2 ∧ Below w0.heap.size w0 w' ∧ Kept w w' (fun k_ => P0_ k_) := by
  have HO0 := Aside0.mk (show Kd.R (Kd.int .i64) 45 w w0.heap.size (fun k_ => (P0_ k_ ∨ w.heap.size ≤ k_)) u9000_ l0 from Kd.R_mono ho0 (fun k_ hk => (.inl hk)))
  have HK := Aside0.mk (Kept.refl w (fun k_ => P0_ k_))
  have HW0 := Aside0.mk hB.size
  have HB := Aside0.mk hB
  clear hB
  have H : (laws_markInt64S.l0 k l0 a1 0) = some (r1, r2) := h
  clear h
  have H' := Aside0.mk H
  clear H
  go_enter Try.func22, Try.ntmps22
  go_wp2
  go_loopg [1, 5] k (fun kq v1 v5 w' => ∃ (x0_1 : List Int) (x1_1 : Int) (x5_1 : Int), v1 = .int .i64 x1_1 ∧ v5 = .int .i64 x5_1 ∧ Aside0 (laws_markInt64S.l0 kq x0_1 x1_1 x5_1 = some (r1, r2)) ∧ Aside0 (kq ≤ k) ∧ Aside0 (Kd.R (Kd.int .i64) 45 w' w0.heap.size (fun k_ => (P0_ k_ ∨ w.heap.size ≤ k_)) u9000_ x0_1) ∧ Aside0 (Kept w w' (fun k_ => P0_ k_)) ∧ Aside0 (Below w0.heap.size w0 w'))
  case atStart => exact ⟨(l0), (a1), (0), (by first | rfl | (simp; done) | (simp [*]; done)), (by first | rfl | (simp; done) | (simp [*]; done)), H', ⟨Nat.le_refl _⟩, ⟨by (with_reducible repeat (first | apply Kd.R_alloc | apply Kd.R_drewN | apply Kd.R_drew)); exact HO0.out⟩, ⟨by repeat (first | (with_reducible first | exact HK.out | apply Kept.alloc | apply Kept.drewN | apply Kept.drew) | exact HK.out)⟩, ⟨by repeat (first | (with_reducible first | exact HB.out | apply below_alloc | apply pw_below_drewN | apply below_drew1) | exact HB.out)⟩⟩
  case round =>
    clear H'
    try clear c2
    try clear p2
    obtain ⟨x0_1, x1_1, x5_1, rfl, rfl, HA, HK1, HO_0, HK, HB⟩ := hrel
    cases gk with
    | zero => exact absurd HA.out (by simp [laws_markInt64S.l0])
    | succ k1 =>
      have H := HA.out
      clear HA
      simp only [laws_markInt64S.l0] at H
      by_cases c3 : x5_1 < (x0_1.length : Int)
      · rw [if_pos c3] at H
        have c3b0 : decide (x5_1 < (x0_1.length : Int)) = true := decide_eq_true c3
        clear c3
        by_cases c4 : 0 ≤ x5_1
        · rw [if_pos c4] at H
          have c4b0 : decide (0 ≤ x5_1) = true := decide_eq_true c4
          clear c4
          obtain ⟨y135, hy135⟩ : ∃ y_ : List Int, y_ = (x0_1.set (x5_1 : Int).toNat x1_1) := ⟨_, rfl⟩
          replace H : (laws_markInt64S.l0 k1 y135 (wrap64 (x1_1 + 1)) (wrap64 (x5_1 + 1))) = some (r1, r2) := by first | (rw [hy135]; with_reducible exact H) | (have H2_ := (Option.bind_some _ _).symm.trans H; rw [hy135]; with_reducible exact H2_) | (have H2_ := (Option.bind_some _ _).symm.trans H; with_reducible exact H2_) | with_reducible exact H | (rw [hy135]; exact H) | exact H
          have Ny135 := Aside0.mk hy135
          clear hy135
          have H' := Aside0.mk H
          clear H
          obtain ⟨Ao6, co6, eo6⟩ := Kd.R_slice HO_0.out
          subst eo6
          have p5 : 0 ≤ (x5_1 : Int) := of_decide_eq_true (by first | (with_reducible assumption) | assumption)
          have q5 : (x5_1 : Int) < ((x0_1.length : Int) : Int) := of_decide_eq_true (by first | (with_reducible assumption) | assumption)
          obtain ⟨go5, co5, eo5, gb5, gl5, cl5, HG5⟩ := Kd.R_form HO_0.out (by omega)
          (first | cases eo5 | (injection eo5 with ea_ en_ ec_; (first | subst ea_ | (injection ea_ with ea_; subst ea_)); subst ec_; clear en_))
          have GB5 := Aside0.mk gb5
          have GG5 := Aside0.mk HG5
          clear gb5 gl5 HG5
          have HMgo5 := Aside0.mk (show (P0_ go5 ∨ w.heap.size ≤ go5) from (HO_0.out.1 _ rfl))
          obtain ⟨hx5_0, hf5_0⟩ := Kd.R_celln 0 HO_0.out (x5_1 : Int) p5 q5
          replace p5 := eq_true p5
          replace q5 := eq_true q5
          have HP7 := Kd.R_putg HO_0.out (x5_1 : Int) x1_1
          go_wp2_with (first | ((with_reducible refine gate_store (t := 2) (p := 15) rfl ?_); refine store_event (t := 2) (p := 15) (v := ?vo_w8) (w1 := (wr.setCell ⟨go5, (x5_1 : Int).toNat, none⟩ (.int .i64 x1_1))) ?hg ?ho ?hn ?hr ?_; (case ho => rfl); (case hg => rfl); (case hn => rfl); (case hr => first | (go_simp; done) | (go_simp; rfl)); intro w8 hw; have hg : wr.grownBy w8 (some go5) := (by rw [hw]; exact HP7.2); have hp_ : Kd.R (Kd.int .i64) 45 w8 w0.heap.size (fun k_ => (P0_ k_ ∨ w.heap.size ≤ k_)) (.slice (some ⟨go5, 0, none⟩) x0_1.length co6) y135 := (by rw [hw, Ny135.out]; exact HP7.1); clear HP7; have n0_ := Aside0.mk (hp_); have n1_ := Aside0.mk ((by rw [hw]; exact below_set (HB.out) GB5.out : Below w0.heap.size w0 w8)); have n2_ := Aside0.mk (Kept.of_grown (S := (fun k_ => P0_ k_)) hg (by repeat (first | (with_reducible first | exact HK.out | apply Kept.alloc | apply Kept.drewN | apply Kept.drew) | exact HK.out)) (fun k_ e_ => (HO_0.out.1 k_ e_))); clear HO_0; clear HB; clear HK; have HO_0 := n0_; have HB := n1_; have HK := n2_; clear n0_ n1_ n2_; clear hg hw hp_))
          go_roundg k1
          case measure => have := HK1.out; omega
          case rel => exact ⟨(y135), (wrap64 (x1_1 + 1)), (wrap64 (x5_1 + 1)), (by first | rfl | (simp; done) | (simp [*]; done)), (by first | rfl | (simp; done) | (simp [*]; done)), H', ⟨by have := HK1.out; omega⟩, ⟨by (with_reducible repeat (first | apply Kd.R_alloc | apply Kd.R_drewN | apply Kd.R_drew)); exact HO_0.out⟩, ⟨by repeat (first | (with_reducible first | exact HK.out | apply Kept.alloc | apply Kept.drewN | apply Kept.drew) | exact HK.out)⟩, ⟨by repeat (first | (with_reducible first | exact HB.out | apply below_alloc | apply pw_below_drewN | apply below_drew1) | exact HB.out)⟩⟩
        · rw [if_neg c4] at H
          exact absurd H (by simp)
      · rw [if_neg c3] at H
        have c3b0 : decide (x5_1 < (x0_1.length : Int)) = false := decide_eq_false c3
        clear c3
        simp only [Option.some.injEq, Prod.mk.injEq] at H
        obtain ⟨rfl, rfl⟩ := H
        obtain ⟨Ao9, co9, eo9⟩ := Kd.R_slice HO_0.out
        subst eo9
        go_wp2
        go_ret
        exact ⟨by first | rfl | (simp [errW_none, errW_some] <;> rfl) | (simp [*, errW_none, errW_some] <;> rfl), by (with_reducible repeat (first | apply Kd.R_alloc | apply Kd.R_drewN | apply Kd.R_drew)); exact HO_0.out, by repeat (first | (with_reducible first | exact HB.out | apply below_alloc | apply pw_below_drewN | apply below_drew1) | exact HB.out), by repeat (first | (with_reducible first | exact HK.out | apply Kept.alloc | apply Kept.drewN | apply Kept.drew) | exact HK.out)⟩

/-! ### laws_heldInt64S: function 23 -/
def laws_heldInt64S.l0 : Nat → List Int → Int → Int → Option (Int)
  | 0, _, _, _ => none
  | k + 1, x0, x1, x5 => if x5 < (x0.length : Int) then (if 0 ≤ x5 then (if (rd x0 x5) = x1 then (laws_heldInt64S.l0 k x0 (wrap64 (x1 + 1)) (wrap64 (x5 + 1))) else (some (-1))) else (none)) else (some x1)
def laws_heldInt64S.f (k : Nat) (l0 : List Int) (a1 : Int) : Option (Int) := laws_heldInt64S.l0 k l0 a1 0
theorem laws_heldInt64S.mono_l : ∀ k, (∀ y0 y1 y2, LeO (laws_heldInt64S.l0 k y0 y1 y2) (laws_heldInt64S.l0 (k + 1) y0 y1 y2))
  | 0 => fun _ _ _ r h => by simp [laws_heldInt64S.l0] at h
  | k + 1 => by
    have ih0 := laws_heldInt64S.mono_l k
    · intro y0 y1 y2
      unfold laws_heldInt64S.l0
      repeat' first
      | (with_reducible exact ih0 _ _ _)
      | (with_reducible exact LeO.refl _)
      | (with_reducible exact LeO.none _)
      | (with_reducible refine LeO.ite ?_ ?_)
      | (with_reducible refine LeO.bind ?_ (fun _ => ?_))
      | exact ih0 _ _ _
      | exact LeO.none _
      | refine LeO.ite ?_ ?_
      | refine LeO.bind ?_ (fun _ => ?_)
theorem laws_heldInt64S.mono : ∀ a0 a1 k, LeO (laws_heldInt64S.f k a0 a1) (laws_heldInt64S.f (k + 1) a0 a1) := by
  intro a0 a1 k
  have ih0 := laws_heldInt64S.mono_l k
  unfold laws_heldInt64S.f
  repeat' first
      | (with_reducible exact ih0 _ _ _)
      | (with_reducible exact LeO.refl _)
      | (with_reducible exact LeO.none _)
      | (with_reducible refine LeO.ite ?_ ?_)
      | (with_reducible refine LeO.bind ?_ (fun _ => ?_))
      | exact ih0 _ _ _
      | exact LeO.none _
      | refine LeO.ite ?_ ?_
      | refine LeO.bind ?_ (fun _ => ?_)
set_option maxHeartbeats 8000000 in
set_option maxRecDepth 100000 in
theorem laws_heldInt64S.calls (k : Nat) (A0 : Option Addr) (c0 : Nat) (l0 : List Int) (a1 : Int) (r : Int) (w : World) (hr0 : Kd.C (Kd.int .i64) w A0 l0.length l0) (hc0 : l0.length ≤ c0) (h : laws_heldInt64S.f k l0 a1 = some r) :
    Calls Try.prog 23 #[.slice A0 l0.length c0, .int .i64 a1] w fun e w' => e = .returned (.int .i64 r) ∧ Drawn0 w w' := by
  have HR0 := Aside0.mk hr0
  have HC0 := Aside0.mk hc0
  clear hr0 hc0
  have H : (laws_heldInt64S.l0 k l0 a1 0) = some r := h
  clear h
  have H' := Aside0.mk H
  clear H
  go_enter Try.func23, Try.ntmps23
  go_wp2
  go_loopg [1, 5] k (fun kq v1 v5 w' => ∃ (x1_1 : Int) (x5_1 : Int), v1 = .int .i64 x1_1 ∧ v5 = .int .i64 x5_1 ∧ Aside0 (laws_heldInt64S.l0 kq l0 x1_1 x5_1 = some r) ∧ Aside0 (kq ≤ k) ∧ Drawn0 w w')
  case atStart => exact ⟨(a1), (0), (by first | rfl | (simp; done) | (simp [*]; done)), (by first | rfl | (simp; done) | (simp [*]; done)), H', ⟨Nat.le_refl _⟩, by repeat (first | exact Drawn0.refl _ | apply Drawn0.step)⟩
  case round =>
    clear H'
    try clear c2
    try clear p2
    obtain ⟨x1_1, x5_1, rfl, rfl, HA, HK1, ⟨m1, rfl⟩⟩ := hrel
    cases gk with
    | zero => exact absurd HA.out (by simp [laws_heldInt64S.l0])
    | succ k1 =>
      have H := HA.out
      clear HA
      simp only [laws_heldInt64S.l0] at H
      by_cases c3 : x5_1 < (l0.length : Int)
      · rw [if_pos c3] at H
        have c3b0 : decide (x5_1 < (l0.length : Int)) = true := decide_eq_true c3
        clear c3
        by_cases c4 : 0 ≤ x5_1
        · rw [if_pos c4] at H
          have c4b0 : decide (0 ≤ x5_1) = true := decide_eq_true c4
          clear c4
          by_cases c5 : (rd l0 x5_1) = x1_1
          · rw [if_pos c5] at H
            have c5b0 : ((rd l0 x5_1) == x1_1) = true := beq_iff_eq.mpr c5
            have c5b1 : ((rd l0 x5_1) != x1_1) = false := bne_eq_false_iff_eq.mpr c5
            clear c5
            have H' := Aside0.mk H
            clear H
            have p136 : 0 ≤ (x5_1 : Int) := of_decide_eq_true (by first | (with_reducible assumption) | assumption)
            have q136 : x5_1 < (l0.length : Int) := of_decide_eq_true (by first | (with_reducible assumption) | assumption)
            obtain ⟨ad136, e136, hx136_0⟩ := Kd.at_int HR0.out x5_1 p136 q136
            cases e136
            replace p136 := eq_true p136
            replace q136 := eq_true q136
            go_wp2
            go_roundg k1
            case measure => have := HK1.out; omega
            case rel => exact ⟨(wrap64 (x1_1 + 1)), (wrap64 (x5_1 + 1)), (by first | rfl | (simp; done) | (simp [*]; done)), (by first | rfl | (simp; done) | (simp [*]; done)), H', ⟨by have := HK1.out; omega⟩, by repeat (first | exact Drawn0.refl _ | apply Drawn0.step)⟩
          · rw [if_neg c5] at H
            have c5b0 : ((rd l0 x5_1) == x1_1) = false := beq_eq_false_iff_ne.mpr c5
            have c5b1 : ((rd l0 x5_1) != x1_1) = true := bne_iff_ne.mpr c5
            obtain rfl := Option.some.inj H
            have p136 : 0 ≤ (x5_1 : Int) := of_decide_eq_true (by first | (with_reducible assumption) | assumption)
            have q136 : x5_1 < (l0.length : Int) := of_decide_eq_true (by first | (with_reducible assumption) | assumption)
            obtain ⟨ad136, e136, hx136_0⟩ := Kd.at_int HR0.out x5_1 p136 q136
            cases e136
            replace p136 := eq_true p136
            replace q136 := eq_true q136
            go_wp2
            go_ret
            exact ⟨by first | rfl | (simp; done) | (simp [*]; done), by repeat (first | exact Drawn0.refl _ | apply Drawn0.step)⟩
        · rw [if_neg c4] at H
          exact absurd H (by simp)
      · rw [if_neg c3] at H
        have c3b0 : decide (x5_1 < (l0.length : Int)) = false := decide_eq_false c3
        clear c3
        obtain rfl := Option.some.inj H
        go_wp2
        go_ret
        exact ⟨by first | rfl | (simp; done) | (simp [*]; done), by repeat (first | exact Drawn0.refl _ | apply Drawn0.step)⟩

/-! ### laws_FnExactPerm4: function 5 -/
def laws_FnExactPerm4.f (k : Nat) (a0 : Int) : Option (Bool) := (spec_Perm4.f k a0).bind fun t137 => ((impl_Perm4.f a0).bind fun t140 => ((laws_eqInt64S.f k t140 t137).bind fun t143 => (if t143 = true then ((laws_markInt64S.f k t140 1).bind fun bt144 => ((laws_heldInt64S.f k bt144.2 1).bind fun t146 => (if t146 < 0 then (some false) else (if t146 = bt144.1 then ((impl_Perm4.f a0).bind fun t147 => ((laws_eqInt64S.f k t147 t137).bind fun t150 => (if t150 = true then ((laws_heldInt64S.f k bt144.2 1).bind fun t151 => (if t151 < 0 then (some false) else (if t151 = bt144.1 then (some true) else (some false)))) else (some false)))) else (some false))))) else (some false))))
theorem laws_FnExactPerm4.mono : ∀ a0 k, LeO (laws_FnExactPerm4.f k a0) (laws_FnExactPerm4.f (k + 1) a0) := by
  intro a0 k
  unfold laws_FnExactPerm4.f
  repeat' first
      | (with_reducible exact laws_eqInt64S.mono _ _ _)
      | (with_reducible exact laws_heldInt64S.mono _ _ _)
      | (with_reducible exact laws_markInt64S.mono _ _ _)
      | (with_reducible exact spec_Perm4.mono _ _)
      | (with_reducible exact LeO.refl _)
      | (with_reducible exact LeO.none _)
      | (with_reducible refine LeO.ite ?_ ?_)
      | (with_reducible refine LeO.bind ?_ (fun _ => ?_))
      | exact laws_eqInt64S.mono _ _ _
      | exact laws_heldInt64S.mono _ _ _
      | exact laws_markInt64S.mono _ _ _
      | exact spec_Perm4.mono _ _
      | exact LeO.none _
      | refine LeO.ite ?_ ?_
      | refine LeO.bind ?_ (fun _ => ?_)
set_option maxHeartbeats 8000000 in
set_option maxRecDepth 100000 in
theorem laws_FnExactPerm4.calls (k : Nat) (a0 : Int) (r : Bool) (w : World) (h : laws_FnExactPerm4.f k a0 = some r) (HT_ : Aside0 (r = true)) :
    Calls Try.prog 5 #[.int .i64 a0] w fun e w' => e = .returned (.bool r) ∧ Below w.heap.size w w' := by
  have HB := Aside0.mk (Below.refl w.heap.size w)
  have H : ((spec_Perm4.f k a0).bind fun t137 => ((impl_Perm4.f a0).bind fun t140 => ((laws_eqInt64S.f k t140 t137).bind fun t143 => (if t143 = true then ((laws_markInt64S.f k t140 1).bind fun bt144 => ((laws_heldInt64S.f k bt144.2 1).bind fun t146 => (if t146 < 0 then (some false) else (if t146 = bt144.1 then ((impl_Perm4.f a0).bind fun t147 => ((laws_eqInt64S.f k t147 t137).bind fun t150 => (if t150 = true then ((laws_heldInt64S.f k bt144.2 1).bind fun t151 => (if t151 < 0 then (some false) else (if t151 = bt144.1 then (some true) else (some false)))) else (some false)))) else (some false))))) else (some false))))) = some r := h
  clear h
  replace H := Option.bind_eq_some_iff.mp H
  obtain ⟨t137, A20, H⟩ := H
  replace H : ((impl_Perm4.f a0).bind fun t140 => ((laws_eqInt64S.f k t140 t137).bind fun t143 => (if t143 = true then ((laws_markInt64S.f k t140 1).bind fun bt144 => ((laws_heldInt64S.f k bt144.2 1).bind fun t146 => (if t146 < 0 then (some false) else (if t146 = bt144.1 then ((impl_Perm4.f a0).bind fun t147 => ((laws_eqInt64S.f k t147 t137).bind fun t150 => (if t150 = true then ((laws_heldInt64S.f k bt144.2 1).bind fun t151 => (if t151 < 0 then (some false) else (if t151 = bt144.1 then (some true) else (some false)))) else (some false)))) else (some false))))) else (some false)))) = some r := H
  have A2 := Aside0.mk A20
  clear A20
  replace H := Option.bind_eq_some_iff.mp H
  obtain ⟨t140, A30, H⟩ := H
  replace H : ((laws_eqInt64S.f k t140 t137).bind fun t143 => (if t143 = true then ((laws_markInt64S.f k t140 1).bind fun bt144 => ((laws_heldInt64S.f k bt144.2 1).bind fun t146 => (if t146 < 0 then (some false) else (if t146 = bt144.1 then ((impl_Perm4.f a0).bind fun t147 => ((laws_eqInt64S.f k t147 t137).bind fun t150 => (if t150 = true then ((laws_heldInt64S.f k bt144.2 1).bind fun t151 => (if t151 < 0 then (some false) else (if t151 = bt144.1 then (some true) else (some false)))) else (some false)))) else (some false))))) else (some false))) = some r := H
  have A3 := Aside0.mk A30
  clear A30
  replace H := Option.bind_eq_some_iff.mp H
  obtain ⟨t143, A40, H⟩ := H
  replace H : (if t143 = true then ((laws_markInt64S.f k t140 1).bind fun bt144 => ((laws_heldInt64S.f k bt144.2 1).bind fun t146 => (if t146 < 0 then (some false) else (if t146 = bt144.1 then ((impl_Perm4.f a0).bind fun t147 => ((laws_eqInt64S.f k t147 t137).bind fun t150 => (if t150 = true then ((laws_heldInt64S.f k bt144.2 1).bind fun t151 => (if t151 < 0 then (some false) else (if t151 = bt144.1 then (some true) else (some false)))) else (some false)))) else (some false))))) else (some false)) = some r := H
  have A4 := Aside0.mk A40
  clear A40
  by_cases c5 : t143 = true
  · subst c5
    have H1 : ((laws_markInt64S.f k t140 1).bind fun bt144 => ((laws_heldInt64S.f k bt144.2 1).bind fun t146 => (if t146 < 0 then (some false) else (if t146 = bt144.1 then ((impl_Perm4.f a0).bind fun t147 => ((laws_eqInt64S.f k t147 t137).bind fun t150 => (if t150 = true then ((laws_heldInt64S.f k bt144.2 1).bind fun t151 => (if t151 < 0 then (some false) else (if t151 = bt144.1 then (some true) else (some false)))) else (some false)))) else (some false))))) = some r := by rw [if_pos rfl] at H; exact H
    clear H
    have H := H1
    clear H1
    replace H := Option.bind_eq_some_iff.mp H
    obtain ⟨⟨t144, t145⟩, A60, H⟩ := H
    replace H : ((laws_heldInt64S.f k t145 1).bind fun t146 => (if t146 < 0 then (some false) else (if t146 = t144 then ((impl_Perm4.f a0).bind fun t147 => ((laws_eqInt64S.f k t147 t137).bind fun t150 => (if t150 = true then ((laws_heldInt64S.f k t145 1).bind fun t151 => (if t151 < 0 then (some false) else (if t151 = t144 then (some true) else (some false)))) else (some false)))) else (some false)))) = some r := H
    have A6 := Aside0.mk A60
    clear A60
    replace H := Option.bind_eq_some_iff.mp H
    obtain ⟨t146, A70, H⟩ := H
    replace H : (if t146 < 0 then (some false) else (if t146 = t144 then ((impl_Perm4.f a0).bind fun t147 => ((laws_eqInt64S.f k t147 t137).bind fun t150 => (if t150 = true then ((laws_heldInt64S.f k t145 1).bind fun t151 => (if t151 < 0 then (some false) else (if t151 = t144 then (some true) else (some false)))) else (some false)))) else (some false))) = some r := H
    have A7 := Aside0.mk A70
    clear A70
    by_cases c8 : t146 < 0
    · rw [if_pos c8] at H
      have c8b0 : decide (t146 < 0) = true := decide_eq_true c8
      clear c8
      exact absurd ((Option.some.inj H).trans HT_.out) (by simp)
    · rw [if_neg c8] at H
      have c8b0 : decide (t146 < 0) = false := decide_eq_false c8
      clear c8
      by_cases c9 : t146 = t144
      · rw [if_pos c9] at H
        have c9b0 : (t146 == t144) = true := beq_iff_eq.mpr c9
        have c9b1 : (t146 != t144) = false := bne_eq_false_iff_eq.mpr c9
        clear c9
        replace H := Option.bind_eq_some_iff.mp H
        obtain ⟨t147, A100, H⟩ := H
        replace H : ((laws_eqInt64S.f k t147 t137).bind fun t150 => (if t150 = true then ((laws_heldInt64S.f k t145 1).bind fun t151 => (if t151 < 0 then (some false) else (if t151 = t144 then (some true) else (some false)))) else (some false))) = some r := H
        have A10 := Aside0.mk A100
        clear A100
        replace H := Option.bind_eq_some_iff.mp H
        obtain ⟨t150, A110, H⟩ := H
        replace H : (if t150 = true then ((laws_heldInt64S.f k t145 1).bind fun t151 => (if t151 < 0 then (some false) else (if t151 = t144 then (some true) else (some false)))) else (some false)) = some r := H
        have A11 := Aside0.mk A110
        clear A110
        by_cases c12 : t150 = true
        · subst c12
          have H1 : ((laws_heldInt64S.f k t145 1).bind fun t151 => (if t151 < 0 then (some false) else (if t151 = t144 then (some true) else (some false)))) = some r := by rw [if_pos rfl] at H; exact H
          clear H
          have H := H1
          clear H1
          replace H := Option.bind_eq_some_iff.mp H
          obtain ⟨t151, A130, H⟩ := H
          replace H : (if t151 < 0 then (some false) else (if t151 = t144 then (some true) else (some false))) = some r := H
          have A13 := Aside0.mk A130
          clear A130
          by_cases c14 : t151 < 0
          · rw [if_pos c14] at H
            have c14b0 : decide (t151 < 0) = true := decide_eq_true c14
            clear c14
            exact absurd ((Option.some.inj H).trans HT_.out) (by simp)
          · rw [if_neg c14] at H
            have c14b0 : decide (t151 < 0) = false := decide_eq_false c14
            clear c14
            by_cases c15 : t151 = t144
            · rw [if_pos c15] at H
              have c15b0 : (t151 == t144) = true := beq_iff_eq.mpr c15
              have c15b1 : (t151 != t144) = false := bne_eq_false_iff_eq.mpr c15
              clear c15
              obtain rfl := Option.some.inj H
              go_enter Try.func5, Try.ntmps5
              go_wp2_with (first | ((with_reducible refine gate_callee (f := 19) rfl ?_); refine goesL_ (some 9) rfl rfl Try.func19 (by kernel_rfl) rfl #[.int .i64 a0] rfl (by (try simp only [List.map_toArray, List.map_cons, List.map_nil]); first | done | rfl | (simp only [List.length_drop, List.length_take]; rfl)) ?_; (with_reducible refine (spec_Perm4.calls k a0 t137 _ A2.out).mono ?_); rintro e w16 ⟨v138, rfl, ho0, hb⟩; refine ⟨_, rfl, ?_⟩; have n0_ := Aside0.mk (Kd.R_lower ho0 (below_size (by repeat (first | (with_reducible first | exact HB.out | apply below_alloc | apply pw_below_drewN | apply below_drew1) | exact HB.out)))); have n1_ := Aside0.mk (below_step (by repeat (first | (with_reducible first | exact HB.out | apply below_alloc | apply pw_below_drewN | apply below_drew1) | exact HB.out)) hb); clear HB; have HO139 := n0_; have HB := n1_; clear n0_ n1_; (try clear hb); (try clear hb2); (try clear hk); (try clear hi); (try clear ho0)) | ((with_reducible refine gate_callee (f := 20) rfl ?_); refine goesL_ (some 11) rfl rfl Try.func20 (by kernel_rfl) rfl #[.int .i64 a0] rfl (by (try simp only [List.map_toArray, List.map_cons, List.map_nil]); first | done | rfl | (simp only [List.length_drop, List.length_take]; rfl)) ?_; (with_reducible refine (impl_Perm4.calls a0 t140 _ A3.out).mono ?_); rintro e w17 ⟨v141, rfl, ho0, hb⟩; refine ⟨_, rfl, ?_⟩; have n0_ := Aside0.mk (Kd.R_elder' (by (with_reducible repeat (first | apply Kd.R_alloc | apply Kd.R_drewN | apply Kd.R_drew)); exact HO139.out) (Kd.R_base ho0) hb); have n1_ := Aside0.mk (Kd.R_lower (Kd.R_new' ho0 (Kd.R_lt (by (with_reducible repeat (first | apply Kd.R_alloc | apply Kd.R_drewN | apply Kd.R_drew)); exact HO139.out))) (below_size (by repeat (first | (with_reducible first | exact HB.out | apply below_alloc | apply pw_below_drewN | apply below_drew1) | exact HB.out)))); have n2_ := Aside0.mk (below_step (by repeat (first | (with_reducible first | exact HB.out | apply below_alloc | apply pw_below_drewN | apply below_drew1) | exact HB.out)) hb); clear HO139; clear HB; have HO139 := n0_; have HO142 := n1_; have HB := n2_; clear n0_ n1_ n2_; (try clear hb); (try clear hb2); (try clear hk); (try clear hi); (try clear ho0); obtain ⟨Ao18, co18, eo18⟩ := Kd.R_slice HO142.out; subst eo18; obtain ⟨Ao19, co19, eo19⟩ := Kd.R_slice HO139.out; subst eo19) | ((with_reducible refine gate_callee (f := 21) rfl ?_); refine goesL_ (some 14) rfl rfl Try.func21 (by kernel_rfl) rfl #[.slice Ao18 t140.length co18, .slice Ao19 t137.length co19] rfl (by (try simp only [List.map_toArray, List.map_cons, List.map_nil]); first | done | rfl | (simp only [List.length_drop, List.length_take]; rfl)) ?_; (with_reducible refine (laws_eqInt64S.calls k _ _ t140 _ _ t137 true _ ?side1 ?side2 ?side3 ?side4 A4.out).mono ?_); (case side1 => repeat (first | exact (Kd.R_reads' HO142.out).2.2 | (with_reducible refine Kd.C_alloc ?_ _) | (with_reducible refine Kd.C_drewN ?_ _) | (with_reducible refine Kd.C_drew ?_))); (case side2 => exact (Kd.R_reads' HO142.out).2.1); (case side3 => repeat (first | exact (Kd.R_reads' HO139.out).2.2 | (with_reducible refine Kd.C_alloc ?_ _) | (with_reducible refine Kd.C_drewN ?_ _) | (with_reducible refine Kd.C_drew ?_))); (case side4 => exact (Kd.R_reads' HO139.out).2.1); rintro e w' ⟨rfl, ⟨nd, rfl⟩⟩; refine ⟨_, rfl, ?_⟩) | ((with_reducible refine gate_callee (f := 22) rfl ?_); refine goesL_ (some 18) rfl rfl Try.func22 (by kernel_rfl) rfl #[.slice Ao18 t140.length co18, .int .i64 1] rfl (by (try simp only [List.map_toArray, List.map_cons, List.map_nil]); first | done | rfl | (simp only [List.length_drop, List.length_take]; rfl)) ?_; (with_reducible refine (laws_markInt64S.calls k (fun k_ => some k_ = (.slice Ao18 t140.length co18 : Value).ownBlock) (.slice Ao18 t140.length co18) t140 1 t144 t145 w _ ?side1 ?side2 A6.out).mono ?_); (case side1 => repeat (first | (with_reducible first | exact HB.out | apply below_alloc | apply pw_below_drewN | apply below_drew1) | exact HB.out)); (case side2 => exact Kd.R_tight rfl HO142.out); rintro e w20 ⟨rfl, hy0, hb, hkp⟩; refine ⟨_, rfl, ?_⟩; have n0_ := Aside0.mk (Kd.R_mono (ok' := fun k_ => some k_ ≠ (.slice Ao18 t140.length co18 : Value).ownBlock) (Kd.R_keptB (HO139.out) hkp (fun k_ hk_ hs_ => (hk_.2) hs_)) (fun k_ hk_ => hk_.1.2)); have n1_ := Aside0.mk (Kd.R_reok rfl hy0 (fun k_ e_ => HO142.out.1 k_ e_)); have n2_ := Aside0.mk (hb); clear HO139; clear HO142; clear HB; have HO139 := n0_; have HO142 := n1_; have HB := n2_; clear n0_ n1_ n2_; (try clear hb); (try clear hkp); (try clear hy0)) | ((with_reducible refine gate_callee (f := 23) rfl ?_); refine goesL_ (some 21) rfl rfl Try.func23 (by kernel_rfl) rfl #[.slice Ao18 t145.length co18, .int .i64 1] rfl (by (try simp only [List.map_toArray, List.map_cons, List.map_nil]); first | done | (rw [show t145.length = t140.length from (Kd.R_reads' HO142.out).1.symm] <;> rfl) | rfl | (simp only [List.length_drop, List.length_take]; rfl)) ?_; (with_reducible refine (laws_heldInt64S.calls k _ _ t145 1 t146 _ ?side1 ?side2 A7.out).mono ?_); (case side1 => repeat (first | exact (Kd.R_reads' HO142.out).2.2 | (with_reducible refine Kd.C_alloc ?_ _) | (with_reducible refine Kd.C_drewN ?_ _) | (with_reducible refine Kd.C_drew ?_))); (case side2 => rw [show t145.length = t140.length from (Kd.R_reads' HO142.out).1.symm]; exact (Kd.R_reads' HO142.out).2.1); rintro e w' ⟨rfl, ⟨nd, rfl⟩⟩; refine ⟨_, rfl, ?_⟩) | ((with_reducible refine gate_callee (f := 20) rfl ?_); refine goesL_ (some 28) rfl rfl Try.func20 (by kernel_rfl) rfl #[.int .i64 a0] rfl (by (try simp only [List.map_toArray, List.map_cons, List.map_nil]); first | done | rfl | (simp only [List.length_drop, List.length_take]; rfl)) ?_; (with_reducible refine (impl_Perm4.calls a0 t147 _ A10.out).mono ?_); rintro e w21 ⟨v148, rfl, ho0, hb⟩; refine ⟨_, rfl, ?_⟩; have n0_ := Aside0.mk (Kd.R_elder' (by (with_reducible repeat (first | apply Kd.R_alloc | apply Kd.R_drewN | apply Kd.R_drew)); exact HO139.out) (Kd.R_base ho0) hb); have n1_ := Aside0.mk (Kd.R_elder' (by (with_reducible repeat (first | apply Kd.R_alloc | apply Kd.R_drewN | apply Kd.R_drew)); exact HO142.out) (Kd.R_base ho0) hb); have n2_ := Aside0.mk (Kd.R_lower (Kd.R_new' (Kd.R_new' ho0 (Kd.R_lt (by (with_reducible repeat (first | apply Kd.R_alloc | apply Kd.R_drewN | apply Kd.R_drew)); exact HO139.out))) (Kd.R_lt (by (with_reducible repeat (first | apply Kd.R_alloc | apply Kd.R_drewN | apply Kd.R_drew)); exact HO142.out))) (below_size (by repeat (first | (with_reducible first | exact HB.out | apply below_alloc | apply pw_below_drewN | apply below_drew1) | exact HB.out)))); have n3_ := Aside0.mk (below_step (by repeat (first | (with_reducible first | exact HB.out | apply below_alloc | apply pw_below_drewN | apply below_drew1) | exact HB.out)) hb); clear HO139; clear HO142; clear HB; have HO139 := n0_; have HO142 := n1_; have HO149 := n2_; have HB := n3_; clear n0_ n1_ n2_ n3_; (try clear hb); (try clear hb2); (try clear hk); (try clear hi); (try clear ho0); obtain ⟨Ao22, co22, eo22⟩ := Kd.R_slice HO149.out; subst eo22) | ((with_reducible refine gate_callee (f := 21) rfl ?_); refine goesL_ (some 31) rfl rfl Try.func21 (by kernel_rfl) rfl #[.slice Ao22 t147.length co22, .slice Ao19 t137.length co19] rfl (by (try simp only [List.map_toArray, List.map_cons, List.map_nil]); first | done | rfl | (simp only [List.length_drop, List.length_take]; rfl)) ?_; (with_reducible refine (laws_eqInt64S.calls k _ _ t147 _ _ t137 true _ ?side1 ?side2 ?side3 ?side4 A11.out).mono ?_); (case side1 => repeat (first | exact (Kd.R_reads' HO149.out).2.2 | (with_reducible refine Kd.C_alloc ?_ _) | (with_reducible refine Kd.C_drewN ?_ _) | (with_reducible refine Kd.C_drew ?_))); (case side2 => exact (Kd.R_reads' HO149.out).2.1); (case side3 => repeat (first | exact (Kd.R_reads' HO139.out).2.2 | (with_reducible refine Kd.C_alloc ?_ _) | (with_reducible refine Kd.C_drewN ?_ _) | (with_reducible refine Kd.C_drew ?_))); (case side4 => exact (Kd.R_reads' HO139.out).2.1); rintro e w' ⟨rfl, ⟨nd, rfl⟩⟩; refine ⟨_, rfl, ?_⟩) | ((with_reducible refine gate_callee (f := 23) rfl ?_); refine goesL_ (some 35) rfl rfl Try.func23 (by kernel_rfl) rfl #[.slice Ao18 t145.length co18, .int .i64 1] rfl (by (try simp only [List.map_toArray, List.map_cons, List.map_nil]); first | done | (rw [show t145.length = t140.length from (Kd.R_reads' HO142.out).1.symm] <;> rfl) | rfl | (simp only [List.length_drop, List.length_take]; rfl)) ?_; (with_reducible refine (laws_heldInt64S.calls k _ _ t145 1 t151 _ ?side1 ?side2 A13.out).mono ?_); (case side1 => repeat (first | exact (Kd.R_reads' HO142.out).2.2 | (with_reducible refine Kd.C_alloc ?_ _) | (with_reducible refine Kd.C_drewN ?_ _) | (with_reducible refine Kd.C_drew ?_))); (case side2 => rw [show t145.length = t140.length from (Kd.R_reads' HO142.out).1.symm]; exact (Kd.R_reads' HO142.out).2.1); rintro e w' ⟨rfl, ⟨nd, rfl⟩⟩; refine ⟨_, rfl, ?_⟩))
              go_ret
              exact ⟨by first | rfl | (simp [errW_none, errW_some] <;> rfl) | (simp [*, errW_none, errW_some] <;> rfl), by repeat (first | (with_reducible first | exact HB.out | apply below_alloc | apply pw_below_drewN | apply below_drew1) | exact HB.out)⟩
            · rw [if_neg c15] at H
              have c15b0 : (t151 == t144) = false := beq_eq_false_iff_ne.mpr c15
              have c15b1 : (t151 != t144) = true := bne_iff_ne.mpr c15
              exact absurd ((Option.some.inj H).trans HT_.out) (by simp)
        · replace c12 := Bool.eq_false_iff.mpr c12
          subst c12
          have H1 : (some false) = some r := by rw [if_neg (show ¬ (false = true) by decide)] at H; exact H
          clear H
          have H := H1
          clear H1
          exact absurd ((Option.some.inj H).trans HT_.out) (by simp)
      · rw [if_neg c9] at H
        have c9b0 : (t146 == t144) = false := beq_eq_false_iff_ne.mpr c9
        have c9b1 : (t146 != t144) = true := bne_iff_ne.mpr c9
        exact absurd ((Option.some.inj H).trans HT_.out) (by simp)
  · replace c5 := Bool.eq_false_iff.mpr c5
    subst c5
    have H1 : (some false) = some r := by rw [if_neg (show ¬ (false = true) by decide)] at H; exact H
    clear H
    have H := H1
    clear H1
    exact absurd ((Option.some.inj H).trans HT_.out) (by simp)

/-- THE ONE PURE STATEMENT of laws_FnExactPerm4: yours. -/
def laws_FnExactPerm4.Pure : Prop := ∀ (a0 : Int), (Lit.int .i64 a0).wf = true → ∃ k, laws_FnExactPerm4.f k a0 = some true
theorem laws_FnExactPerm4.walk (P : laws_FnExactPerm4.Pure) (a0 : Int) (w : World) (w0 : (Lit.int .i64 a0).wf = true) :
    Calls Try.prog 5 #[.int .i64 a0] w fun e w' => e = .returned (.bool true) ∧ Below w.heap.size w w' := by
  obtain ⟨k, h⟩ := P a0 w0
  refine (laws_FnExactPerm4.calls k a0 true w h ⟨rfl⟩).mono ?_
  rintro e w' ⟨rfl, hd⟩
  exact ⟨rfl, hd⟩

end Go.Proofs.Ytmffjekpnibnfaa.PFnExactPerm4
