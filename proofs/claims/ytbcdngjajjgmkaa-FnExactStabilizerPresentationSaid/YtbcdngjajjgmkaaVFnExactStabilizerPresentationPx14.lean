/- Written by this session's program out of the kit's print and this session's contracts. -/
import Derived.Test.YtbcdngjajjgmkaaVFnExactStabilizerPresentationPx0
import Derived.Test.YtbcdngjajjgmkaaVFnExactStabilizerPresentationPx10
import Derived.Test.YtbcdngjajjgmkaaVFnExactStabilizerPresentationPx11
import Derived.Test.YtbcdngjajjgmkaaVFnExactStabilizerPresentationPx13
namespace Go.Proofs.Ytbcdngjajjgmkaa.PFnExactStabilizerPresentation
open Go.RowKit Go.Proofs.YtbcdngjajjgmkaaW.PrintWords Go.Proofs.YtbcdngjajjgmkaaW.PrintLast Go.Proofs.YtbcdngjajjgmkaaW.PrintMore
attribute [local go_sem] max2_int min2_int max_two min_two max_three min_three max_four min_four   -- for this text's walks alone
set_option linter.unusedVariables false
set_option linter.unusedSimpArgs false

/-! ### impl_pairLetters: function 56 -/
/-- bits.Mul at this program's numbers (the shelf's contract). -/
def Try.laysM_ren : Go.Shelf.Ren := ⟨fun | 212 => 117 | 263 => 132 | 264 => 133 | n => n, fun | 46 => 108 | 51 => 122 | 53 => 125 | 146 => 123 | 148 => 126 | n => n, fun | n => n⟩
theorem Try.laysM : Go.Proofs.Lays.n212 Try.prog Try.laysM_ren := {
  mixed := by kernel_rfl
  f212 := Try.func117.trans (congrArg some (by kernel_rfl))
  f263 := Try.func132.trans (congrArg some (by kernel_rfl))
  f264 := Try.func133.trans (congrArg some (by kernel_rfl))
  t46 := Try.underlying108
  a46 := Try.isAgg108
  z46 := Try.sizeOf108
  v46 := Try.zeroValue108
  t51 := Try.underlying122
  a51 := Try.isAgg122
  z51 := Try.sizeOf122
  v51 := Try.zeroValue122
  t53 := Try.underlying125
  a53 := Try.isAgg125
  z53 := Try.sizeOf125
  v53 := Try.zeroValue125
  t146 := Try.underlying123
  a146 := Try.isAgg123
  z146 := Try.sizeOf123
  v146 := Try.zeroValue123
  t148 := Try.underlying126
  a148 := Try.isAgg126
  z148 := Try.sizeOf126
  v148 := Try.zeroValue126 }
def slices_Repeat_int64_int64.f (l0 : List Int) (a1 : Int) : Option (List Int) := if l0.length = 1 ∧ 0 ≤ a1 ∧ a1 ≤ 1024 then some (List.replicate a1.toNat (rd l0 0)) else none
theorem mul_small (n : Nat) (hn : n ≤ 1024) (w : World) : Calls Try.prog 117 #[.int .u64 1, .int .u64 (n : Int)] w fun e w' => e = .returned (.tuple #[.int .u64 0, .int .u64 (n : Int)]) ∧ w' = w := by
  have h := Any.bits_Mul Try.laysM 1 n (by omega) (by omega) w
  rw [Nat.one_mul, Nat.div_eq_of_lt (by omega : n < 18446744073709551616), Nat.mod_eq_of_lt (by omega : n < 18446744073709551616)] at h
  exact h
def rowR (x : Int) (n k : Nat) : List Value := List.replicate k (.int .i64 x) ++ List.replicate (n - k) (.int .i64 0)
theorem rowR_len (x : Int) (n k : Nat) (h : k ≤ n) : (rowR x n k).length = n := by
  unfold rowR
  simp
  omega
theorem rowR_splice (x : Int) (n k m : Nat) (h : k + m ≤ n) : splice (rowR x n k) k (List.replicate m (.int .i64 x)) = rowR x n (k + m) := by
  unfold splice rowR
  rw [List.take_append_of_le_length (by simp), List.take_of_length_le (by simp), List.length_replicate, List.drop_append, List.drop_eq_nil_of_le (by simp), List.nil_append, List.length_replicate, List.drop_replicate, ← List.append_assoc, List.replicate_append_replicate]
  congr 2
  omega
set_option maxHeartbeats 8000000 in
set_option maxRecDepth 100000 in
theorem repeat_one (ad : Addr) (c0 : Nat) (x : Int) (n : Nat) (w : World) (hx : w.cell? ad = some (.int .i64 x)) (hc0 : 1 ≤ c0) (hn : n ≤ 1024) :
    Calls Try.prog 91 #[.slice (some ad) 1 c0, .int .i64 (n : Int)] w fun e w' => e = .returned (.slice (some ⟨w.heap.size, 0, none⟩) n n) ∧ w'.heap[w.heap.size]? = some (.cells (rowR x n n).toArray 2 (0, 0)) ∧ Below w.heap.size w w' := by
  have hMul := fun W => mul_small n hn W
  have hlt : ((n : Int) < 0) = False := eq_false (by omega)
  have hd1 : decide ((n : Int) < 0) = false := decide_eq_false (by omega)
  have hd2 : decide ((n : Int) > 9223372036854775807) = false := decide_eq_false (by omega)
  have hmk := print_make (P := Try.prog) 39 2 .i64 8 Try.underlying39 (by kernel_rfl) (by decide) n (by omega)
  have HX := Aside0.mk hx
  have HN := Aside0.mk hn
  obtain ⟨q, hq⟩ : ∃ q, q = min 1 n := ⟨_, rfl⟩
  have HQ : Aside0 (q = min 1 n ∧ q ≤ 1 ∧ q ≤ n ∧ (n = 0 ∨ 1 ≤ q)) := ⟨by omega⟩
  clear hq
  clear hx
  have hg1 : (w.alloc (.cells (madeCells #[Value.int .i64 0] n) 2)).heap[w.heap.size]? = some (.cells (rowR x n 0).toArray 2 (0, 0)) := by
    rw [heap_alloc_new]
    unfold rowR
    have hl : (madeCells #[Value.int .i64 0] n).toList = List.replicate n (.int .i64 0) := by
      apply List.ext_getElem?
      intro j
      by_cases hj : j < n
      · simp [madeCells, hj, Nat.mod_one]
      · simp [madeCells, hj]
    rw [List.replicate_zero, List.nil_append, Nat.sub_zero, ← hl]
  have HG1 := Aside0.mk hg1
  clear hg1
  have HSRC : Aside0 (∀ j v, (List.replicate q (Value.int .i64 x))[j]? = some v → (w.alloc (.cells (madeCells #[Value.int .i64 0] n) 2)).cell? (ad.add j) = some v) := ⟨fun j v hj => by
    have hj2 : j < q ∧ Value.int .i64 x = v := by
      rw [List.getElem?_replicate] at hj
      split at hj
      · exact ⟨by assumption, Option.some.inj hj⟩
      · cases hj
    have hj0 : j = 0 := by have := HQ.out; omega
    subst hj0
    rw [← hj2.2, Addr.add_zero']
    exact (((Below.refl w.heap.size w).alloc (Nat.le_refl _) _).cell (World.block_lt_of_cell? w _ HX.out)).trans HX.out⟩
  go_enter Try.func91, Try.ntmps91
  go_upto_region 7 with (first | (go_at_call 117; go_fit (hMul _); rintro e w' ⟨rfl, hw⟩; rw [hw]))
  go_wp2_with (refine wpList_copy_splice (o := ⟨some 33, _, _, _, _, _⟩) rfl (.tmp 31) (.tmp 32) 39 39 rfl 2 Try.underlying39 (by kernel_rfl) (some ⟨w.heap.size, 0, none⟩) (some ad) n n 1 c0 rfl rfl w.heap.size 0 (rowR x n 0) 2 HG1.out (List.replicate q (.int .i64 x)) (by rw [List.length_replicate]; exact HQ.out.1) (fun _ => ⟨rfl, ad, rfl, HSRC.out⟩) (by rw [rowR_len x n 0 (Nat.zero_le _), List.length_replicate]; have := HQ.out; omega) (by intro v hv; rw [(List.mem_replicate.1 hv).2]; rfl) w.heap.size w ((Below.refl w.heap.size w).alloc (Nat.le_refl _) _) (Nat.le_refl _) ?_; intro w2 HG2 hB2)
  have hsp1 : splice (rowR x n 0) 0 (List.replicate q (Value.int .i64 x)) = rowR x n q := by rw [rowR_splice x n 0 q (by have := HQ.out; omega), Nat.zero_add]
  have HG3 := Aside0.mk (show w2.heap[w.heap.size]? = some (.cells (rowR x n q).toArray 2 (0, 0)) by rw [← hsp1]; exact HG2.out)
  have HB3 := Aside0.mk hB2
  clear hsp1 HG2 hB2
  go_loopg [8] n (fun gg s8 wr => ∃ kk : Nat, (n = 0 ∨ 1 ≤ kk) ∧ kk ≤ n ∧ n - kk ≤ gg ∧ s8 = .int .i64 kk ∧ Aside0 (wr.heap[w.heap.size]? = some (.cells (rowR x n kk).toArray 2 (0, 0))) ∧ Aside0 (Below w.heap.size w wr))
  case atStart => exact ⟨q, HQ.out.2.2.2, HQ.out.2.2.1, by omega, by (first | rfl | (show Value.int .i64 _ = _; rw [List.length_replicate])), HG3, HB3⟩
  case round =>
    obtain ⟨kk, hk1, hkn, hg, rfl, RG, RB⟩ := hrel
    by_cases hlt : kk < n
    · have hltz : (kk : Int) < (n : Int) := by omega
      have hm : min kk (n - kk) ≤ n - kk := Nat.min_le_right _ _
      have hm2 : min kk (n - kk) ≤ kk := Nat.min_le_left _ _
      have hm3 : 1 ≤ min kk (n - kk) := by rw [Nat.le_min]; omega
      generalize hmm : min kk (n - kk) = m at hm hm2 hm3
      have hne : ¬ n = kk := by omega
      have hne2 : ¬ kk = n := by omega
      have hle : (kk : Int) ≤ (n : Int) := by omega
      have RSRC : Aside0 (∀ j v, (List.replicate m (Value.int .i64 x))[j]? = some v → wr.cell? ((⟨w.heap.size, 0, none⟩ : Addr).add j) = some v) := ⟨fun j v hj => by
        have hj2 : j < m ∧ Value.int .i64 x = v := by
          rw [List.getElem?_replicate] at hj
          split at hj
          · exact ⟨by assumption, Option.some.inj hj⟩
          · cases hj
        rw [add_plain, blk_cell RG.out j, ← hj2.2]
        unfold rowR
        rw [List.getElem?_toArray, List.getElem?_append_left (by rw [List.length_replicate]; omega), List.getElem?_replicate, if_pos (by omega)]⟩
      have RM := Aside0.mk hmm
      have RW := Aside0.mk (show IntKind.i64.wrap ((kk : Int) + (m : Int)) = ((kk + m : Nat) : Int) from by rw [IntKind.wrap_i64]; omega)
      have RF : Aside0 (kk + m ≤ n) := ⟨by omega⟩
      go_upto_region 9 with fail
      refine wp_region_held_drew (S := fun _ => True) (by kernel_rfl) ?z_s (fun hHeld => ?z_0)
      case z_s => exact trivial
      case z_0 =>
      refine takeD (i := 0) (some 38) (v := ?z1_v) rfl rfl (by kernel_rfl) (by kernel_rfl) (by kernel_rfl) (fun _ _ _ h => h) (Or.inl ⟨by rfl, ?z1_y⟩) hHeld ?z1_n
      case z1_y => intro w_ hS_; (try dsimp only at hS_); go_simp; try (with_reducible rfl)
      simp only [Act.put, List.setIfInBounds_toArray, List.set_cons_zero, List.set_cons_succ]
      refine takeD (i := 1) (some 39) (v := ?z2_v) rfl rfl (by kernel_rfl) (by kernel_rfl) (by kernel_rfl) (fun _ _ _ h => h) (Or.inl ⟨by rfl, ?z2_y⟩) hHeld ?z2_n
      case z2_y => intro w_ hS_; (try dsimp only at hS_); go_simp; try (with_reducible rfl)
      simp only [Act.put, List.setIfInBounds_toArray, List.set_cons_zero, List.set_cons_succ]
      refine takeD (i := 2) (some 40) (v := ?z3_v) rfl rfl (by kernel_rfl) (by kernel_rfl) (by kernel_rfl) (fun _ _ _ h => h) (Or.inl ⟨by rfl, ?z3_y⟩) hHeld ?z3_n
      case z3_y => intro w_ hS_; (try dsimp only at hS_); go_simp; try (with_reducible rfl)
      simp only [Act.put, List.setIfInBounds_toArray, List.set_cons_zero, List.set_cons_succ]
      refine takeD (i := 3) (some 41) (v := ?z4_v) rfl rfl (by kernel_rfl) (by kernel_rfl) (by kernel_rfl) (fun _ _ _ h => h) (Or.inl ⟨by rfl, ?z4_y⟩) hHeld ?z4_n
      case z4_y => intro w_ hS_; (try dsimp only at hS_); go_simp; try (with_reducible rfl)
      simp only [Act.put, List.setIfInBounds_toArray, List.set_cons_zero, List.set_cons_succ]
      refine takeD (i := 4) (some 42) (v := ?z5_v) rfl rfl (by kernel_rfl) (by kernel_rfl) (by kernel_rfl) (fun _ _ _ h => h) (Or.inl ⟨by rfl, ?z5_y⟩) hHeld ?z5_n
      case z5_y => intro w_ hS_; (try dsimp only at hS_); go_simp; try (with_reducible rfl)
      simp only [Act.put, List.setIfInBounds_toArray, List.set_cons_zero, List.set_cons_succ]
      refine takeD (i := 5) (some 43) (v := ?z6_v) rfl rfl (by kernel_rfl) (by kernel_rfl) (by kernel_rfl) (fun _ _ _ h => h) (Or.inl ⟨by rfl, ?z6_y⟩) hHeld ?z6_n
      case z6_y => intro w_ hS_; (try dsimp only at hS_); go_simp; try (with_reducible rfl)
      simp only [Act.put, List.setIfInBounds_toArray, List.set_cons_zero, List.set_cons_succ]
      refine takeD (i := 6) (some 44) (v := ?z7_v) rfl rfl (by kernel_rfl) (by kernel_rfl) (by kernel_rfl) (fun _ _ _ h => h) (Or.inl ⟨by rfl, ?z7_y⟩) hHeld ?z7_n
      case z7_y => intro w_ hS_; (try dsimp only at hS_); go_simp; try (with_reducible rfl)
      simp only [Act.put, List.setIfInBounds_toArray, List.set_cons_zero, List.set_cons_succ]
      refine wpAnyH_ready (rs := [7]) (by kernel_rfl) (by simp) ?_
      refine AllReadyH.cons rfl (fun K hK => ?_) AllReadyH.nil
      refine step_copy_splice rfl (.tmp 41) (.tmp 44) 39 39 rfl 2 Try.underlying39 (by kernel_rfl) (some ⟨w.heap.size, kk, none⟩) (some ⟨w.heap.size, 0, none⟩) (n - kk) (n - kk) kk n rfl rfl w.heap.size kk (rowR x n kk) 2 RG.out (List.replicate m (.int .i64 x)) (by rw [List.length_replicate]; exact RM.out.symm) (fun _ => ⟨rfl, _, rfl, RSRC.out⟩) (by rw [rowR_len x n kk (by have := RF.out; omega), List.length_replicate]; exact RF.out) (by intro v hv; rw [(List.mem_replicate.1 hv).2]; rfl) w.heap.size w (below_drew1 RB.out) (Nat.le_refl _) ?_
      intro w4 hg4 hb4
      refine hK.out (Act.put _ (some 45) _) _ ?z8_s (fun hHeld2 => ?z8_n)
      case z8_s => exact trivial
      clear hK K hHeld; have hHeld := hHeld2; clear hHeld2
      simp only [Act.put, List.setIfInBounds_toArray, List.set_cons_zero, List.set_cons_succ]
      refine takeD (i := 8) (some 46) (v := ?z9_v) rfl rfl (by kernel_rfl) (by kernel_rfl) (by kernel_rfl) (fun _ _ _ h => h) (Or.inl ⟨by rfl, ?z9_y⟩) hHeld ?z9_n
      case z9_y => intro w_ hS_; (try dsimp only at hS_); go_simp; try (with_reducible rfl)
      simp only [Act.put, List.setIfInBounds_toArray, List.set_cons_zero, List.set_cons_succ]
      refine takeD (i := 9) (some 8) (v := ?z10_v) rfl rfl (by kernel_rfl) (by kernel_rfl) (by kernel_rfl) (fun _ _ _ h => h) (Or.inl ⟨by rfl, ?z10_y⟩) hHeld ?z10_n
      case z10_y => intro w_ hS_; (try dsimp only at hS_); go_simp; try (with_reducible rfl)
      simp only [Act.put, List.setIfInBounds_toArray, List.set_cons_zero, List.set_cons_succ]
      refine wpAnyH_done (by kernel_rfl) ?_ _
      have RG2 := Aside0.mk (show w4.heap[w.heap.size]? = some (.cells (rowR x n (kk + m)).toArray 2 (0, 0)) by rw [← rowR_splice x n kk m RF.out]; exact hg4.out)
      have RB2 := Aside0.mk hb4
      clear hg4 hb4
      go_wp2
      go_roundg (n - (kk + m))
      case measure => omega
      case rel => exact ⟨kk + m, by omega, by omega, by omega, congrArg (Value.int .i64) RW.out, RG2, RB2⟩
    · have hltz : ¬ (kk : Int) < (n : Int) := by omega
      have hk : kk = n := by omega
      subst hk
      go_wp2
      go_ret
      exact ⟨rfl, RG.out, RB.out⟩
def slcs (bs : List Nat) (G n : Nat) : List Value := bs.map (fun b => Value.slice (some ⟨b, 0, none⟩) G G) ++ List.replicate (n - bs.length) (.slice none 0 0)
/-- The letters' rows: block ob holds the rows' slices, row x lies in block bs[x]. -/
def LW (ob n G : Nat) (bs : List Nat) (L : List (List Int)) (hi : Nat) (wr : World) : Prop :=
  wr.heap[ob]? = some (.cells (slcs bs G n).toArray 39 (0, 0)) ∧ (∀ (x b : Nat), bs[x]? = some b → ∃ row, L[x]? = some row ∧ row.length = G ∧ wr.heap[b]? = some (.cells (row.map (Value.int .i64)).toArray 2 (0, 0))) ∧ L.length = bs.length ∧ (∀ (x b : Nat), bs[x]? = some b → ob < b ∧ b < hi) ∧ ob < hi ∧ (∀ (x y b : Nat), bs[x]? = some b → bs[y]? = some b → x = y) ∧ hi ≤ wr.heap.size
theorem LW.keep {ob n G : Nat} {bs : List Nat} {L : List (List Int)} {hi : Nat} {wr wr' : World} (h : LW ob n G bs L hi wr) (hk : ∀ k, k < hi → wr'.heap[k]? = wr.heap[k]?) (hs : wr.heap.size ≤ wr'.heap.size) : LW ob n G bs L hi wr' := by
  obtain ⟨h1, h2, h3, h4, h5, h6, h7⟩ := h
  refine ⟨(hk ob h5).trans h1, fun x b hb => ?_, h3, h4, h5, h6, Nat.le_trans h7 hs⟩
  obtain ⟨row, e1, e2, e3⟩ := h2 x b hb
  exact ⟨row, e1, e2, (hk b (h4 x b hb).2).trans e3⟩
theorem LW.below {ob n G : Nat} {bs : List Nat} {L : List (List Int)} {hi : Nat} {wr wr' : World} (h : LW ob n G bs L hi wr) (hb : Below wr.heap.size wr wr') : LW ob n G bs L hi wr' :=
  h.keep (fun k hk => hb.block k (Nat.lt_of_lt_of_le hk h.2.2.2.2.2.2)) hb.size
theorem slcs_len (bs : List Nat) (G n : Nat) (h : bs.length ≤ n) : (slcs bs G n).length = n := by
  unfold slcs
  simp
  omega
theorem slcs_snoc (bs : List Nat) (b G n : Nat) (h : bs.length < n) : (slcs bs G n).set bs.length (.slice (some ⟨b, 0, none⟩) G G) = slcs (bs ++ [b]) G n := by
  unfold slcs
  rw [List.set_append_right _ _ (by simp), List.length_map, Nat.sub_self, List.map_append, List.append_assoc]
  congr 1
  obtain ⟨d, hd⟩ : ∃ d, n - bs.length = d + 1 := ⟨n - bs.length - 1, by omega⟩
  rw [hd, List.replicate_succ, List.set_cons_zero, List.length_append, List.length_singleton, show n - (bs.length + 1) = d by omega]
  rfl
theorem LW.add {ob n G : Nat} {bs : List Nat} {L : List (List Int)} {hi hi' b : Nat} {row : List Int} {wr : World} (h : LW ob n G bs L hi wr) (hb : hi ≤ b) (hrow : wr.heap[b]? = some (.cells (row.map (Value.int .i64)).toArray 2 (0, 0))) (hl : row.length = G) (hn : bs.length < n) (hlt : b < hi') (hs : hi' ≤ wr.heap.size) :
    LW ob n G (bs ++ [b]) (L ++ [row]) hi' (wr.setCell ⟨ob, bs.length, none⟩ (.slice (some ⟨b, 0, none⟩) G G)) := by
  obtain ⟨h1, h2, h3, h4, h5, h6, h7⟩ := h
  have hlast : ∀ (x c : Nat), (bs ++ [b])[x]? = some c → bs[x]? = some c ∧ x < bs.length ∨ x = bs.length ∧ c = b := fun x c hx => by
    rcases Nat.lt_or_ge x bs.length with hx1 | hx1
    · rw [List.getElem?_append_left hx1] at hx
      exact .inl ⟨hx, hx1⟩
    · rw [List.getElem?_append_right hx1] at hx
      have : x - bs.length = 0 := by
        rcases Nat.eq_zero_or_pos (x - bs.length) with h0 | h0
        · exact h0
        · rw [List.getElem?_eq_none (by simp; omega)] at hx; cases hx
      rw [this] at hx
      exact .inr ⟨by omega, (Option.some.inj hx).symm⟩
  refine ⟨?_, fun x c hx => ?_, by simp [h3], fun x c hx => ?_, by omega, fun x y c hx hy => ?_, by simpa [World.setCell] using hs⟩
  · rw [blk_set h1 bs.length _, List.setIfInBounds_toArray, slcs_snoc bs b G n hn]
  · rcases hlast x c hx with ⟨hc, hxl⟩ | ⟨hx1, hc⟩
    · obtain ⟨row', e1, e2, e3⟩ := h2 x c hc
      exact ⟨row', by rw [List.getElem?_append_left (by omega)]; exact e1, e2, (Below.heap_setCell _ _ _ c (by have := (h4 x c hc).1; show c ≠ ob; omega)).trans e3⟩
    · subst hx1 hc
      exact ⟨row, by rw [List.getElem?_append_right (by omega), h3, Nat.sub_self]; rfl, hl, (Below.heap_setCell _ _ _ c (by show c ≠ ob; omega)).trans hrow⟩
  · rcases hlast x c hx with ⟨hc, _⟩ | ⟨_, hc⟩
    · have := h4 x c hc; omega
    · subst hc; omega
  · rcases hlast x c hx with ⟨hc, hx1⟩ | ⟨hx1, hc⟩ <;> rcases hlast y c hy with ⟨hd, hy1⟩ | ⟨hy1, hd⟩
    · exact h6 x y c hc hd
    · subst hd; have := (h4 x _ hc).2; omega
    · subst hc; have := (h4 y _ hd).2; omega
    · omega
theorem map_set_int (row : List Int) (g : Nat) (y : Int) : (row.map (Value.int .i64)).set g (.int .i64 y) = (row.set g y).map (Value.int .i64) := by
  rw [List.map_set]
theorem LW.put {ob n G : Nat} {bs : List Nat} {L : List (List Int)} {hi : Nat} {wr : World} (h : LW ob n G bs L hi wr) (x g b : Nat) (hx : bs[x]? = some b) (row : List Int) (hrow : L[x]? = some row) (y : Int) :
    LW ob n G bs (L.set x (row.set g y)) hi (wr.setCell ⟨b, g, none⟩ (.int .i64 y)) := by
  obtain ⟨h1, h2, h3, h4, h5, h6, h7⟩ := h
  refine ⟨(Below.heap_setCell _ _ _ ob (by have := (h4 x b hx).1; show ob ≠ b; omega)).trans h1, fun z c hz => ?_, by simp [h3], h4, h5, h6, by simpa [World.setCell] using h7⟩
  obtain ⟨row', e1, e2, e3⟩ := h2 z c hz
  by_cases hzx : z = x
  · subst hzx
    obtain rfl : c = b := Option.some.inj (hz.symm.trans hx)
    obtain rfl : row' = row := Option.some.inj (e1.symm.trans hrow)
    refine ⟨row'.set g y, by rw [List.getElem?_set_self (by have := List.getElem?_eq_some_iff.1 e1; exact this.1)], by rw [List.length_set]; exact e2, ?_⟩
    rw [blk_set e3 g _, List.setIfInBounds_toArray, map_set_int]
  · have hcb : c ≠ b := fun he => hzx (h6 z x b (he ▸ hz) hx)
    exact ⟨row', by rw [List.getElem?_set_ne (fun he => hzx he.symm)]; exact e1, e2, (Below.heap_setCell _ _ _ c hcb).trans e3⟩
theorem LW.look {ob n G : Nat} {bs : List Nat} {L : List (List Int)} {hi : Nat} {wr : World} (h : LW ob n G bs L hi wr) (hn : bs.length = n) (x g : Nat) (hx : x < n) (hg : g < G) :
    ∃ b row, bs[x]? = some b ∧ L[x]? = some row ∧ row.length = G ∧ (ob < b ∧ b < hi) ∧ wr.cell? ⟨ob, x, none⟩ = some (.slice (some ⟨b, 0, none⟩) G G) ∧ (∃ z, row[g]? = some z ∧ wr.cell? ⟨b, g, none⟩ = some (.int .i64 z)) ∧ wr.frozen? ⟨b, g, none⟩ = false := by
  obtain ⟨h1, h2, h3, h4, h5, h6, h7⟩ := h
  have hb := List.getElem?_eq_getElem (show x < bs.length by omega)
  obtain ⟨row, e1, e2, e3⟩ := h2 x _ hb
  refine ⟨_, row, hb, e1, e2, h4 x _ hb, ?_, ⟨row[g]'(by omega), List.getElem?_eq_getElem (by omega), ?_⟩, blk_frozen e3 g⟩
  · rw [blk_cell h1 x]
    unfold slcs
    rw [List.getElem?_toArray, List.getElem?_append_left (by rw [List.length_map]; omega), List.getElem?_map, hb]
    rfl
  · rw [blk_cell e3 g, List.getElem?_toArray, List.getElem?_map, List.getElem?_eq_getElem (by omega)]
    rfl
theorem rd_app (l : List Int) (y : Int) (i : Nat) (h : i < l.length) : rd (l ++ [y]) (i : Int) = rd l i := by
  unfold rd
  rw [Int.toNat_natCast, List.getD_eq_getElem?_getD, List.getD_eq_getElem?_getD, List.getElem?_append_left h]
theorem drop_one_ {α : Type} {l : List α} {j : Nat} {v : α} (h : l[j]? = some v) : (l.drop j).take 1 = [v] := by
  obtain ⟨hx, e⟩ := List.getElem?_eq_some_iff.1 h
  rw [List.drop_eq_getElem_cons hx, e]
  rfl
theorem LW.S {ob n G : Nat} {bs : List Nat} {L : List (List Int)} {hi : Nat} {wr : World} (h : LW ob n G bs L hi wr) (hn : bs.length = n) (lo : Nat) (hlo : lo ≤ ob) (hnm : n ≤ 100000) (hGm : G ≤ 100000) : Kd.S (Kd.slice 2 (Kd.int .i64)) 39 wr lo (fun _ => True) (.slice (some ⟨ob, 0, none⟩) n n) L := by
  obtain ⟨h1, h2, h3, h4, h5, h6, h7⟩ := h
  have hin : slcs bs G n = bs.map (fun b => Value.slice (some ⟨b, 0, none⟩) G G) := by
    unfold slcs
    rw [hn, Nat.sub_self, List.replicate_zero, List.append_nil]
  refine ⟨fun k => Classical.epsilon fun j => bs[j]? = some k, fun _ _ => trivial, slcs bs G n, ⟨?_, .inr ⟨ob, n, _, by rw [List.length_zipIdx, h3, hn], hlo, h1, by rw [List.length_zipIdx, h3, hn]; exact Nat.le_refl _, by unfold maxLen; omega, ?_, ?_⟩⟩, ?_, fun j p hj => ?_⟩
  · rw [slcs_len bs G n (by omega), List.length_zipIdx, h3, hn]
    exact (Nat.mul_one n).symm
  · rw [List.size_toArray, slcs_len bs G n (by omega)]
    exact (Nat.mul_one n).symm
  · rw [List.length_zipIdx, h3, hn]
    show List.take (n * 1) _ = _
    rw [Nat.mul_one]
    exact List.take_of_length_le (by show (slcs bs G n).length ≤ n; rw [slcs_len bs G n (by omega)]; exact Nat.le_refl _)
  · rw [slcs_len bs G n (by omega), List.length_zipIdx, h3, hn]
    exact (Nat.mul_one n).symm
  · obtain ⟨row, q⟩ := p
    rw [List.getElem?_zipIdx] at hj
    obtain ⟨row', e1, e2⟩ := Option.map_eq_some_iff.1 hj
    have hr : row' = row ∧ 0 + j = q := Prod.mk.inj e2
    obtain rfl := hr.1
    have hq : j = q := by omega
    subst hq
    have hjl : j < bs.length := by rw [← h3]; exact (List.getElem?_eq_some_iff.1 e1).1
    have hb := List.getElem?_eq_getElem hjl
    obtain ⟨row2, f1, f2, f3⟩ := h2 j _ hb
    obtain rfl : row2 = row' := Option.some.inj (f1.symm.trans e1)
    refine ⟨.slice (some ⟨bs[j], 0, none⟩) G G, ?_, fun k hk => ?_, row2.map (Value.int .i64), ⟨by rw [List.length_map]; exact (Nat.mul_one _).symm, .inr ⟨bs[j], G, _, by rw [f2], by have := (h4 j _ hb).1; omega, f3, Nat.le_of_eq f2, by unfold maxLen; omega, by simp [f2, Kd.int, Kd.scalar], ?_⟩⟩, by simp [Kd.int, Kd.scalar], fun i z hz => ?_⟩
    · show List.take 1 (List.drop (j * 1) (slcs bs G n)) = _
      rw [hin, Nat.mul_one, drop_one_ (by rw [List.getElem?_map, hb]; rfl)]
    · have hk2 : bs[j] = k := by simpa [Value.ownBlock] using hk
      subst hk2
      refine ⟨⟨trivial, ?_⟩, ?_⟩
      · show some bs[j] ≠ some ob
        have := (h4 j _ hb).1
        intro he
        have := Option.some.inj he
        omega
      · have hex : ∃ q, bs[q]? = some bs[j] := ⟨j, hb⟩
        exact h6 _ _ _ (Classical.epsilon_spec hex) hb
    · show List.take (row2.length * 1) _ = _
      rw [Nat.mul_one]
      exact List.take_of_length_le (by simp)
    · show List.take 1 (List.drop (i * 1) _) = [Value.int .i64 z]
      rw [Nat.mul_one]
      exact drop_one_ (by rw [List.getElem?_map, hz]; rfl)
theorem at_row_ {e : Nat} {d : Kd Int} {w : World} {A : Option Addr} {l : List (List Int)} (h : (Kd.slice e d).C w A l.length l) (k : Nat) (hk : k < l.length) :
    ∃ ad A' c', A = some ad ∧ w.cell? (ad.add k) = some (.slice A' l[k].length c') ∧ l[k].length ≤ c' ∧ d.C w A' l[k].length l[k] := by
  obtain ⟨ad, rfl, hc⟩ := h.2.2 (by omega)
  obtain ⟨cs, hl, ⟨A', c', rfl, h1, h2⟩, hcell⟩ := hc k l[k] (List.getElem?_eq_getElem hk)
  exact ⟨ad, A', c', rfl, by simpa [Kd.slice] using hcell 0 _ rfl, h1, h2⟩
/-- One pair: the letter's place is cleared where the number is new. -/
def plS (K : Nat) (L1 : List (List Int)) (i g : Nat) (s : List Int × List (List Int)) : Option (List Int × List (List Int)) :=
  (slices_Contains_int64_int64.f K s.1 (rd (L1.getD g []) (rd s.1 i))).bind fun b => if b = true then some s else if s.1.length ≤ 1000000 then some (s.1 ++ [rd (L1.getD g []) (rd s.1 i)], s.2.set (rd s.1 i).toNat ((s.2.getD (rd s.1 i).toNat []).set g 0)) else none
def plIn (K : Nat) (L1 : List (List Int)) (i : Nat) : Nat → Nat → List Int × List (List Int) → Option (List Int × List (List Int))
  | 0, _, s => some s
  | d + 1, g, s => (plS K L1 i g s).bind (plIn K L1 i d (g + 1))
def plOut (K : Nat) (L1 : List (List Int)) : Nat → Nat → List Int × List (List Int) → Option (List Int × List (List Int))
  | 0, _, _ => none
  | d + 1, i, s => if i < s.1.length then (plIn K L1 i L1.length 0 s).bind (plOut K L1 d (i + 1)) else some s
def plCnt : List Int → Int → List Int × Int
  | [], c => ([], c)
  | z :: r, c => if z = 0 then (0 :: (plCnt r c).1, (plCnt r c).2) else ((c + 1) :: (plCnt r (c + 1)).1, (plCnt r (c + 1)).2)
def plAll : List (List Int) → Int → List (List Int) × Int
  | [], c => ([], c)
  | r :: t, c => ((plCnt r c).1 :: (plAll t (plCnt r c).2).1, (plAll t (plCnt r c).2).2)
def finO (L : List (List Int)) (x : Nat) (c : Int) : List (List Int) × Int := (L.take x ++ (plAll (L.drop x) c).1, (plAll (L.drop x) c).2)
def finG (L : List (List Int)) (x g : Nat) (c : Int) : List (List Int) × Int := (L.take x ++ (((L.getD x []).take g ++ (plCnt ((L.getD x []).drop g) c).1) :: (plAll (L.drop (x + 1)) (plCnt ((L.getD x []).drop g) c).2).1), (plAll (L.drop (x + 1)) (plCnt ((L.getD x []).drop g) c).2).2)
theorem getD_of {α : Type} {l : List α} {x : Nat} {r d : α} (h : l[x]? = some r) : l.getD x d = r := by rw [List.getD_eq_getElem?_getD, h]; rfl
theorem drop_of {α : Type} {l : List α} {x : Nat} {r : α} (h : l[x]? = some r) : l.drop x = r :: l.drop (x + 1) := by
  obtain ⟨hx, e⟩ := List.getElem?_eq_some_iff.1 h
  rw [List.drop_eq_getElem_cons hx, e]
theorem take_of {α : Type} {l : List α} {x : Nat} {r : α} (h : l[x]? = some r) : l.take (x + 1) = l.take x ++ [r] := by
  obtain ⟨hx, e⟩ := List.getElem?_eq_some_iff.1 h
  rw [List.take_succ_eq_append_getElem hx, e]
theorem finO_G {L : List (List Int)} {x : Nat} {row : List Int} (hx : L[x]? = some row) (c : Int) : finO L x c = finG L x 0 c := by
  unfold finO finG
  rw [getD_of hx, drop_of hx, List.take_zero, List.drop_zero, List.nil_append]
  rfl
theorem finG_zero {L : List (List Int)} {x g : Nat} {row : List Int} (hx : L[x]? = some row) (hz : row[g]? = some 0) (c : Int) : finG L x g c = finG L x (g + 1) c := by
  unfold finG
  rw [getD_of hx, drop_of hz, take_of hz, plCnt, if_pos rfl, List.append_assoc]
  rfl
theorem finG_next {L : List (List Int)} {x g : Nat} {row : List Int} {z : Int} (hx : L[x]? = some row) (hz : row[g]? = some z) (h0 : z ≠ 0) (c : Int) : finG L x g c = finG (L.set x (row.set g (c + 1))) x (g + 1) (c + 1) := by
  have hxl := (List.getElem?_eq_some_iff.1 hx).1
  have hgl := (List.getElem?_eq_some_iff.1 hz).1
  have h1 : (L.set x (row.set g (c + 1)))[x]? = some (row.set g (c + 1)) := List.getElem?_set_self hxl
  have h2 : (row.set g (c + 1))[g]? = some (c + 1) := List.getElem?_set_self hgl
  unfold finG
  rw [getD_of hx, getD_of h1, drop_of hz, take_of h2, plCnt, if_neg h0, List.append_assoc, List.take_set_of_le (Nat.le_refl _), List.drop_set_of_lt (by omega), List.take_set_of_le (Nat.le_refl _), List.drop_set_of_lt (by omega)]
  rfl
theorem finG_end {L : List (List Int)} {x g : Nat} {row : List Int} (hx : L[x]? = some row) (hg : row.length = g) (c : Int) : finG L x g c = finO L (x + 1) c := by
  unfold finG finO
  have e1 : row.drop g = [] := List.drop_of_length_le (by omega)
  have e2 : row.take g = row := List.take_of_length_le (by omega)
  rw [getD_of hx, e1, e2, take_of hx, plCnt, List.append_nil, List.append_assoc]
  rfl
theorem finO_end (L : List (List Int)) (c : Int) : finO L L.length c = (L, c) := by
  unfold finO
  rw [List.take_length, List.drop_length, plAll, List.append_nil]
def plOk (a0 : Int) (l1 : List (List Int)) : Prop := 1 ≤ a0 ∧ a0 ≤ 1000 ∧ l1.length ≤ 1000 ∧ ∀ r ∈ l1, (r.length : Int) = a0 ∧ ∀ y ∈ r, 0 ≤ y ∧ y < a0
instance (a0 : Int) (l1 : List (List Int)) : Decidable (plOk a0 l1) := by unfold plOk; infer_instance
def impl_pairLetters.f (k : Nat) (a0 : Int) (l1 : List (List Int)) : Option (List (List Int) × Int) := if plOk a0 l1 then (plOut k l1 k 0 ([0], List.replicate a0.toNat (List.replicate l1.length (-1)))).bind fun s => some (plAll s.2 0) else none
theorem plS.mono (l1 : List (List Int)) (i g : Nat) (s : List Int × List (List Int)) (K : Nat) : LeO (plS K l1 i g s) (plS (K + 1) l1 i g s) := LeO.bind (slices_Contains_int64_int64.mono _ _ K) fun _ => LeO.refl _
theorem plIn.mono (l1 : List (List Int)) (i K : Nat) : ∀ (d g : Nat) (s : List Int × List (List Int)), LeO (plIn K l1 i d g s) (plIn (K + 1) l1 i d g s)
  | 0, _, _ => LeO.refl _
  | d + 1, g, s => LeO.bind (plS.mono l1 i g s K) fun s' => plIn.mono l1 i K d (g + 1) s'
theorem plOut.mono (l1 : List (List Int)) (K : Nat) : ∀ (d i : Nat) (s : List Int × List (List Int)), LeO (plOut K l1 d i s) (plOut (K + 1) l1 (d + 1) i s)
  | 0, _, _ => fun r h => by cases h
  | d + 1, i, s => by
    rw [plOut, plOut]
    exact LeO.ite (LeO.bind (plIn.mono l1 i K l1.length 0 s) fun s' => plOut.mono l1 K d (i + 1) s') (LeO.refl _)
theorem impl_pairLetters.mono : ∀ a0 l1 k, LeO (impl_pairLetters.f k a0 l1) (impl_pairLetters.f (k + 1) a0 l1) := by
  intro a0 l1 k
  unfold impl_pairLetters.f
  exact LeO.ite (LeO.bind (plOut.mono l1 k k 0 _) fun _ => LeO.refl _) (LeO.refl _)
set_option maxHeartbeats 8000000 in
set_option maxRecDepth 100000 in
theorem impl_pairLetters.calls (k : Nat) (a0 : Int) (A1 : Option Addr) (c1 : Nat) (l1 : List (List Int)) (r1 : List (List Int)) (r2 : Int) (w : World) (hr1 : Kd.C (Kd.slice 2 (Kd.int .i64)) w A1 l1.length l1) (hc1 : l1.length ≤ c1) (h : impl_pairLetters.f k a0 l1 = some (r1, r2)) :
    Calls Try.prog 56 #[.int .i64 a0, .slice A1 l1.length c1] w fun e w' => ∃ v0_ : Value, e = .returned (.tuple #[v0_, .int .i64 r2]) ∧ Kd.S (Kd.slice 2 (Kd.int .i64)) 39 w' w.heap.size (fun _ => True) v0_ r1 ∧ Below w.heap.size w w' := by
  have hf : plOk a0 l1 ∧ ∃ s, plOut k l1 k 0 ([0], List.replicate a0.toNat (List.replicate l1.length (-1))) = some s ∧ plAll s.2 0 = (r1, r2) := by
    unfold impl_pairLetters.f at h
    by_cases hc : plOk a0 l1
    · rw [if_pos hc] at h
      obtain ⟨s, hs, h⟩ := Option.bind_eq_some_iff.mp h
      exact ⟨hc, s, hs, Option.some.inj h⟩
    · rw [if_neg hc] at h
      cases h
  clear h
  obtain ⟨hok, s, hs, hfin⟩ := hf
  obtain ⟨n, rfl⟩ : ∃ n : Nat, a0 = n := ⟨a0.toNat, by have := hok.1; omega⟩
  have HOK := Aside0.mk hok
  have HS := Aside0.mk hs
  have HFIN := Aside0.mk hfin
  have HR1 := Aside0.mk hr1
  have HC1 := Aside0.mk hc1
  have HNB := Aside0.mk (show 1 ≤ n ∧ n ≤ 1000 by have := hok.1; have := hok.2.1; omega)
  have hmk := print_make_of (P := Try.prog) 22 39 (.slice none 0 0) 24 Try.underlying22 (by kernel_rfl) rfl (by decide) n (by have := HNB.out; omega)
  clear hok hs hfin hr1 hc1
  go_enter Try.func56, Try.ntmps56
  go_upto_block 0 with fail
  go_wp2
  have hmc : (w.alloc (.cells (madeCells #[Value.slice none 0 0] n) 39)).heap[w.heap.size]? = some (.cells (slcs [] l1.length n).toArray 39 (0, 0)) := by
    rw [heap_alloc_new]
    have hl : (madeCells #[Value.slice none 0 0] n).toList = List.replicate n (.slice none 0 0) := by
      apply List.ext_getElem?
      intro j
      by_cases hj : j < n
      · simp [madeCells, hj, Nat.mod_one]
      · simp [madeCells, hj]
    unfold slcs
    rw [List.map_nil, List.nil_append, List.length_nil, Nat.sub_zero, ← hl]
  have H0 : LW w.heap.size n l1.length [] [] (w.heap.size + 1) (w.alloc (.cells (madeCells #[Value.slice none 0 0] n) 39)) :=
    ⟨hmc, fun x b hb => by simp at hb, rfl, fun x b hb => by simp at hb, by omega, fun x y b hb => by simp at hb, by simp⟩
  have HL0 := Aside0.mk H0
  clear H0 hmc
  go_loopg [7, 21] n (fun gg _ s21 wr => ∃ (kk : Nat) (bs : List Nat), kk + gg = n ∧ bs.length = kk ∧ s21 = .int .i64 kk ∧ Aside0 (LW w.heap.size n l1.length bs (List.replicate kk (List.replicate l1.length (-1))) wr.heap.size wr) ∧ Aside0 (Below w.heap.size w wr))
  case atStart => exact ⟨0, [], by omega, rfl, rfl, ⟨by simpa using HL0.out⟩, ⟨(Below.refl w.heap.size w).alloc (Nat.le_refl _) _⟩⟩
  case round =>
    obtain ⟨kk, bs, hg, hbl, rfl, RL, RB⟩ := hrel
    by_cases hlt : kk < n
    · have hltz : (kk : Int) < (n : Int) := by omega
      have hG : l1.length ≤ 1024 := by have := HOK.out.2.2.1; omega
      have hcu : ∀ W : World, Below wr.heap.size wr W → W.cell? ⟨w.heap.size, kk, none⟩ = some (.slice none 0 0) ∧ W.frozen? ⟨w.heap.size, kk, none⟩ = false := fun W hW => by
        have h1 := (RL.out.below hW).1
        refine ⟨(blk_cell h1 kk).trans ?_, blk_frozen h1 kk⟩
        unfold slcs
        rw [List.getElem?_toArray, List.getElem?_append_right (by rw [List.length_map]; omega), List.length_map, hbl, Nat.sub_self, List.getElem?_replicate, if_pos (by omega)]
      have HCU := Aside0.mk hcu
      have HHG := Aside0.mk hG
      have HBL := Aside0.mk hbl
      have HHg := Aside0.mk hg
      have HWK := Aside0.mk (show wrap64 ((kk : Int) + 1) = ((kk + 1 : Nat) : Int) from by have := HNB.out; unfold wrap64; omega)
      clear hcu hG hbl hg
      go_wp2_with (go_at_call 91; refine (repeat_one ⟨wr.heap.size, 0, none⟩ 1 (-1) l1.length _ (blk_cell (heap_alloc_new wr _) 0) (Nat.le_refl 1) HHG.out).mono ?_; rintro e w2 ⟨rfl, hrow, hb⟩; have hb2 : Below wr.heap.size wr w2 := ((Below.refl wr.heap.size wr).alloc (Nat.le_refl _) _).trans (hb.mono (by simp)); have hcz := (HCU.out w2 hb2).1; have hfz := (HCU.out w2 hb2).2; have HB2 := Aside0.mk hb2; have HRW := Aside0.mk hrow; have HSZ := Aside0.mk hb.size; clear hrow hb hb2)
      have HHL := Aside0.mk ((RL.out.below HB2.out).add (b := (wr.alloc (.cells #[Value.int .i64 (-1)] 2)).heap.size) (hi' := w2.heap.size) (row := List.replicate l1.length (-1)) (by simp) (by rw [HRW.out]; unfold rowR; simp) (by simp) (by have := HHg.out; have := HBL.out; omega) (blk_lt HRW.out) (Nat.le_refl _))
      go_roundg (n - (kk + 1))
      case measure => have := HHg.out; omega
      case rel => exact ⟨kk + 1, bs ++ [(wr.alloc (.cells #[Value.int .i64 (-1)] 2)).heap.size], by have := HHg.out; omega, by rw [List.length_append, HBL.out]; rfl, congrArg (Value.int .i64) HWK.out, ⟨by have h := HHL.out; rw [HBL.out] at h; rw [List.replicate_succ']; simpa using h⟩, ⟨below_set (RB.out.trans (HB2.out.mono (below_size RB.out))) (Nat.le_refl _)⟩⟩
    · have hltz : ¬ (kk : Int) < (n : Int) := by omega
      have hk : kk = n := by omega
      go_wp2
      have HL1 := Aside0.mk (show LW w.heap.size n l1.length bs (List.replicate n (List.replicate l1.length (-1))) wr.heap.size wr by have h := RL.out; rw [hk] at h; exact h)
      obtain ⟨hi0, hh0⟩ : ∃ q, q = wr.heap.size := ⟨_, rfl⟩
      have HLI : Aside0 (Kd.R (Kd.int .i64) 2 (wr.alloc (.cells #[Value.int .i64 0] 2)) w.heap.size (fun q => hi0 ≤ q) (.slice (some ⟨wr.heap.size, 0, none⟩) 1 1) [0]) := ⟨by
        rw [hh0]
        refine ⟨fun q hq => ?_, [.int .i64 0], own_lit_of (enc := Value.int .i64) wr w.heap.size 2 [0] (below_size RB.out) (by simp), ?_⟩
        · have : wr.heap.size = q := by simpa [Value.ownBlock] using hq
          show wr.heap.size ≤ q
          omega
        · refine ⟨rfl, fun j z hz => ?_⟩
          show List.take 1 (List.drop (j * 1) _) = [Value.int .i64 z]
          rw [Nat.mul_one]
          exact drop_one_ (l := [Value.int .i64 0]) (by rw [show [Value.int .i64 0] = [(0 : Int)].map (Value.int .i64) from rfl, List.getElem?_map, hz]; rfl)⟩
      have HL2 : Aside0 (LW w.heap.size n l1.length bs (List.replicate n (List.replicate l1.length (-1))) hi0 (wr.alloc (.cells #[Value.int .i64 0] 2))) := ⟨by rw [hh0]; exact HL1.out.below ((Below.refl wr.heap.size wr).alloc (Nat.le_refl _) _)⟩
      have HBN : Aside0 (bs.length = n) := ⟨by omega⟩
      have HB0 : Aside0 (Below w.heap.size w (wr.alloc (.cells #[Value.int .i64 0] 2))) := ⟨RB.out.trans (((Below.refl wr.heap.size wr).alloc (Nat.le_refl _) _).mono (below_size RB.out))⟩
      clear hk hg hh0 HL1 RL RB HL0
      go_loopg [8, 9] k (fun gg s8 s9 w2 => ∃ (i : Nat) (A : Option Addr) (c : Nat) (li : List Int) (L : List (List Int)), s8 = .slice A li.length c ∧ s9 = .int .i64 i ∧ Aside0 (i ≤ li.length ∧ li.length ≤ 1000001) ∧ Aside0 (plOut k l1 gg i (li, L) = some s) ∧ Aside0 (∀ y ∈ li, 0 ≤ y ∧ y < (n : Int)) ∧ Aside0 (Kd.R (Kd.int .i64) 2 w2 w.heap.size (fun q => hi0 ≤ q) (.slice A li.length c) li) ∧ Aside0 (LW w.heap.size n l1.length bs L hi0 w2) ∧ Aside0 (Below w.heap.size w w2))
      case atStart => exact ⟨0, _, 1, [0], _, rfl, rfl, ⟨by simp⟩, ⟨HS.out⟩, ⟨fun y hy => by have := HNB.out; rw [List.mem_singleton.1 hy]; omega⟩, HLI, HL2, HB0⟩
      case round =>
        obtain ⟨i, A, c, li, L, rfl, rfl, IB, IP, IR, IO, IL, IW⟩ := hrel
        by_cases hil : i < li.length
        · have hilz : (i : Int) < (li.length : Int) := by omega
          obtain ⟨d, s1, hgd, hin, hout⟩ : ∃ d s1, gk = d + 1 ∧ plIn k l1 i l1.length 0 (li, L) = some s1 ∧ plOut k l1 d (i + 1) s1 = some s := by
            have h := IP.out
            cases gk with
            | zero => cases h
            | succ d =>
              rw [plOut, if_pos hil] at h
              obtain ⟨s1, e1, e2⟩ := Option.bind_eq_some_iff.mp h
              exact ⟨d, s1, rfl, e1, e2⟩
          have HIN := Aside0.mk hin
          have HOUT := Aside0.mk hout
          have HIL := Aside0.mk hil
          clear hin hout hil
          subst hgd
          go_wp2
          go_loopg [8, 41] l1.length (fun g2 s8 s41 w3 => ∃ (g : Nat) (A : Option Addr) (c : Nat) (li : List Int) (L : List (List Int)), g + g2 = l1.length ∧ s8 = .slice A li.length c ∧ s41 = .int .i64 g ∧ Aside0 (i < li.length ∧ li.length ≤ 1000001) ∧ Aside0 (plIn k l1 i g2 g (li, L) = some s1) ∧ Aside0 (∀ y ∈ li, 0 ≤ y ∧ y < (n : Int)) ∧ Aside0 (Kd.R (Kd.int .i64) 2 w3 w.heap.size (fun q => hi0 ≤ q) (.slice A li.length c) li) ∧ Aside0 (LW w.heap.size n l1.length bs L hi0 w3) ∧ Aside0 (Below w.heap.size w w3))
          case atStart => exact ⟨0, A, c, li, L, by omega, rfl, rfl, ⟨HIL.out, IB.out.2⟩, HIN, IR, IO, IL, IW⟩
          case round =>
            have HWI := Aside0.mk (show wrap64 ((i : Int) + 1) = ((i + 1 : Nat) : Int) from by have := HIL.out; have := IB.out.2; unfold wrap64; omega)
            clear IB IP IR IO IL IW HIL HIN
            obtain ⟨g, A, c, li, L, hgg, rfl, rfl, JB, JP, JR, JO, JL, JW⟩ := hrel
            by_cases hgl : g < l1.length
            · have hglz : (g : Int) < (l1.length : Int) := by omega
              have hil : i < li.length := JB.out.1
              have hilz : (i : Int) < (li.length : Int) := by omega
              obtain ⟨d2, s2, hgd2, hst, hin2⟩ : ∃ d2 s2, gk = d2 + 1 ∧ plS k l1 i g (li, L) = some s2 ∧ plIn k l1 i d2 (g + 1) s2 = some s1 := by
                have h := JP.out
                cases gk with
                | zero => omega
                | succ d2 =>
                  obtain ⟨s2, e1, e2⟩ := Option.bind_eq_some_iff.mp h
                  exact ⟨d2, s2, rfl, e1, e2⟩
              obtain ⟨adi, Ar, cr, e, hxr, hcr, hCr⟩ := at_row_ HR1.out g hgl
              cases e
              have hrow := HOK.out.2.2.2 _ (List.getElem_mem hgl)
              have hrg : l1.getD g [] = l1[g] := by simp [List.getD_eq_getElem?_getD, hgl]
              have hx1 : wr.cell? (adi.add g) = some (.slice Ar l1[g].length cr) := (JW.out.cell (World.block_lt_of_cell? w _ hxr)).trans hxr
              obtain ⟨_, hlk, hLC⟩ := Kd.R_reads' JO.out
              obtain ⟨ad1, e, hx0⟩ := Kd.at_int hLC (i : Int) (by omega) (by omega)
              cases e
              have hx2 : wr.cell? (ad1.add i) = some (.int .i64 (rd li i)) := by simpa using hx0
              have hxr1 := JR.out _ (rd_mem li i hil)
              obtain ⟨xn, hxn⟩ : ∃ xn : Nat, rd li i = (xn : Int) := ⟨(rd li i).toNat, by omega⟩
              have hxl : xn < l1[g].length := by have h1 := hrow.1; omega
              have hxlz : (xn : Int) < (l1[g].length : Int) := by omega
              obtain ⟨ad3, e, hx3⟩ := Kd.at_int hCr (xn : Int) (by omega) (by omega)
              cases e
              obtain ⟨y, hy⟩ : ∃ y : Int, y = rd l1[g] (xn : Int) := ⟨_, rfl⟩
              have hx4 : wr.cell? (ad3.add xn) = some (.int .i64 y) := by
                have h := (JW.out.cell (World.block_lt_of_cell? w _ hx3)).trans hx3
                rw [hy]
                simpa using h
              have hyr : 0 ≤ y ∧ y < (n : Int) := by rw [hy]; exact hrow.2 _ (rd_mem l1[g] xn hxl)
              obtain ⟨b, hct, hst2⟩ : ∃ b, slices_Contains_int64_int64.f k li y = some b ∧ (if b = true then some (li, L) else if li.length ≤ 1000000 then some (li ++ [y], L.set xn ((L.getD xn []).set g 0)) else none) = some s2 := by
                unfold plS at hst
                simp only [hrg, hxn, Int.toNat_natCast, ← hy] at hst
                exact Option.bind_eq_some_iff.mp hst
              rw [hxn] at hx2
              have HCT := Aside0.mk hct
              have HLC := Aside0.mk hLC
              have HLK := Aside0.mk hlk
              have HYR := Aside0.mk hyr
              have HXN := Aside0.mk hxn
              have HIN2 := Aside0.mk hin2
              have HGD2 := Aside0.mk hgd2
              have HXL := Aside0.mk (show xn < n by have h1 := hrow.1; omega)
              have HGG := Aside0.mk hgg
              have HGL := Aside0.mk hgl
              have HWG := Aside0.mk (show wrap64 ((g : Int) + 1) = ((g + 1 : Nat) : Int) from by have := HOK.out.2.2.1; unfold wrap64; omega)
              clear hst hrow hxr hx0 hx3 hCr hy hyr hct hLC hlk hxn hin2 hgd2 hxr1 hgg hcr
              cases b with
              | true =>
                have HS2 := Aside0.mk (show (li, L) = s2 from Option.some.inj hst2)
                clear hst2
                go_wp2_with (first | (go_at_call 92; refine (slices_Contains_int64_int64.calls k _ _ li y true _ ?side1 ?side2 HCT.out).mono ?_; (case side1 => exact HLC.out); (case side2 => exact HLK.out); rintro e w4 ⟨rfl, ⟨nd, rfl⟩⟩))
                go_roundg d2
                case measure => have := HGD2.out; omega
                case rel => exact ⟨g + 1, some ad1, c, li, L, by have := HGG.out; have := HGD2.out; omega, rfl, congrArg (Value.int .i64) HWG.out, JB, ⟨by rw [HS2.out]; exact HIN2.out⟩, JR, ⟨Kd.R_drewN JO.out nd⟩, ⟨JL.out.below (pw_below_drewN (Below.refl _ _) nd)⟩, ⟨pw_below_drewN JW.out nd⟩⟩
              | false =>
                obtain ⟨hlm, hs2⟩ : li.length ≤ 1000000 ∧ (li ++ [y], L.set xn ((L.getD xn []).set g 0)) = s2 := by
                  rw [if_neg (by simp)] at hst2
                  by_cases hlm : li.length ≤ 1000000
                  · rw [if_pos hlm] at hst2
                    exact ⟨hlm, Option.some.inj hst2⟩
                  · rw [if_neg hlm] at hst2
                    cases hst2
                have HS2 := Aside0.mk hs2
                have HLM := Aside0.mk hlm
                have HIL2 := Aside0.mk hil
                clear hst2 hs2 hlm hil
                have hxnz : (xn : Int) < (n : Int) := by have := HXL.out; omega
                have hinl : ((i : Int) < ((li ++ [y]).length : Int)) := by have := HIL2.out; rw [List.length_append]; omega
                go_wp2_with (first | (go_at_call 92; refine (slices_Contains_int64_int64.calls k _ _ li y false _ ?side1 ?side2 HCT.out).mono ?_; (case side1 => exact HLC.out); (case side2 => exact HLK.out); rintro e w4 ⟨rfl, ⟨nd, rfl⟩⟩) | ((with_reducible refine gate_builtin (b := .append) (xs := #[.tmp 57, .tmp 59]) rfl ?_); at_builtin; refine Kd.R_append (Kd.int .i64) (w0 := w) w.heap.size rfl (.tmp 57) (.tmp 59) 39 2 (.int .i64 0) 8 rfl Try.underlying39 info2 rfl (by decide) (by omega) (.slice (some ad1) li.length c) li y [.int .i64 y] (fun q => hi0 ≤ q) (fun _ => False) rfl rfl ?aP (fun _ hk => hk.elim) ?aF ?aO ?aB ?aS ?aL ?_; (case aP => exact rfl); (case aB => exact pw_below_drewN JW.out nd); (case aF => exact (fun q hq => Nat.le_trans (JL.out.below (pw_below_drewN (Below.refl _ _) nd)).2.2.2.2.2.2 hq)); (case aO => exact Kd.R_drewN JO.out nd); (case aS => exact below_size (pw_below_drewN JW.out nd)); (case aL => have := HLM.out; omega); intro v5 w5 ho hb5 hg5 hat; obtain ⟨A5, c5, e5⟩ := Kd.R_slice ho; subst e5; have HO5 := Aside0.mk ho; have HB5 := Aside0.mk hb5; have HLW5 := Aside0.mk ((JL.out.below (pw_below_drewN (Below.refl _ _) nd)).keep (wr' := w5) (fun q hq => hg5.block q (Nat.lt_of_lt_of_le hq (JL.out.below (pw_below_drewN (Below.refl _ _) nd)).2.2.2.2.2.2) (fun he => by have := JO.out.1 q he.symm; omega)) hg5.size); obtain ⟨_, hk5, hC5⟩ := Kd.R_reads' ho; obtain ⟨ad5, e, hx5⟩ := Kd.at_int hC5 (i : Int) (by omega) (by have := HIL2.out; rw [List.length_append]; omega); cases e; have hx6 : w5.cell? (ad5.add i) = some (.int .i64 (xn : Int)) := (by have h9 := hx5; rw [rd_app li y i HIL2.out, HXN.out] at h9; simpa using h9); obtain ⟨b0, row0, hb0, hrow0, hrl0, hbb0, hy1, ⟨z0, hz0, hy2⟩, hy3⟩ := HLW5.out.look HBN.out xn g HXL.out HGL.out; have HB0' := Aside0.mk (And.intro hb0 hbb0); have HROW0 := Aside0.mk (And.intro hrow0 hrl0); clear ho hb5 hg5 hat hk5 hC5 hx5 hb0 hrow0 hrl0 hbb0 hz0))
                have HPUT := Aside0.mk (HLW5.out.put xn g b0 HB0'.out.1 row0 HROW0.out.1 0)
                go_roundg d2
                case measure => have := HGD2.out; omega
                case rel => exact ⟨g + 1, some ad5, c5, li ++ [y], L.set xn (row0.set g 0), by have := HGG.out; have := HGD2.out; omega, by rw [List.length_append]; rfl, congrArg (Value.int .i64) HWG.out, ⟨by have := HLM.out; have := HIL2.out; rw [List.length_append]; simp only [List.length_singleton]; omega⟩, ⟨by rw [← HIN2.out, ← HS2.out]; rw [show L.getD xn [] = row0 from by rw [List.getD_eq_getElem?_getD, HROW0.out.1]; rfl]⟩, ⟨fun q hq => by
                  rcases List.mem_append.1 hq with h | h
                  · exact JR.out q h
                  · rw [List.mem_singleton.1 h]; exact HYR.out⟩, ⟨Kd.R_far HO5.out (fun q hq he => by have := HB0'.out.2.2; have h2 : q = b0 := he; omega) _⟩, HPUT, ⟨below_set HB5.out (by have := HB0'.out.2.1; omega)⟩⟩
            · have hgz : ¬ (g : Int) < (l1.length : Int) := by omega
              have hs1 : s1 = (li, L) := by
                have h := JP.out
                have : gk = 0 := by omega
                subst this
                exact (Option.some.inj h).symm
              have HS1 := Aside0.mk hs1
              clear hs1
              go_wp2
              go_roundg d
              case measure => omega
              case rel => exact ⟨i + 1, A, c, li, L, rfl, congrArg (Value.int .i64) HWI.out, ⟨by have := JB.out; omega⟩, ⟨by rw [← HS1.out]; exact HOUT.out⟩, JR, JO, JL, JW⟩
        · have hilz : ¬ (i : Int) < (li.length : Int) := by omega
          have hse : s = (li, L) := by
            have h := IP.out
            cases gk with
            | zero => cases h
            | succ d =>
              rw [plOut, if_neg hil] at h
              exact (Option.some.inj h).symm
          have HSE := Aside0.mk hse
          clear hse hil
          go_wp2
          have HO0 : Aside0 (finO L 0 0 = (r1, r2)) := ⟨by have h := HFIN.out; rw [HSE.out] at h; exact h⟩
          clear IB IP IR IO HSE HS HFIN
          go_loopg [13, 73] n (fun gg s13 s73 w2 => ∃ (x : Nat) (c : Int) (L : List (List Int)), x + gg = n ∧ s13 = .int .i64 c ∧ s73 = .int .i64 x ∧ Aside0 (0 ≤ c ∧ c ≤ (x : Int) * 1000) ∧ Aside0 (finO L x c = (r1, r2)) ∧ Aside0 (LW w.heap.size n l1.length bs L hi0 w2) ∧ Aside0 (Below w.heap.size w w2))
          case atStart => exact ⟨0, 0, L, by omega, rfl, rfl, ⟨by omega⟩, HO0, IL, IW⟩
          case round =>
            clear IL IW HO0
            obtain ⟨x, c, L, hxg, rfl, rfl, QB, QF, QL, QW⟩ := hrel
            obtain ⟨og, rfl⟩ : ∃ q, q = gk := ⟨_, rfl⟩
            by_cases hxn : x < n
            · have hxz : (x : Int) < (n : Int) := by omega
              have hlen : L.length = n := by have := QL.out.2.2.1; have := HBN.out; omega
              obtain ⟨row0, hr0⟩ : ∃ row, L[x]? = some row := ⟨_, List.getElem?_eq_getElem (by omega)⟩
              have hb0 : ∃ b, bs[x]? = some b := ⟨_, List.getElem?_eq_getElem (by have := HBN.out; omega)⟩
              obtain ⟨b0, hb0⟩ := hb0
              have hc0 : wr.cell? ⟨w.heap.size, x, none⟩ = some (.slice (some ⟨b0, 0, none⟩) l1.length l1.length) := by
                rw [blk_cell QL.out.1 x]
                unfold slcs
                rw [List.getElem?_toArray, List.getElem?_append_left (by rw [List.length_map]; have := HBN.out; omega), List.getElem?_map, hb0]
                rfl
              have HX := Aside0.mk (And.intro hxg hxn)
              have HBB := Aside0.mk hb0
              have HG0 : Aside0 (finG L x 0 c = (r1, r2)) := ⟨by rw [← finO_G hr0]; exact QF.out⟩
              clear hxg hlen hr0 hb0
              go_wp2
              go_loopg [13, 79] l1.length (fun gg s13 s79 w3 => ∃ (g : Nat) (c : Int) (L : List (List Int)), g + gg = l1.length ∧ s13 = .int .i64 c ∧ s79 = .int .i64 g ∧ Aside0 (0 ≤ c ∧ c ≤ (x : Int) * 1000 + g) ∧ Aside0 (finG L x g c = (r1, r2)) ∧ Aside0 (LW w.heap.size n l1.length bs L hi0 w3) ∧ Aside0 (Below w.heap.size w w3))
              case atStart => exact ⟨0, c, L, by omega, rfl, rfl, ⟨by have := QB.out; omega⟩, HG0, QL, QW⟩
              case round =>
                clear QB QF QL QW HG0 hc0
                obtain ⟨g, c, L, hgg, rfl, rfl, PB, PF, PL, PW⟩ := hrel
                by_cases hgl : g < l1.length
                · have hgz : (g : Int) < (l1.length : Int) := by omega
                  obtain ⟨b1, row, hb1, hrow, hrl, hbb, hy1, ⟨z, hz, hy2⟩, hy3⟩ := PL.out.look HBN.out x g HX.out.2 hgl
                  obtain rfl : b1 = b0 := Option.some.inj (hb1.symm.trans HBB.out)
                  have HGG := Aside0.mk hgg
                  have HWG := Aside0.mk (show wrap64 ((g : Int) + 1) = ((g + 1 : Nat) : Int) from by have := HOK.out.2.2.1; unfold wrap64; omega)
                  have HWC := Aside0.mk (show wrap64 (c + 1) = c + 1 from by have h1 := PB.out; have h2 := HNB.out; have h3 := HX.out; have h4 := HOK.out.2.2.1; unfold wrap64; omega)
                  by_cases hz0 : z = 0
                  · have hzb : (z != 0) = false := bne_eq_false_iff_eq.mpr hz0
                    have HF2 : Aside0 (finG L x (g + 1) c = (r1, r2)) := ⟨by rw [← finG_zero hrow (by rw [hz, hz0])]; exact PF.out⟩
                    clear hb1 hrow hrl hbb hz hz0 hgg
                    go_wp2
                    go_roundg (gk - 1)
                    case measure => have := HGG.out; omega
                    case rel => exact ⟨g + 1, c, L, by have := HGG.out; omega, rfl, congrArg (Value.int .i64) HWG.out, ⟨by have := PB.out; omega⟩, HF2, PL, PW⟩
                  · have hzb : (z != 0) = true := bne_iff_ne.mpr hz0
                    have HF2 : Aside0 (finG (L.set x (row.set g (c + 1))) x (g + 1) (c + 1) = (r1, r2)) := ⟨by rw [← finG_next hrow hz hz0]; exact PF.out⟩
                    have HPUT := Aside0.mk (PL.out.put x g b1 hb1 row hrow (c + 1))
                    have HBG := Aside0.mk hbb
                    clear hb1 hrow hrl hbb hz hz0 hgg
                    go_wp2
                    go_roundg (gk - 1)
                    case measure => have := HGG.out; omega
                    case rel => exact ⟨g + 1, c + 1, L.set x (row.set g (c + 1)), by have := HGG.out; omega, congrArg (Value.int .i64) HWC.out, congrArg (Value.int .i64) HWG.out, ⟨by have := PB.out; omega⟩, HF2, ⟨by rw [HWC.out]; exact HPUT.out⟩, ⟨below_set PW.out (by have := HBG.out.1; omega)⟩⟩
                · have hgz : ¬ (g : Int) < (l1.length : Int) := by omega
                  have hge : g = l1.length := by omega
                  have HF2 : Aside0 (finO L (x + 1) c = (r1, r2)) := ⟨by
                    obtain ⟨row, e1, e2, _⟩ := PL.out.2.1 x b0 HBB.out
                    rw [← finG_end e1 (e2.trans hge.symm)]
                    exact PF.out⟩
                  have HWX := Aside0.mk (show wrap64 ((x : Int) + 1) = ((x + 1 : Nat) : Int) from by have := HNB.out; have := HX.out; unfold wrap64; omega)
                  have HCB := Aside0.mk (show 0 ≤ c ∧ c ≤ ((x + 1 : Nat) : Int) * 1000 from by have h1 := PB.out; have h2 := HOK.out.2.2.1; omega)
                  clear hge hgg
                  go_wp2
                  go_roundg (og - 1)
                  case measure => have := HX.out; omega
                  case rel => exact ⟨x + 1, c, L, by have := HX.out; omega, rfl, congrArg (Value.int .i64) HWX.out, HCB, HF2, PL, PW⟩
            · have hxz : ¬ (x : Int) < (n : Int) := by omega
              have hlen : L.length = n := by have := QL.out.2.2.1; have := HBN.out; omega
              have hxe : x = L.length := by omega
              have HE : Aside0 ((L, c) = (r1, r2)) := ⟨by rw [← QF.out, hxe, finO_end]⟩
              have HLN := Aside0.mk hlen
              clear hlen hxe hxg
              go_wp2
              obtain ⟨h1, h2⟩ := Prod.mk.inj HE.out
              subst h1 h2
              go_ret2
              exact ⟨_, rfl, QL.out.S HBN.out _ (Nat.le_refl _) (by have := HNB.out; omega) (by have := HOK.out.2.2.1; omega), QW.out⟩

end Go.Proofs.Ytbcdngjajjgmkaa.PFnExactStabilizerPresentation
