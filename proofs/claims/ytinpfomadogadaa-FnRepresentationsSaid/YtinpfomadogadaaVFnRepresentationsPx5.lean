/- Written by this session's program out of the kit's print and this session's contracts. -/
import Derived.Test.YtinpfomadogadaaVFnRepresentationsPx0
import Derived.Test.YtinpfomadogadaaVFnRepresentationsPx2
import Derived.Test.YtinpfomadogadaaVFnRepresentationsPx4
namespace Go.Proofs.Ytinpfomadogadaa.PFnRepresentations
open Go.RowKit Go.Proofs.YtinpfomadogadaaW.PrintWords Go.Proofs.YtinpfomadogadaaW.PrintLast Go.Proofs.YtinpfomadogadaaW.PrintMore
attribute [local go_sem] max2_int min2_int max_two min_two max_three min_three max_four min_four   -- for this text's walks alone
set_option linter.unusedVariables false
set_option linter.unusedSimpArgs false

/-! ### impl_copyLists: function 51 -/
def impl_copyLists.l0 : Nat → List (List Int) → List (List Int) → Int → Int → Option ((List (List Int)))
  | 0, _, _, _, _ => none
  | k + 1, x3, x6, x7, x8 => if x8 < x7 then (if 0 ≤ x8 then (if x8 < (x6.length : Int) then ((slices_Clone_int64_int64.f (rd_L1 x6 x8)).bind fun t131 => (if x3.length < 5864062014805 then (impl_copyLists.l0 k (x3 ++ [t131]) x6 x7 (wrap64 (x8 + 1))) else (none))) else (none)) else (none)) else (some x3)
def impl_copyLists.f (k : Nat) (l0 : List (List Int)) : Option ((List (List Int))) := impl_copyLists.l0 k ([] : List (List Int)) l0 (l0.length : Int) 0
theorem impl_copyLists.mono_l : ∀ k, (∀ y0 y1 y2 y3, LeO (impl_copyLists.l0 k y0 y1 y2 y3) (impl_copyLists.l0 (k + 1) y0 y1 y2 y3))
  | 0 => fun _ _ _ _ r h => by simp [impl_copyLists.l0] at h
  | k + 1 => by
    have ih0 := impl_copyLists.mono_l k
    · intro y0 y1 y2 y3
      unfold impl_copyLists.l0
      repeat' first
      | (with_reducible exact ih0 _ _ _ _)
      | (with_reducible exact LeO.refl _)
      | (with_reducible exact LeO.none _)
      | (with_reducible refine LeO.ite ?_ ?_)
      | (with_reducible refine LeO.bind ?_ (fun _ => ?_))
      | exact ih0 _ _ _ _
      | exact LeO.none _
      | refine LeO.ite ?_ ?_
      | refine LeO.bind ?_ (fun _ => ?_)
theorem impl_copyLists.mono : ∀ a0 k, LeO (impl_copyLists.f k a0) (impl_copyLists.f (k + 1) a0) := by
  intro a0 k
  have ih0 := impl_copyLists.mono_l k
  unfold impl_copyLists.f
  repeat' first
      | (with_reducible exact ih0 _ _ _ _)
      | (with_reducible exact LeO.refl _)
      | (with_reducible exact LeO.none _)
      | (with_reducible refine LeO.ite ?_ ?_)
      | (with_reducible refine LeO.bind ?_ (fun _ => ?_))
      | exact ih0 _ _ _ _
      | exact LeO.none _
      | refine LeO.ite ?_ ?_
      | refine LeO.bind ?_ (fun _ => ?_)
set_option maxHeartbeats 8000000 in
set_option maxRecDepth 100000 in
theorem impl_copyLists.calls (k : Nat) (A0 : Option Addr) (c0 : Nat) (l0 : List (List Int)) (r : List (List Int)) (w : World) (hr0 : Kd.C (Kd.slice 2 (Kd.int .i64)) w A0 l0.length l0) (hc0 : l0.length ≤ c0) (h : impl_copyLists.f k l0 = some r) :
    Calls Try.prog 51 #[.slice A0 l0.length c0] w fun e w' => ∃ v0_ : Value, e = .returned (v0_) ∧ Kd.S (Kd.slice 2 (Kd.int .i64)) 47 w' w.heap.size (fun _ => True) v0_ r ∧ Below w.heap.size w w' := by
  have HR0 := Aside0.mk hr0
  have HC0 := Aside0.mk hc0
  clear hr0 hc0
  have HB := Aside0.mk (Below.refl w.heap.size w)
  have H : (impl_copyLists.l0 k ([] : List (List Int)) l0 (l0.length : Int) 0) = some r := h
  clear h
  have H' := Aside0.mk H
  clear H
  go_enter Try.func51, Try.ntmps51
  go_wp2
  go_loopg [3, 8] k (fun kq v3 v8 w' => ∃ (x3_1 : List (List Int)) (x8_1 : Int), v8 = .int .i64 x8_1 ∧ Aside0 (impl_copyLists.l0 kq x3_1 l0 (l0.length : Int) x8_1 = some r) ∧ Aside0 (kq ≤ k) ∧ Aside0 (Kd.S (Kd.slice 2 (Kd.int .i64)) 47 w' w.heap.size (fun _ => True) v3 x3_1) ∧ Aside0 (Below w.heap.size w w'))
  case atStart => exact ⟨(([] : List (List Int))), (0), (by first | rfl | (simp; done) | (simp [*]; done)), H', ⟨Nat.le_refl _⟩, ⟨by first | exact Kd.S_nil _ _ _ _ _ | exact Kd.N_nil _ _ _ _ _ | exact Kd.V_nil _ _ _ _ _ | exact Kd.Q_nil _ _ _ _ _ | exact Kd.R_nil _ _ _ _ _⟩, ⟨by repeat (first | (with_reducible first | exact HB.out | apply below_alloc | apply pw_below_drewN | apply below_drew1) | exact HB.out)⟩⟩
  case round =>
    clear H'
    obtain ⟨x3_1, x8_1, rfl, HA, HK1, HO_3, HB⟩ := hrel
    cases gk with
    | zero => exact absurd HA.out (by simp [impl_copyLists.l0])
    | succ k1 =>
      have H := HA.out
      clear HA
      simp only [impl_copyLists.l0] at H
      by_cases c2 : x8_1 < (l0.length : Int)
      · rw [if_pos c2] at H
        have c2b0 : decide (x8_1 < (l0.length : Int)) = true := decide_eq_true c2
        clear c2
        by_cases c3 : 0 ≤ x8_1
        · rw [if_pos c3] at H
          have c3b0 : decide (0 ≤ x8_1) = true := decide_eq_true c3
          clear c3
          by_cases c4 : x8_1 < (l0.length : Int)
          · rw [if_pos c4] at H
            have c4b0 : decide (x8_1 < (l0.length : Int)) = true := decide_eq_true c4
            clear c4
            replace H := Option.bind_eq_some_iff.mp H
            obtain ⟨t131, A50, H⟩ := H
            replace H : (if x3_1.length < 5864062014805 then (impl_copyLists.l0 k1 (x3_1 ++ [t131]) l0 (l0.length : Int) (wrap64 (x8_1 + 1))) else (none)) = some r := H
            have A5 := Aside0.mk A50
            clear A50
            by_cases c6 : x3_1.length < 5864062014805
            · rw [if_pos c6] at H
              have LMc6 := Aside0.mk c6
              clear c6
              obtain ⟨y134, hy134⟩ : ∃ y_ : List (List Int), y_ = (x3_1 ++ [t131]) := ⟨_, rfl⟩
              replace H : (impl_copyLists.l0 k1 y134 l0 (l0.length : Int) (wrap64 (x8_1 + 1))) = some r := by first | (rw [hy134]; with_reducible exact H) | (have H2_ := (Option.bind_some _ _).symm.trans H; rw [hy134]; with_reducible exact H2_) | (have H2_ := (Option.bind_some _ _).symm.trans H; with_reducible exact H2_) | with_reducible exact H | (rw [hy134]; exact H) | exact H
              have Ny134 := Aside0.mk hy134
              clear hy134
              have H' := Aside0.mk H
              clear H
              have p130 : 0 ≤ (x8_1 : Int) := of_decide_eq_true (by first | (with_reducible assumption) | assumption)
              have q130 : x8_1 < (l0.length : Int) := of_decide_eq_true (by first | (with_reducible assumption) | assumption)
              obtain ⟨ad130, A130_0, c130_0, e130, hx130_0, hl130_0, hi130_0⟩ := at_L1 HR0.out x8_1 p130 q130
              cases e130
              replace hx130_0 := (HB.out.cell (World.block_lt_of_cell? w _ hx130_0)).trans hx130_0
              have HR130_0 := Aside0.mk hi130_0
              have HC130_0 := Aside0.mk hl130_0
              clear hi130_0 hl130_0
              replace p130 := eq_true p130
              replace q130 := eq_true q130
              go_wp2_with (first | ((with_reducible refine gate_callee (f := 90) rfl ?_); refine goesL_ (some 14) rfl rfl Try.func90 (by kernel_rfl) rfl #[.slice A130_0 (rd_L1 l0 x8_1).length c130_0] rfl (by (try simp only [List.map_toArray, List.map_cons, List.map_nil]); first | done | rfl | (simp only [List.length_drop, List.length_take]; rfl)) ?_; (with_reducible refine (slices_Clone_int64_int64.calls _ _ (rd_L1 l0 x8_1) t131 _ ?side1 ?side2 A5.out).mono ?_); (case side1 => repeat (first | exact (Kd.C_below HR130_0.out HB.out) | (with_reducible refine Kd.C_alloc ?_ _) | (with_reducible refine Kd.C_drewN ?_ _) | (with_reducible refine Kd.C_drew ?_))); (case side2 => exact HC130_0.out); rintro e w7 ⟨v132, rfl, ho0, hb⟩; refine ⟨_, rfl, ?_⟩; have n0_ := Aside0.mk (Kd.S_elder' (by (with_reducible repeat (first | apply Kd.S_alloc | apply Kd.S_drewN | apply Kd.S_drew)); exact HO_3.out) (Kd.R_base ho0) hb); have n1_ := Aside0.mk (Kd.R_lower ho0 (below_size (by repeat (first | (with_reducible first | exact HB.out | apply below_alloc | apply pw_below_drewN | apply below_drew1) | exact HB.out)))); have n2_ := Aside0.mk (below_step (by repeat (first | (with_reducible first | exact HB.out | apply below_alloc | apply pw_below_drewN | apply below_drew1) | exact HB.out)) hb); clear HO_3; clear HB; have HO_3 := n0_; have HO133 := n1_; have HB := n2_; clear n0_ n1_ n2_; (try clear hb); (try clear hb2); (try clear hk); (try clear hi); (try clear ho0); obtain ⟨Ao9, co9, eo9⟩ := Kd.R_slice HO133.out; subst eo9) | ((with_reducible refine gate_builtin (b := .append) (xs := #[.tmp 12, .tmp 15]) rfl ?_); at_builtin; refine Kd.S_append (Kd.slice 2 (Kd.int .i64)) (w0 := w) w.heap.size rfl (.tmp 12) (.tmp 15) 22 47 (.slice none 0 0) 24 rfl Try.underlying22 info47 rfl (by decide) (by omega) u3 x3_1 t131 [.slice Ao9 t131.length co9] (fun _ => True) (fun k_ => some k_ = (.slice Ao9 t131.length co9 : Value).ownBlock) rfl rfl ?aP (fun k_ hk_ => ((Kd.R_mono (ok' := fun k_ => ((fun _ => True)) k_ ∧ some k_ ≠ (u3 : Value).ownBlock) (Kd.R_apart' (HO133.out) (Kd.S_typed HO_3.out) (by decide)) (fun k_ hk => ⟨trivial, hk.2⟩))).1 k_ hk_.symm) ?aF ?aO ?aB ?aS ?aL ?_; (case aP => exact Kd.M_row (Kd.R_mono (Kd.R_tight rfl (Kd.R_mono (ok' := fun k_ => ((fun _ => True)) k_ ∧ some k_ ≠ (u3 : Value).ownBlock) (Kd.R_apart' (HO133.out) (Kd.S_typed HO_3.out) (by decide)) (fun k_ hk => ⟨trivial, hk.2⟩))) (fun _ h_ => h_))); (case aB => exact (by repeat (first | (with_reducible first | exact HB.out | apply below_alloc | apply pw_below_drewN | apply below_drew1) | exact HB.out))); (case aF => exact (fun _ _ => trivial)); (case aO => exact (by (with_reducible repeat (first | apply Kd.S_alloc | apply Kd.S_drewN | apply Kd.S_drew)); exact Kd.S_mono HO_3.out (fun k_ hk => ⟨trivial, fun e_ => hk.2 e_⟩))); (case aS => exact (below_size (by repeat (first | (with_reducible first | exact HB.out | apply below_alloc | apply pw_below_drewN | apply below_drew1) | exact HB.out)))); (case aL => have := LMc6.out; omega); intro v135 w8 ho hb hg hat; rw [← Ny134.out] at ho; have n0_ := Aside0.mk (hb); have n1_ := Aside0.mk (ho); clear HB; clear HO_3; clear HO133; have HB := n0_; have HO136 := n1_; clear n0_ n1_; clear ho hb hg hat))
              go_roundg k1
              case measure => have := HK1.out; omega
              case rel => exact ⟨(y134), (wrap64 (x8_1 + 1)), (by first | rfl | (simp; done) | (simp [*]; done)), H', ⟨by have := HK1.out; omega⟩, ⟨by (with_reducible repeat (first | apply Kd.S_alloc | apply Kd.S_drewN | apply Kd.S_drew)); exact HO136.out⟩, ⟨by repeat (first | (with_reducible first | exact HB.out | apply below_alloc | apply pw_below_drewN | apply below_drew1) | exact HB.out)⟩⟩
            · rw [if_neg c6] at H
              exact absurd H (by simp)
          · rw [if_neg c4] at H
            exact absurd H (by simp)
        · rw [if_neg c3] at H
          exact absurd H (by simp)
      · rw [if_neg c2] at H
        have c2b0 : decide (x8_1 < (l0.length : Int)) = false := decide_eq_false c2
        clear c2
        obtain rfl := Option.some.inj H
        go_wp2
        go_ret
        exact ⟨_, by first | rfl | (simp [errW_none, errW_some] <;> rfl) | (simp [*, errW_none, errW_some] <;> rfl), by (with_reducible repeat (first | apply Kd.S_alloc | apply Kd.S_drewN | apply Kd.S_drew)); exact HO_3.out, by repeat (first | (with_reducible first | exact HB.out | apply below_alloc | apply pw_below_drewN | apply below_drew1) | exact HB.out)⟩

/-! ### impl_RepresentationAt: function 18 -/
def repAt.vis (k : Nat) (G : List (List Int)) (s : Int × List (List Int) × Bool) : Option (Bool × (Int × List (List Int) × Bool)) :=
  if s.1 = 0 then (impl_copyLists.f k G).bind fun o => some (false, (wrap64 (s.1 - 1), o, true)) else some (!s.2.2 && decide (wrap64 (s.1 - 1) ≥ 0), (wrap64 (s.1 - 1), s.2))
def impl_RepresentationAt.f (k : Nat) (a0_0 : Int) (l0_1 : List (List Int)) (a1 a2 : Int) : Option (List (List Int) × Int) :=
  (impl_searchCode.f k a0_0 l0_1 a1).bind fun c => if c = 0 then (repsRun k a0_0 l0_1 a1 (repAt.vis k) (a2, [], false)).bind fun r => if r.2.2.2 = true then some (r.2.2.1, 0) else some ([], 4) else some ([], c)
theorem impl_RepresentationAt.mono : ∀ a0_0 l0_1 a1 a2 k, LeO (impl_RepresentationAt.f k a0_0 l0_1 a1 a2) (impl_RepresentationAt.f (k + 1) a0_0 l0_1 a1 a2) := by
  intro a l n q k
  unfold impl_RepresentationAt.f
  exact LeO.bind (impl_searchCode.mono _ _ _ _) fun _ => LeO.ite (LeO.bind (repsRun_le a l n (fun _ _ => LeO.ite (LeO.bind (impl_copyLists.mono _ _) fun _ => LeO.refl _) (LeO.refl _)) _ k) fun _ => LeO.refl _) (LeO.refl _)
/-- The blocks of RepresentationAt's visitor: the number that is left, what was found, whether it was found. -/
structure J3 (w0 : World) (N O F : Nat) (s : Int × List (List Int) × Bool) (W : World) (Pf : Nat → Prop) : Prop where
  bn : W.heap[N]? = some (.cells #[.int .i64 s.1] 2 (0, 0))
  bf : W.heap[F]? = some (.cells #[.bool s.2.2] 4 (0, 0))
  bo : ∃ v, W.heap[O]? = some (.cells #[v] 22 (0, 0)) ∧ Kd.S (Kd.slice 2 (Kd.int .i64)) 47 W w0.heap.size (fun k => Pf k ∧ k ≠ N ∧ k ≠ O ∧ k ≠ F) v s.2.1
  pn : Pf N
  po : Pf O
  pf : Pf F
  inn : ∀ k, Pf k → w0.heap.size ≤ k ∧ k < W.heap.size
theorem J3.keep {w0 W W' : World} {N O F : Nat} {s : Int × List (List Int) × Bool} {Pf : Nat → Prop} (h : J3 w0 N O F s W Pf) (hs : W.heap.size ≤ W'.heap.size) (hk : ∀ k, Pf k → W'.heap[k]? = W.heap[k]?) : J3 w0 N O F s W' Pf := by
  obtain ⟨v, h1, h2⟩ := h.bo
  exact ⟨(hk _ h.pn).trans h.bn, (hk _ h.pf).trans h.bf, ⟨v, (hk _ h.po).trans h1, Kd.S_step h2 (fun k hk2 _ => hk k hk2.1)⟩, h.pn, h.po, h.pf, fun k hk2 => ⟨(h.inn k hk2).1, Nat.lt_of_lt_of_le (h.inn k hk2).2 hs⟩⟩
theorem J3.below {w0 W W' : World} {N O F : Nat} {s : Int × List (List Int) × Bool} {Pf : Nat → Prop} (h : J3 w0 N O F s W Pf) (hb : Below W.heap.size W W') : J3 w0 N O F s W' Pf := h.keep (below_size hb) (fun k hk => hb.block k (h.inn k hk).2)
theorem J3.num {w0 W : World} {N O F : Nat} {s : Int × List (List Int) × Bool} {Pf : Nat → Prop} (hNO : N ≠ O) (hNF : N ≠ F) (h : J3 w0 N O F s W Pf) (x : Int) : J3 w0 N O F (x, s.2) (W.setCell ⟨N, 0, none⟩ (.int .i64 x)) Pf := by
  obtain ⟨v, h1, h2⟩ := h.bo
  have hsz : (W.setCell ⟨N, 0, none⟩ (.int .i64 x)).heap.size = W.heap.size := by simp [World.setCell]
  exact ⟨(blk_set h.bn 0 _).trans rfl, blk_far (p := ⟨N, 0, none⟩) h.bf (Ne.symm hNF) _, ⟨v, blk_far (p := ⟨N, 0, none⟩) h1 (Ne.symm hNO) _, Kd.S_far (p := ⟨N, 0, none⟩) h2 (fun k hk => hk.2.1) _⟩, h.pn, h.po, h.pf, fun k hk => by rw [hsz]; exact h.inn k hk⟩
theorem J3.put {w0 W w1 : World} {N O F : Nat} {s : Int × List (List Int) × Bool} {Pf : Nat → Prop} (hNO : N ≠ O) (hNF : N ≠ F) (hOF : O ≠ F) (h : J3 w0 N O F s W Pf) (hb : Below W.heap.size W w1) (hw : w0.heap.size ≤ W.heap.size) {v1 : Value} {o : List (List Int)} (hS : Kd.S (Kd.slice 2 (Kd.int .i64)) 47 w1 W.heap.size (fun _ => True) v1 o) :
    J3 w0 N O F (s.1, o, true) ((w1.setCell ⟨O, 0, none⟩ v1).setCell ⟨F, 0, none⟩ (.bool true)) (fun k => Pf k ∨ W.heap.size ≤ k ∧ k < w1.heap.size) := by
  have h1 := h.below hb
  obtain ⟨v, k1, k2⟩ := h1.bo
  have hsz : ((w1.setCell ⟨O, 0, none⟩ v1).setCell ⟨F, 0, none⟩ (.bool true)).heap.size = w1.heap.size := by simp [World.setCell]
  have i1 := h.inn N h.pn
  have i2 := h.inn O h.po
  have i3 := h.inn F h.pf
  have hs1 := below_size hb
  refine ⟨blk_far (p := ⟨F, 0, none⟩) (blk_far (p := ⟨O, 0, none⟩) h1.bn hNO _) hNF _, (blk_set (blk_far (p := ⟨O, 0, none⟩) h1.bf (Ne.symm hOF) _) 0 _).trans rfl, ⟨v1, blk_far (p := ⟨F, 0, none⟩) ((blk_set k1 0 v1).trans rfl) hOF _, ?_⟩, .inl h.pn, .inl h.po, .inl h.pf, fun k hk => ?_⟩
  · have hS2 := Kd.S_mono (Kd.S_lower (Kd.S_bound hS) hw) (ok' := fun k => (Pf k ∨ W.heap.size ≤ k ∧ k < w1.heap.size) ∧ k ≠ N ∧ k ≠ O ∧ k ≠ F) (fun k hk => ⟨.inr ⟨by have := hk.2.1; omega, hk.2.2.1⟩, by have := hk.2.1; omega, by have := hk.2.1; omega, by have := hk.2.1; omega⟩)
    exact Kd.S_far (p := ⟨F, 0, none⟩) (Kd.S_far (p := ⟨O, 0, none⟩) hS2 (fun k hk => hk.2.2.1) _) (fun k hk => hk.2.2.2) _
  · rw [hsz]
    rcases hk with hk | hk
    · exact ⟨(h.inn k hk).1, Nat.lt_of_lt_of_le (h.inn k hk).2 hs1⟩
    · exact ⟨by omega, hk.2⟩
set_option maxHeartbeats 8000000 in
set_option maxRecDepth 100000 in
theorem repAt_vis (k : Nat) (w0 : World) (N O F : Nat) (hNO : N ≠ O) (hNF : N ≠ F) (hOF : O ≠ F) : Vis w0 50 #[.pointer (some ⟨N, 0, none⟩), .pointer (some ⟨O, 0, none⟩), .pointer (some ⟨F, 0, none⟩)] (repAt.vis k) (J3 w0 N O F) := by
  refine ⟨Go.Proofs.enters_of Try.func50 (by kernel_rfl) rfl, fun hJ hs hk => hJ.keep hs hk, fun hJ k hk => hJ.inn k hk, ?_⟩
  intro W s s' Pf A c images b hBW hJ hr hc h
  obtain ⟨s1, out, fd⟩ := s
  have hc0 : W.cell? ⟨N, 0, none⟩ = some (.int .i64 s1) := (blk_cell hJ.bn 0).trans rfl
  have hf0 := blk_frozen hJ.bn 0
  have hc2 : W.cell? ⟨F, 0, none⟩ = some (.bool fd) := (blk_cell hJ.bf 0).trans rfl
  have HJ := Aside0.mk hJ
  have HBW := Aside0.mk hBW
  have H3 := Aside0.mk (And.intro hNO (And.intro hNF hOF))
  show Calls Try.prog 50 #[.slice A images.length c, .pointer (some ⟨N, 0, none⟩), .pointer (some ⟨O, 0, none⟩), .pointer (some ⟨F, 0, none⟩)] W _
  unfold repAt.vis at h
  by_cases h0 : s1 = 0
  · rw [if_pos h0] at h
    obtain ⟨o, ho, h⟩ := Option.bind_eq_some_iff.mp h
    obtain ⟨rfl, rfl⟩ := Prod.mk.inj (Option.some.inj h)
    have hq : (s1 == 0) = true := beq_iff_eq.2 h0
    have hC := impl_copyLists.calls k A c images o W hr hc ho
    clear h hJ hBW hr hc ho hNO hNF hOF h0 hc2
    go_enter Try.func50, Try.ntmps50
    go_upto_region 3 with (go_at_call 51; (with_reducible refine hC.mono ?_); rintro e w1 ⟨v1, rfl, hS, hb1⟩; obtain ⟨A1, c1, e1⟩ := Kd.S_slice hS; subst e1; have HP := Aside0.mk (J3.put H3.out.1 H3.out.2.1 H3.out.2.2 HJ.out hb1 (below_size HBW.out) hS); have HB1 := Aside0.mk hb1; obtain ⟨vo, hvo, _⟩ := (HJ.out.below hb1).bo; have hcO : w1.cell? ⟨O, 0, none⟩ = some vo := (blk_cell hvo 0).trans rfl; have hfO := blk_frozen hvo 0; have hfF : (w1.setCell ⟨O, 0, none⟩ (.slice A1 o.length c1)).frozen? ⟨F, 0, none⟩ = false := blk_frozen (blk_far (p := ⟨O, 0, none⟩) (HJ.out.below hb1).bf (Ne.symm H3.out.2.2) _) 0; have hcF0 : (w1.setCell ⟨O, 0, none⟩ (.slice A1 o.length c1)).cell? ⟨F, 0, none⟩ = some (.bool fd) := (blk_cell (blk_far (p := ⟨O, 0, none⟩) (HJ.out.below hb1).bf (Ne.symm H3.out.2.2) _) 0).trans rfl; clear hS hb1 hc0 hf0 hvo)
    have hcN : ((w1.setCell ⟨O, 0, none⟩ (.slice A1 o.length c1)).setCell ⟨F, 0, none⟩ (.bool true)).cell? ⟨N, 0, none⟩ = some (.int .i64 s1) := (blk_cell HP.out.bn 0).trans rfl
    have hfN := blk_frozen HP.out.bn 0
    have HQ := Aside0.mk (J3.num H3.out.1 H3.out.2.1 HP.out (wrap64 (s1 - 1)))
    have hcF : (((w1.setCell ⟨O, 0, none⟩ (.slice A1 o.length c1)).setCell ⟨F, 0, none⟩ (.bool true)).setCell ⟨N, 0, none⟩ (.int .i64 (wrap64 (s1 - 1)))).cell? ⟨F, 0, none⟩ = some (.bool true) := (blk_cell HQ.out.bf 0).trans rfl
    clear hcO hfO hfF hcF0
    go_wp2
    go_ret
    refine ⟨rfl, _, HQ.out, ?_, ?_, fun k hk => ?_⟩
    · have h1_ := HJ.out.inn N HJ.out.pn
      have h2_ := HJ.out.inn O HJ.out.po
      have h3_ := HJ.out.inn F HJ.out.pf
      exact below_set (below_set (below_set (below_then HBW.out (below_size HBW.out) HB1.out) h2_.1) h3_.1) h1_.1
    · refine ⟨by have := below_size HB1.out; simpa [World.setCell] using this, fun k hk hp => ?_⟩
      exact (Below.heap_setCell _ _ _ k (fun he => hp (by rw [show k = N from he]; exact HJ.out.pn))).trans ((Below.heap_setCell _ _ _ k (fun he => hp (by rw [show k = F from he]; exact HJ.out.pf))).trans ((Below.heap_setCell _ _ _ k (fun he => hp (by rw [show k = O from he]; exact HJ.out.po))).trans (HB1.out.block k hk)))
    · rcases hk with hk | hk
      · exact .inl hk
      · exact .inr hk.1
  · rw [if_neg h0] at h
    obtain ⟨rfl, rfl⟩ := Prod.mk.inj (Option.some.inj h)
    have hq : (s1 == 0) = false := beq_eq_false_iff_ne.2 h0
    have HQ := Aside0.mk (J3.num hNO hNF hJ (wrap64 (s1 - 1)))
    have hcF : (W.setCell ⟨N, 0, none⟩ (.int .i64 (wrap64 (s1 - 1)))).cell? ⟨F, 0, none⟩ = some (.bool fd) := (blk_cell HQ.out.bf 0).trans rfl
    have hcN : (W.setCell ⟨N, 0, none⟩ (.int .i64 (wrap64 (s1 - 1)))).cell? ⟨N, 0, none⟩ = some (.int .i64 (wrap64 (s1 - 1))) := (blk_cell HQ.out.bn 0).trans rfl
    clear h hJ hBW hr hc hNO hNF hOF h0 hc2
    have fin : Below w0.heap.size w0 (W.setCell ⟨N, 0, none⟩ (.int .i64 (wrap64 (s1 - 1)))) ∧ Kept W (W.setCell ⟨N, 0, none⟩ (.int .i64 (wrap64 (s1 - 1)))) Pf :=
      ⟨below_set HBW.out (HJ.out.inn N HJ.out.pn).1, by simp [World.setCell], fun k hk hp => Below.heap_setCell _ _ _ k (fun he => hp (by rw [show k = N from he]; exact HJ.out.pn))⟩
    have HFI := Aside0.mk fin
    clear fin
    cases fd with
    | true =>
      go_enter Try.func50, Try.ntmps50
      go_wp2
      go_ret
      exact ⟨rfl, Pf, HQ.out, HFI.out.1, HFI.out.2, fun k hk => .inl hk⟩
    | false =>
      go_enter Try.func50, Try.ntmps50
      go_wp2
      go_ret
      exact ⟨by first | rfl | simp, Pf, HQ.out, HFI.out.1, HFI.out.2, fun k hk => .inl hk⟩
def repAtW (w : World) : World := (w.alloc (.cells #[.slice none 0 0] 22)).alloc (.cells #[.bool false] 4)
theorem repAtW_facts (w : World) : (repAtW w).heap[w.heap.size]? = some (.cells #[.slice none 0 0] 22 (0, 0)) ∧ (repAtW w).heap[w.heap.size + 1]? = some (.cells #[.bool false] 4 (0, 0)) ∧ Below w.heap.size w (repAtW w) ∧ (repAtW w).heap.size = w.heap.size + 2 := by
  have h1 := heap_alloc_new w (.cells #[.slice none 0 0] 22)
  have h2 := heap_alloc_new (w.alloc (.cells #[.slice none 0 0] 22)) (.cells #[.bool false] 4)
  have s1 : (w.alloc (.cells #[.slice none 0 0] 22)).heap.size = w.heap.size + 1 := by simp
  rw [s1] at h2
  exact ⟨blk_alloc h1 _, h2, below_alloc (below_alloc (Below.refl _ _) _) _, by simp [repAtW]⟩
theorem repAt_start {w0 w2 : World} {N : Nat} {q : Int} (hB : Below w0.heap.size w0 w2) (hN : w2.heap[N]? = some (.cells #[.int .i64 q] 2 (0, 0))) (hNw : w0.heap.size ≤ N) : J3 w0 N w2.heap.size (w2.heap.size + 1) (q, [], false) (repAtW w2) (fun k => k = N ∨ k = w2.heap.size ∨ k = w2.heap.size + 1) := by
  obtain ⟨h1, h2, h3, h4⟩ := repAtW_facts w2
  have hl := blk_lt hN
  have hs := below_size hB
  refine ⟨(h3.block N hl).trans hN, h2, ⟨_, h1, Kd.S_nil _ _ _ _ _⟩, .inl rfl, .inr (.inl rfl), .inr (.inr rfl), fun k hk => ?_⟩
  rw [h4]
  rcases hk with rfl | rfl | rfl
  · omega
  · omega
  · omega
set_option maxHeartbeats 8000000 in
set_option maxRecDepth 100000 in
theorem impl_RepresentationAt.calls (k : Nat) (a0_0 : Int) (A0_1 : Option Addr) (c0_1 : Nat) (l0_1 : List (List Int)) (a1 a2 : Int) (r1 : List (List Int)) (r2 : Int) (w : World) (hr0_1 : Kd.C (Kd.slice 2 (Kd.int .i64)) w A0_1 l0_1.length l0_1) (hc0_1 : l0_1.length ≤ c0_1) (h : impl_RepresentationAt.f k a0_0 l0_1 a1 a2 = some (r1, r2)) :
    Calls Try.prog 18 #[.agg #[.int .i64 a0_0, .slice A0_1 l0_1.length c0_1], .int .i64 a1, .int .i64 a2] w fun e w' => ∃ v0_ : Value, e = .returned (.tuple #[v0_, .int .i64 r2]) ∧ Kd.S (Kd.slice 2 (Kd.int .i64)) 47 w' w.heap.size (fun _ => True) v0_ r1 ∧ Below w.heap.size w w' := by
  unfold impl_RepresentationAt.f at h
  obtain ⟨cd, h1, h⟩ := Option.bind_eq_some_iff.mp h
  have P1 := Aside0.mk fun (W : World) (hW : Below w.heap.size w W) => impl_searchCode.calls k a0_0 A0_1 c0_1 l0_1 a1 cd W (Kd.C_below hr0_1 hW) hc0_1 h1
  obtain ⟨W1, hW1⟩ : ∃ W1, W1 = transW w a0_0 a2 (.slice A0_1 l0_1.length c0_1) := ⟨_, rfl⟩
  have HB1 := Aside0.mk (show Below w.heap.size w W1 by rw [hW1]; exact (transW_facts w _ _ _).2.2)
  have HP1 := Aside0.mk (show W1.heap[w.heap.size]? = some (.cells #[.int .i64 a0_0, .slice A0_1 l0_1.length c0_1] 28 (0, 0)) by rw [hW1]; exact (transW_facts w _ _ _).1)
  have HN1 := Aside0.mk (show W1.heap[w.heap.size + 1]? = some (.cells #[.int .i64 a2] 2 (0, 0)) by rw [hW1]; exact (transW_facts w _ _ _).2.1)
  have hc1 : W1.cell? ⟨w.heap.size, 0, none⟩ = some (.int .i64 a0_0) := (blk_cell HP1.out 0).trans rfl
  have hc2 : W1.cell? ⟨w.heap.size, 1, none⟩ = some (.slice A0_1 l0_1.length c0_1) := (blk_cell HP1.out 1).trans rfl
  by_cases hcd : cd = 0
  · rw [if_pos hcd] at h
    subst hcd
    obtain ⟨⟨b, s1, out, fd⟩, h2, h⟩ := Option.bind_eq_some_iff.mp h
    simp only at h
    have P2 := Aside0.mk fun (w2 : World) (hW : Below w.heap.size w w2) (hn : w2.heap[w.heap.size + 1]? = some (.cells #[.int .i64 a2] 2 (0, 0))) => impl_representations.run (repAt_vis k w (w.heap.size + 1) w2.heap.size (w2.heap.size + 1) (by have := blk_lt hn; omega) (by have := blk_lt hn; omega) (by omega)) k a0_0 a1 A0_1 c0_1 l0_1 (a2, [], false) (s1, out, fd) b _ (repAtW w2) (below_then hW (below_size hW) (repAtW_facts w2).2.2.1) (repAt_start hW hn (Nat.le_succ _)) hr0_1 hc0_1 h2
    clear h1 h2 hr0_1 hc0_1
    have H := Aside0.mk h
    clear h
    go_enter Try.func18, Try.ntmps18
    go_upto_region 1 with (fail)
    change Code.wp Try.prog _ _ _ (transW w a0_0 a2 (.slice A0_1 l0_1.length c0_1))
    rw [← hW1]
    clear hW1
    go_upto_region 6 with (go_at_call 45; refine (P1.out _ HB1.out).mono ?_; rintro e w2 ⟨rfl, hb2⟩; have HB2 := Aside0.mk (below_then HB1.out (below_size HB1.out) hb2); have HP2 := Aside0.mk ((hb2.block _ (blk_lt HP1.out)).trans HP1.out); have HN2 := Aside0.mk ((hb2.block _ (blk_lt HN1.out)).trans HN1.out); clear hb2 hc1 hc2 P1)
    change Code.wp Try.prog _ _ _ (repAtW w2)
    have HC := Aside0.mk (P2.out w2 HB2.out HN2.out)
    have HP3 := Aside0.mk (((repAtW_facts w2).2.2.1.block _ (blk_lt HP2.out)).trans HP2.out)
    generalize repAtW w2 = W3 at *
    have hc1 : W3.cell? ⟨w.heap.size, 0, none⟩ = some (.int .i64 a0_0) := (blk_cell HP3.out 0).trans rfl
    have hc2 : W3.cell? ⟨w.heap.size, 1, none⟩ = some (.slice A0_1 l0_1.length c0_1) := (blk_cell HP3.out 1).trans rfl
    cases fd with
    | true =>
      go_wp2_with (go_at_call 46; refine HC.out.mono ?_; rintro e w4 ⟨rfl, Pf', J4, HB4⟩; obtain ⟨v, hv1, hv2⟩ := J4.bo; obtain ⟨Av, cv, ev⟩ := Kd.S_slice hv2; subst ev; have HV := Aside0.mk hv2; have HB5 := Aside0.mk HB4; have hc4 : w4.cell? ⟨w2.heap.size + 1, 0, none⟩ = some (.bool true) := (blk_cell J4.bf 0).trans rfl; have hc5 : w4.cell? ⟨w2.heap.size, 0, none⟩ = some (.slice Av out.length cv) := (blk_cell hv1 0).trans rfl; clear J4 HB4 hc1 hc2 hv1 hv2)
      go_ret2
      have h3 := H.out
      rw [if_pos (by trivial)] at h3
      obtain ⟨rfl, rfl⟩ := Prod.mk.inj (Option.some.inj h3)
      exact ⟨_, rfl, Kd.S_mono HV.out (fun _ _ => trivial), HB5.out⟩
    | false =>
      go_wp2_with (go_at_call 46; refine HC.out.mono ?_; rintro e w4 ⟨rfl, Pf', J4, HB4⟩; have HB5 := Aside0.mk HB4; have hc4 : w4.cell? ⟨w2.heap.size + 1, 0, none⟩ = some (.bool false) := (blk_cell J4.bf 0).trans rfl; clear J4 HB4 hc1 hc2)
      go_ret2
      have h3 := H.out
      rw [if_neg (by simp)] at h3
      obtain ⟨rfl, rfl⟩ := Prod.mk.inj (Option.some.inj h3)
      exact ⟨_, rfl, Kd.S_nil _ _ _ _ _, HB5.out⟩
  · rw [if_neg hcd] at h
    obtain ⟨rfl, rfl⟩ := Prod.mk.inj (Option.some.inj h)
    have hne : (cd == 0) = false := beq_eq_false_iff_ne.2 hcd
    clear h h1 hr0_1 hc0_1
    go_enter Try.func18, Try.ntmps18
    go_upto_region 1 with (fail)
    change Code.wp Try.prog _ _ _ (transW w a0_0 a2 (.slice A0_1 l0_1.length c0_1))
    rw [← hW1]
    clear hW1
    go_wp2_with (go_at_call 45; refine (P1.out _ HB1.out).mono ?_; rintro e w2 ⟨rfl, hb2⟩; have HB2 := Aside0.mk (below_then HB1.out (below_size HB1.out) hb2); clear hb2 hc1 hc2 P1)
    go_ret2
    exact ⟨_, rfl, Kd.S_nil _ _ _ _ _, HB2.out⟩

/-! ### laws_big: function 23 -/
def laws_big.f (l0 : List Int) : Option (Bool) := some (decide ((l0.length : Int) > 4096))
set_option maxHeartbeats 8000000 in
set_option maxRecDepth 100000 in
theorem laws_big.calls (A0 : Option Addr) (c0 : Nat) (l0 : List Int) (r : Bool) (w : World) (hr0 : Kd.C (Kd.int .u8) w A0 l0.length l0) (hc0 : l0.length ≤ c0) (h : laws_big.f l0 = some r) :
    Calls Try.prog 23 #[.slice A0 l0.length c0] w fun e w' => e = .returned (.bool r) ∧ Drawn0 w w' := by
  have HR0 := Aside0.mk hr0
  have HC0 := Aside0.mk hc0
  clear hr0 hc0
  have H : (some (decide ((l0.length : Int) > 4096))) = some r := h
  clear h
  obtain rfl := Option.some.inj H
  go_enter Try.func23, Try.ntmps23
  go_wp2
  go_ret
  exact ⟨by first | rfl | (simp; done) | (simp [*]; done), by repeat (first | exact Drawn0.refl _ | apply Drawn0.step)⟩

/-- A state of type 64 at block g of W; what its slices lead to came in by w0. -/
def IsS64 (w0 W : World) (g : Nat) (f0 : List Int) (f1 : Int) (f2 : Int) : Prop := ∃ A0 c0, W.heap[g]? = some (.cells #[.slice A0 f0.length c0, .int .i64 f1, .int .u64 f2] 64 (0, 0)) ∧ w0.heap.size ≤ g ∧ Kd.C (Kd.int .u8) w0 A0 f0.length f0
theorem IsS64.grown {w0 W : World} {g : Nat} {f0 : List Int} {f1 : Int} {f2 : Int} {W1 : World} {row : Option Nat} (h : IsS64 w0 W g f0 f1 f2) (hw : W.grownBy W1 row) (hne : some g ≠ row) : IsS64 w0 W1 g f0 f1 f2 := by
  obtain ⟨A0, c0, hb, hg, hr0⟩ := h
  exact ⟨A0, c0, blk_grown hb hw hne, hg, hr0⟩
theorem IsS64.kept {w0 W : World} {g : Nat} {f0 : List Int} {f1 : Int} {f2 : Int} {W1 : World} {S : Nat → Prop} (h : IsS64 w0 W g f0 f1 f2) (hk : Kept W W1 S) (hne : ¬ S g) : IsS64 w0 W1 g f0 f1 f2 := by
  obtain ⟨A0, c0, hb, hg, hr0⟩ := h
  exact ⟨A0, c0, blk_kept hb hk hne, hg, hr0⟩
theorem IsS64.below {w0 W : World} {g : Nat} {f0 : List Int} {f1 : Int} {f2 : Int} {W1 : World} (h : IsS64 w0 W g f0 f1 f2) (hw : Below W.heap.size W W1) : IsS64 w0 W1 g f0 f1 f2 := h.grown (grown_of_below hw none) (by simp)
theorem IsS64.alloc {w0 W : World} {g : Nat} {f0 : List Int} {f1 : Int} {f2 : Int} (h : IsS64 w0 W g f0 f1 f2) (o : Obj) : IsS64 w0 (W.alloc o) g f0 f1 f2 := h.below (below_alloc (Below.refl _ _) o)
theorem IsS64.drewN {w0 W : World} {g : Nat} {f0 : List Int} {f1 : Int} {f2 : Int} (h : IsS64 w0 W g f0 f1 f2) (m : Nat) : IsS64 w0 (W.drewN m) g f0 f1 f2 := h
theorem IsS64.drew {w0 W : World} {g : Nat} {f0 : List Int} {f1 : Int} {f2 : Int} (h : IsS64 w0 W g f0 f1 f2) : IsS64 w0 W.drew g f0 f1 f2 := h
theorem IsS64.at_ {w0 W : World} {g : Nat} {f0 : List Int} {f1 : Int} {f2 : Int} {w' : World} {m : Nat} (hq : W.drewN m = w') (h : IsS64 w0 W g f0 f1 f2) : IsS64 w0 w' g f0 f1 f2 := by subst hq; exact IsS64.drewN h m
theorem IsS64.apart {w0 W : World} {g : Nat} {f0 : List Int} {f1 : Int} {f2 : Int} {α : Type} {d : Kd α} {e : Nat} {base : Nat} {ok : Nat → Prop} {v : Value} {xs : List α} (h : IsS64 w0 W g f0 f1 f2) (ho : d.R e W base ok v xs) (ht : ∀ q, q ∈ e :: d.E → q ≠ 64) : d.R e W base (fun k => ok k ∧ k ≠ g) v xs := by
  obtain ⟨A0, c0, hb, hg, hr0⟩ := h
  exact Kd.R_types ho hb ht
theorem IsS64.own_ne {w0 W : World} {g : Nat} {f0 : List Int} {f1 : Int} {f2 : Int} {α : Type} {d : Kd α} {e : Nat} {base : Nat} {ok : Nat → Prop} {v : Value} {xs : List α} (h : IsS64 w0 W g f0 f1 f2) (ho : d.R e W base ok v xs) (ht : e ≠ 64) : some g ≠ v.ownBlock := by
  obtain ⟨A0, c0, hb, hg, hr0⟩ := h
  exact Kd.R_ne ho hb ht
theorem IsS64.apartS {w0 W : World} {g : Nat} {f0 : List Int} {f1 : Int} {f2 : Int} {α : Type} {d : Kd α} {e : Nat} {base : Nat} {ok : Nat → Prop} {v : Value} {xs : List α} (h : IsS64 w0 W g f0 f1 f2) (ho : d.S e W base ok v xs) (ht : ∀ q, q ∈ e :: d.E → q ≠ 64) : d.S e W base (fun k => ok k ∧ k ≠ g) v xs := by
  obtain ⟨A0, c0, hb, hg, hr0⟩ := h
  exact Kd.S_types ho hb ht
theorem IsS64.own_neS {w0 W : World} {g : Nat} {f0 : List Int} {f1 : Int} {f2 : Int} {α : Type} {d : Kd α} {e : Nat} {base : Nat} {ok : Nat → Prop} {v : Value} {xs : List α} (h : IsS64 w0 W g f0 f1 f2) (ho : d.S e W base ok v xs) (ht : e ≠ 64) : some g ≠ v.ownBlock := by
  obtain ⟨A0, c0, hb, hg, hr0⟩ := h
  exact Kd.S_ne ho hb ht
theorem IsS64.lt {w0 W : World} {g : Nat} {f0 : List Int} {f1 : Int} {f2 : Int} (h : IsS64 w0 W g f0 f1 f2) : g < W.heap.size := by
  obtain ⟨A0, c0, hb, hg, hr0⟩ := h
  exact blk_lt hb
theorem IsS64.ge {w0 W : World} {g : Nat} {f0 : List Int} {f1 : Int} {f2 : Int} (h : IsS64 w0 W g f0 f1 f2) : w0.heap.size ≤ g := by
  obtain ⟨A0, c0, hb, hg, hr0⟩ := h
  exact hg
theorem IsS64.ne_blk {w0 W : World} {g : Nat} {f0 : List Int} {f1 : Int} {f2 : Int} {a : Nat} {cs : Array Value} {t : TypeId} {fr : Nat × Nat} (h : IsS64 w0 W g f0 f1 f2) (hb2 : W.heap[a]? = some (.cells cs t fr)) (ht : t ≠ 64) : g ≠ a := by
  obtain ⟨A0, c0, hb, hg, hr0⟩ := h
  rintro rfl
  rw [hb] at hb2
  injection hb2 with hb2
  injection hb2 with _ ht2
  exact ht ht2.symm
theorem IsS64.far {w0 W : World} {g : Nat} {f0 : List Int} {f1 : Int} {f2 : Int} {p : Addr} (h : IsS64 w0 W g f0 f1 f2) (hne : g ≠ p.block) (u : Value) : IsS64 w0 (W.setCell p u) g f0 f1 f2 := by
  obtain ⟨A0, c0, hb, hg, hr0⟩ := h
  exact ⟨A0, c0, blk_far hb hne u, hg, hr0⟩
theorem cellS64_0 {W : World} {g : Nat} {A0 : Option Addr} {c0 : Nat} {f0 : List Int} {f1 : Int} {f2 : Int} (h : W.heap[g]? = some (.cells #[.slice A0 f0.length c0, .int .i64 f1, .int .u64 f2] 64 (0, 0))) : W.cell? ⟨g, 0, none⟩ = some (.slice A0 f0.length c0) := (blk_cell h 0).trans rfl
theorem cellS64_1 {W : World} {g : Nat} {A0 : Option Addr} {c0 : Nat} {f0 : List Int} {f1 : Int} {f2 : Int} (h : W.heap[g]? = some (.cells #[.slice A0 f0.length c0, .int .i64 f1, .int .u64 f2] 64 (0, 0))) : W.cell? ⟨g, 1, none⟩ = some (.int .i64 f1) := (blk_cell h 1).trans rfl
theorem IsS64.set_1 {w0 W : World} {g : Nat} {f0 : List Int} {f1 : Int} {f2 : Int} (h : IsS64 w0 W g f0 f1 f2) (x : Int) : IsS64 w0 (W.setCell ⟨g, 1, none⟩ (.int .i64 x)) g f0 x f2 := by
  obtain ⟨A0, c0, hb, hg, hr0⟩ := h
  exact ⟨A0, c0, by simpa using blk_set hb 1 (.int .i64 x), hg, hr0⟩
theorem cellS64_2 {W : World} {g : Nat} {A0 : Option Addr} {c0 : Nat} {f0 : List Int} {f1 : Int} {f2 : Int} (h : W.heap[g]? = some (.cells #[.slice A0 f0.length c0, .int .i64 f1, .int .u64 f2] 64 (0, 0))) : W.cell? ⟨g, 2, none⟩ = some (.int .u64 f2) := (blk_cell h 2).trans rfl
theorem IsS64.set_2 {w0 W : World} {g : Nat} {f0 : List Int} {f1 : Int} {f2 : Int} (h : IsS64 w0 W g f0 f1 f2) (x : Int) : IsS64 w0 (W.setCell ⟨g, 2, none⟩ (.int .u64 x)) g f0 f1 x := by
  obtain ⟨A0, c0, hb, hg, hr0⟩ := h
  exact ⟨A0, c0, by simpa using blk_set hb 2 (.int .u64 x), hg, hr0⟩
theorem IsS64.new (w0 W : World) (A0 : Option Addr) (c0 : Nat) (f0 : List Int) (f1 : Int) (f2 : Int) (hB : Below w0.heap.size w0 W) (hr0 : Kd.C (Kd.int .u8) w0 A0 f0.length f0) : IsS64 w0 (W.alloc (.cells #[.slice A0 f0.length c0, .int .i64 f1, .int .u64 f2] 64)) W.heap.size f0 f1 f2 := ⟨A0, c0, by simpa using heap_alloc_new W _, hB.size, hr0⟩

/-! ### laws_roll: function 24 -/
def laws_roll.l0 : Nat → List Int → Int → List Int → Int → Int → Option (List Int × Int × Int)
  | 0, _, _, _, _, _ => none
  | k + 1, x0, x6, x138000, x138001, x138002 => if x6 < (x0.length : Int) then (if 0 ≤ x6 then (laws_roll.l0 k x0 (wrap64 (x6 + 1)) x138000 x138001 (IntKind.u64.wrap ((IntKind.u64.wrap ((IntKind.u64.wrap (x138002 * 1099511628211)) + (IntKind.u64.wrap (rd x0 x6)))) + 3))) else (none)) else (some (x138000, x138001, x138002))
def laws_roll.f (k : Nat) (l0 : List Int) (a1 : Int) : Option (List Int × Int × Int) := laws_roll.l0 k l0 0 l0 0 (IntKind.u64.wrap ((IntKind.u64.wrap (a1 * 7919)) + (IntKind.u64.wrap ((l0.length : Int)))))
theorem laws_roll.mono_l : ∀ k, (∀ y0 y1 y2 y3 y4, LeO (laws_roll.l0 k y0 y1 y2 y3 y4) (laws_roll.l0 (k + 1) y0 y1 y2 y3 y4))
  | 0 => fun _ _ _ _ _ r h => by simp [laws_roll.l0] at h
  | k + 1 => by
    have ih0 := laws_roll.mono_l k
    · intro y0 y1 y2 y3 y4
      unfold laws_roll.l0
      repeat' first
      | (with_reducible exact ih0 _ _ _ _ _)
      | (with_reducible exact LeO.refl _)
      | (with_reducible exact LeO.none _)
      | (with_reducible refine LeO.ite ?_ ?_)
      | (with_reducible refine LeO.bind ?_ (fun _ => ?_))
      | exact ih0 _ _ _ _ _
      | exact LeO.none _
      | refine LeO.ite ?_ ?_
      | refine LeO.bind ?_ (fun _ => ?_)
theorem laws_roll.mono : ∀ a0 a1 k, LeO (laws_roll.f k a0 a1) (laws_roll.f (k + 1) a0 a1) := by
  intro a0 a1 k
  have ih0 := laws_roll.mono_l k
  unfold laws_roll.f
  repeat' first
      | (with_reducible exact ih0 _ _ _ _ _)
      | (with_reducible exact LeO.refl _)
      | (with_reducible exact LeO.none _)
      | (with_reducible refine LeO.ite ?_ ?_)
      | (with_reducible refine LeO.bind ?_ (fun _ => ?_))
      | exact ih0 _ _ _ _ _
      | exact LeO.none _
      | refine LeO.ite ?_ ?_
      | refine LeO.bind ?_ (fun _ => ?_)
def laws_roll.T5 : Bool × List (List Nat × List Nat) := (true, [([], []), ([], []), ([1], [1]), ([2], [2]), ([3], [3]), ([4], [4]), ([], []), ([], []), ([6, 7], [6, 7]), ([8], [8]), ([9], [9]), ([5, 10], [5, 10]), ([11], [11]), ([0, 0, 1, 2, 3, 4, 5, 6, 7, 8, 9, 10, 11, 12], [0]), ([13, 0, 1, 2, 3, 4, 5, 6, 7, 8, 9, 10, 11, 12], [13]), ([14, 12, 0, 1, 2, 3, 4, 5, 6, 7, 8, 9, 10, 11, 12], [12, 14])])
def laws_roll.B5 : List Nat := [0, 0, 2, 6, 14, 30, 0, 0, 192, 448, 960, 2046, 4094, 8191, 16383, 32767]
theorem laws_roll.tab5 : rtab .any (opsOf Try.f24 5) = laws_roll.T5 := by kernel_rfl
theorem laws_roll.bits5 : waitsOk laws_roll.T5.2 laws_roll.B5 = true := by kernel_rfl
set_option maxHeartbeats 8000000 in
set_option maxRecDepth 100000 in
theorem laws_roll.calls (k : Nat) (A0 : Option Addr) (c0 : Nat) (l0 : List Int) (a1 : Int) (r1 : List Int) (r2 : Int) (r3 : Int) (w0 w : World) (hB : Below w0.heap.size w0 w) (hr0 : Kd.C (Kd.int .u8) w0 A0 l0.length l0) (hc0 : l0.length ≤ c0) (h : laws_roll.f k l0 a1 = some (r1, r2, r3)) :
    Calls Try.prog 24 #[.slice A0 l0.length c0, .int .u64 a1] w fun e w' => ∃ g_ : Nat, e = .returned (.pointer (some ⟨g_, 0, none⟩)) ∧ IsS64 w0 w' g_ r1 r2 r3 ∧ Below w0.heap.size w0 w' ∧ Below w.heap.size w w' := by
  have hu64 := Try.underlying64
  have HR0 := Aside0.mk hr0
  have HC0 := Aside0.mk hc0
  clear hr0 hc0
  have HBW := Aside0.mk (Below.refl w.heap.size w)
  have HW0 := Aside0.mk hB.size
  have HB := Aside0.mk hB
  clear hB
  have H : (laws_roll.l0 k l0 0 l0 0 (IntKind.u64.wrap ((IntKind.u64.wrap (a1 * 7919)) + (IntKind.u64.wrap ((l0.length : Int)))))) = some (r1, r2, r3) := h
  clear h
  have H' := Aside0.mk H
  clear H
  go_enter Try.func24, Try.ntmps24
  go_wp2_with (first | ((with_reducible refine gate_dst (N := 15) rfl ?_); refine box_event ?hg (N := 15) ?hd (cs := #[.slice A0 l0.length c0, .int .i64 0, .int .u64 (IntKind.u64.wrap ((IntKind.u64.wrap (a1 * 7919)) + (IntKind.u64.wrap ((l0.length : Int)))))]) (t := 64) ?hr ?_; (case hd => rfl); (case hg => rfl); (case hr => first | (go_simp; done) | (go_simp; rfl)); intro gb137 hg w3 hbox hb; have n0_ := Aside0.mk (below_step HBW.out hb); have n1_ := Aside0.mk (below_step (by repeat (first | (with_reducible first | exact HB.out | apply below_alloc | apply pw_below_drewN | apply below_drew1) | exact HB.out)) hb); have n2_ := Aside0.mk (hbox); have n3_ := Aside0.mk ((by rw [hg]; exact (below_size (by repeat (first | (with_reducible first | exact HBW.out | apply below_alloc | apply pw_below_drewN | apply below_drew1) | exact HBW.out))) : w.heap.size ≤ gb137)); have n4_ := Aside0.mk ((Nat.le_trans HW0.out (by rw [hg]; exact (below_size (by repeat (first | (with_reducible first | exact HBW.out | apply below_alloc | apply pw_below_drewN | apply below_drew1) | exact HBW.out))) : w.heap.size ≤ gb137) : w0.heap.size ≤ gb137)); clear HBW; clear HB; have HBW := n0_; have HB := n1_; have BK137 := n2_; have GW137 := n3_; have GE137 := n4_; clear n0_ n1_ n2_ n3_ n4_; clear hb hbox hg))
  go_loopg [6] k (fun kq v6 w' => ∃ (x6_1 : Int) (x138002_1 : Int), v6 = .int .i64 x6_1 ∧ Aside0 (laws_roll.l0 kq l0 x6_1 l0 0 x138002_1 = some (r1, r2, r3)) ∧ Aside0 (kq ≤ k) ∧ Aside0 (w'.heap[gb137]? = some (.cells #[(.slice A0 l0.length c0), .int .i64 0, .int .u64 x138002_1] 64 (0, 0))) ∧ Aside0 (Below w0.heap.size w0 w') ∧ Aside0 (Below w.heap.size w w'))
  case atStart => exact ⟨(0), (IntKind.u64.wrap ((IntKind.u64.wrap (a1 * 7919)) + (IntKind.u64.wrap ((l0.length : Int))))), (by first | rfl | (simp; done) | (simp [*]; done)), H', ⟨Nat.le_refl _⟩, ⟨by (with_reducible repeat (first | refine blk_drewN ?_ _ | refine blk_drew ?_ | refine blk_alloc ?_ _)); exact BK137.out⟩, ⟨by repeat (first | (with_reducible first | exact HB.out | apply below_alloc | apply pw_below_drewN | apply below_drew1 | refine below_set ?_ GE137.out) | exact HB.out)⟩, ⟨by repeat (first | (with_reducible first | exact HBW.out | apply below_alloc | apply pw_below_drewN | apply below_drew1 | refine below_set ?_ GW137.out) | exact HBW.out)⟩⟩
  case round =>
    clear H'
    try clear c2
    clear HBW
    try clear p2
    obtain ⟨x6_1, x138002_1, rfl, HA, HK1, BK137, HB, HBW⟩ := hrel
    cases gk with
    | zero => exact absurd HA.out (by simp [laws_roll.l0])
    | succ k1 =>
      have H := HA.out
      clear HA
      simp only [laws_roll.l0] at H
      by_cases c4 : x6_1 < (l0.length : Int)
      · rw [if_pos c4] at H
        have c4b0 : decide (x6_1 < (l0.length : Int)) = true := decide_eq_true c4
        clear c4
        by_cases c5 : 0 ≤ x6_1
        · rw [if_pos c5] at H
          have c5b0 : decide (0 ≤ x6_1) = true := decide_eq_true c5
          clear c5
          have H' := Aside0.mk H
          clear H
          try go_wp2
          have n0_ := Aside0.mk (blk_drew BK137.out)
          have n9_ := Aside0.mk (below_drew1 HBW.out)
          clear HBW
          have HBW := n9_
          clear n9_
          have n1_ := Aside0.mk (below_drew1 HB.out)
          clear BK137
          clear HB
          have BK137 := n0_
          have HB := n1_
          clear n0_ n1_
          have p138 : 0 ≤ (x6_1 : Int) := of_decide_eq_true (by first | (with_reducible assumption) | assumption)
          have q138 : x6_1 < (l0.length : Int) := of_decide_eq_true (by first | (with_reducible assumption) | assumption)
          obtain ⟨ad138, e138, hx138_0⟩ := Kd.at_int HR0.out x6_1 p138 q138
          have hw138_0 := hx138_0
          cases e138
          replace hx138_0 := pw_cell_below HB.out hx138_0
          replace p138 := eq_true p138
          replace q138 := eq_true q138
          refine start_ (n := 16) (S := fun w' => w'.cell? ⟨gb137, 0, none⟩ = some (.slice (some ad138) l0.length c0) ∧ w'.cell? ⟨gb137, 1, none⟩ = some (.int .i64 0) ∧ w'.cell? ⟨gb137, 2, none⟩ = some (.int .u64 x138002_1) ∧ w'.cell? (ad138.add (x6_1).toNat) = some (.int .u8 (rd l0 x6_1))) (ds := [15]) #[false, false, false, false, false, false, false, false, false, false, false, false, false, false, false, false] (by kernel_rfl) rfl rfl ⟨(blk_cell BK137.out 0).trans rfl, (blk_cell BK137.out 1).trans rfl, (blk_cell BK137.out 2).trans rfl, ((HB.out.cell (World.block_lt_of_cell? _ _ hw138_0)).trans hw138_0)⟩ (fun hHeld => ?_); refine with_tabW laws_roll.tab5 laws_roll.bits5 (fun HT_ HW_ => ?_)
          generalize wr.drew = w6 at BK137 HB HBW hx138_0 hHeld ⊢
          refine pure_ (i := 0) (N := some 22) (v := ?_) (a' := ?_) #[true, false, false, false, false, false, false, false, false, false, false, false, false, false, false, false] rfl rfl (any_of HT_.out (by kernel_rfl)) (fun _ _ _ h => h) (Or.inl ⟨by rfl, ?_⟩) ?_ ?_
          rotate_left
          · intro w'
            go_simp
            with_reducible rfl
          rotate_left
          · simp only [Act.put, List.setIfInBounds_toArray, List.set_cons_zero, List.set_cons_succ, i64_w, i32_w]
            rfl
          refine pure_ (i := 1) (N := some 23) (v := ?_) (a' := ?_) #[true, true, false, false, false, false, false, false, false, false, false, false, false, false, false, false] rfl rfl (any_of HT_.out (by kernel_rfl)) (fun _ _ _ h => h) (Or.inl ⟨by rfl, ?_⟩) ?_ ?_
          rotate_left
          · intro w'
            go_simp
            with_reducible rfl
          rotate_left
          · simp only [Act.put, List.setIfInBounds_toArray, List.set_cons_zero, List.set_cons_succ, i64_w, i32_w]
            rfl
          refine pure_ (i := 2) (N := some 24) (v := ?_) (a' := ?_) #[true, true, true, false, false, false, false, false, false, false, false, false, false, false, false, false] rfl rfl (any_of HT_.out (by kernel_rfl)) (fun _ _ _ h => h) (Or.inl ⟨by rfl, ?_⟩) ?_ ?_
          rotate_left
          · intro w'
            go_simp
            with_reducible rfl
          rotate_left
          · simp only [Act.put, List.setIfInBounds_toArray, List.set_cons_zero, List.set_cons_succ, i64_w, i32_w]
            rfl
          refine pure_ (i := 3) (N := some 25) (v := ?_) (a' := ?_) #[true, true, true, true, false, false, false, false, false, false, false, false, false, false, false, false] rfl rfl (any_of HT_.out (by kernel_rfl)) (fun _ _ _ h => h) (Or.inl ⟨by rfl, ?_⟩) ?_ ?_
          rotate_left
          · intro w'
            go_simp
            with_reducible rfl
          rotate_left
          · simp only [Act.put, List.setIfInBounds_toArray, List.set_cons_zero, List.set_cons_succ, i64_w, i32_w]
            rfl
          refine pure_ (i := 6) (N := some 28) (v := ?_) (a' := ?_) #[true, true, true, true, false, false, true, false, false, false, false, false, false, false, false, false] rfl rfl (any_of HT_.out (by kernel_rfl)) (fun _ _ _ h => h) (Or.inl ⟨by rfl, ?_⟩) ?_ ?_
          rotate_left
          · intro w'
            go_simp
            with_reducible rfl
          rotate_left
          · simp only [Act.put, List.setIfInBounds_toArray, List.set_cons_zero, List.set_cons_succ, i64_w, i32_w]
            rfl
          refine pure_ (i := 7) (N := some 29) (v := ?_) (a' := ?_) #[true, true, true, true, false, false, true, true, false, false, false, false, false, false, false, false] rfl rfl (any_of HT_.out (by kernel_rfl)) (fun _ _ _ h => h) (Or.inl ⟨by rfl, ?_⟩) ?_ ?_
          rotate_left
          · intro w'
            go_simp
            with_reducible rfl
          rotate_left
          · simp only [Act.put, List.setIfInBounds_toArray, List.set_cons_zero, List.set_cons_succ, i64_w, i32_w]
            rfl
          refine pure_ (i := 8) (N := some 30) (v := ?_) (a' := ?_) #[true, true, true, true, false, false, true, true, true, false, false, false, false, false, false, false] rfl rfl (any_of HT_.out (by kernel_rfl)) (fun _ _ _ h => h) (Or.inl ⟨by rfl, ?_⟩) ?_ ?_
          rotate_left
          · intro w'
            go_simp
            with_reducible rfl
          rotate_left
          · simp only [Act.put, List.setIfInBounds_toArray, List.set_cons_zero, List.set_cons_succ, i64_w, i32_w]
            rfl
          refine take_ (i := 4) (N := some 26) (v := ?_) (a' := ?_) #[true, true, true, true, true, false, true, true, true, false, false, false, false, false, false, false] rfl rfl (take_ofW HT_.out HW_.out (by kernel_rfl)) (fun _ _ _ h => h) (Or.inl ⟨by rfl, ?_⟩) hHeld ?_ ?_
          rotate_left
          · rintro w' ⟨s0, s1, s2, s3⟩
            go_simp
            with_reducible rfl
          rotate_left
          · simp only [Act.put, List.setIfInBounds_toArray, List.set_cons_zero, List.set_cons_succ, i64_w, i32_w]
            rfl
          refine pure_ (i := 5) (N := some 27) (v := ?_) (a' := ?_) #[true, true, true, true, true, true, true, true, true, false, false, false, false, false, false, false] rfl rfl (any_of HT_.out (by kernel_rfl)) (fun _ _ _ h => h) (Or.inl ⟨by rfl, ?_⟩) ?_ ?_
          rotate_left
          · intro w'
            go_simp
            with_reducible rfl
          rotate_left
          · simp only [Act.put, List.setIfInBounds_toArray, List.set_cons_zero, List.set_cons_succ, i64_w, i32_w]
            rfl
          refine take_ (i := 9) (N := some 31) (v := ?_) (a' := ?_) #[true, true, true, true, true, true, true, true, true, true, false, false, false, false, false, false] rfl rfl (take_ofW HT_.out HW_.out (by kernel_rfl)) (fun _ _ _ h => h) (Or.inl ⟨by rfl, ?_⟩) hHeld ?_ ?_
          rotate_left
          · rintro w' ⟨s0, s1, s2, s3⟩
            go_simp
            with_reducible rfl
          rotate_left
          · simp only [Act.put, List.setIfInBounds_toArray, List.set_cons_zero, List.set_cons_succ, i64_w, i32_w]
            rfl
          refine pure_ (i := 10) (N := some 32) (v := ?_) (a' := ?_) #[true, true, true, true, true, true, true, true, true, true, true, false, false, false, false, false] rfl rfl (any_of HT_.out (by kernel_rfl)) (fun _ _ _ h => h) (Or.inl ⟨by rfl, ?_⟩) ?_ ?_
          rotate_left
          · intro w'
            go_simp
            with_reducible rfl
          rotate_left
          · simp only [Act.put, List.setIfInBounds_toArray, List.set_cons_zero, List.set_cons_succ, i64_w, i32_w]
            rfl
          refine pure_ (i := 11) (N := some 33) (v := ?_) (a' := ?_) #[true, true, true, true, true, true, true, true, true, true, true, true, false, false, false, false] rfl rfl (any_of HT_.out (by kernel_rfl)) (fun _ _ _ h => h) (Or.inl ⟨by rfl, ?_⟩) ?_ ?_
          rotate_left
          · intro w'
            go_simp
            with_reducible rfl
          rotate_left
          · simp only [Act.put, List.setIfInBounds_toArray, List.set_cons_zero, List.set_cons_succ, i64_w, i32_w]
            rfl
          refine pure_ (i := 12) (N := some 34) (v := ?_) (a' := ?_) #[true, true, true, true, true, true, true, true, true, true, true, true, true, false, false, false] rfl rfl (any_of HT_.out (by kernel_rfl)) (fun _ _ _ h => h) (Or.inl ⟨by rfl, ?_⟩) ?_ ?_
          rotate_left
          · intro w'
            go_simp
            with_reducible rfl
          rotate_left
          · simp only [Act.put, List.setIfInBounds_toArray, List.set_cons_zero, List.set_cons_succ, i64_w, i32_w]
            rfl
          refine pure_ (i := 13) (N := some 35) (v := ?_) (a' := ?_) #[true, true, true, true, true, true, true, true, true, true, true, true, true, true, false, false] rfl rfl (any_of HT_.out (by kernel_rfl)) (fun _ _ _ h => h) (Or.inl ⟨by rfl, ?_⟩) ?_ ?_
          rotate_left
          · intro w'
            go_simp
            with_reducible rfl
          rotate_left
          · simp only [Act.put, List.setIfInBounds_toArray, List.set_cons_zero, List.set_cons_succ, i64_w, i32_w]
            rfl
          refine pure_ (i := 14) (N := some 36) (v := ?_) (a' := ?_) #[true, true, true, true, true, true, true, true, true, true, true, true, true, true, true, false] rfl rfl (any_of HT_.out (by kernel_rfl)) (fun _ _ _ h => h) (Or.inl ⟨by rfl, ?_⟩) ?_ ?_
          rotate_left
          · intro w'
            go_simp
            with_reducible rfl
          rotate_left
          · simp only [Act.put, List.setIfInBounds_toArray, List.set_cons_zero, List.set_cons_succ, i64_w, i32_w]
            rfl
          refine last_ (i := 15) (N := none) #[true, true, true, true, true, true, true, true, true, true, true, true, true, true, true, true] rfl rfl (one_of HT_.out (by kernel_rfl)) (by decide) (fun K hK => ?_)
          have hs7 : w6.cell? ⟨gb137, 2, none⟩ = some (.int .u64 x138002_1) := (blk_cell BK137.out 2).trans rfl
          have hfs7 := blk_frozen BK137.out 2
          refine skip_ (w1 := ?_) (by rfl) rfl ?_ ?_
          rotate_left
          · go_simp
            rfl
          refine hK.out _ _ ?_
          clear hK K
          refine done_ (done_of HT_.out (by kernel_rfl)) ?_
          try go_wp2
          go_roundg k1
          case measure => have := HK1.out; omega
          case rel => exact ⟨(wrap64 (x6_1 + 1)), (IntKind.u64.wrap ((IntKind.u64.wrap ((IntKind.u64.wrap (x138002_1 * 1099511628211)) + (IntKind.u64.wrap (rd l0 x6_1)))) + 3)), (by first | rfl | (simp; done) | (simp [*]; done)), H', ⟨by have := HK1.out; omega⟩, ⟨by (with_reducible repeat (first | refine blk_drewN ?_ _ | refine blk_drew ?_ | refine blk_alloc ?_ _)); refine blk_put (cs := #[.slice (some ad138) l0.length c0, .int .i64 0, .int .u64 x138002_1]) ?_ 2 _ rfl; (with_reducible repeat (first | refine blk_drewN ?_ _ | refine blk_drew ?_ | refine blk_alloc ?_ _)); exact BK137.out⟩, ⟨by repeat (first | (with_reducible first | exact HB.out | apply below_alloc | apply pw_below_drewN | apply below_drew1 | refine below_set ?_ GE137.out) | exact HB.out)⟩, ⟨by repeat (first | (with_reducible first | exact HBW.out | apply below_alloc | apply pw_below_drewN | apply below_drew1 | refine below_set ?_ GW137.out) | exact HBW.out)⟩⟩
        · rw [if_neg c5] at H
          exact absurd H (by simp)
      · rw [if_neg c4] at H
        have c4b0 : decide (x6_1 < (l0.length : Int)) = false := decide_eq_false c4
        clear c4
        simp only [Option.some.injEq, Prod.mk.injEq] at H
        obtain ⟨rfl, rfl, rfl⟩ := H
        go_wp2
        go_ret
        exact ⟨_, rfl, (show IsS64 w0 _ gb137 l0 0 x138002_1 from ⟨_, _, by (with_reducible repeat (first | refine blk_drewN ?_ _ | refine blk_drew ?_ | refine blk_alloc ?_ _)); exact BK137.out, GE137.out, HR0.out⟩), by repeat (first | (with_reducible first | exact HB.out | apply below_alloc | apply pw_below_drewN | apply below_drew1 | refine below_set ?_ GE137.out) | exact HB.out), by repeat (first | (with_reducible first | exact HBW.out | apply below_alloc | apply pw_below_drewN | apply below_drew1 | refine below_set ?_ GW137.out) | exact HBW.out)⟩

end Go.Proofs.Ytinpfomadogadaa.PFnRepresentations
