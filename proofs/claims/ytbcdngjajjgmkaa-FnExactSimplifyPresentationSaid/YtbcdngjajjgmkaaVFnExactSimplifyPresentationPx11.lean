/- Written by this session's program out of the kit's print and this session's contracts. -/
import Derived.Test.YtbcdngjajjgmkaaVFnExactSimplifyPresentationPx0
import Derived.Test.YtbcdngjajjgmkaaVFnExactSimplifyPresentationPx3
import Derived.Test.YtbcdngjajjgmkaaVFnExactSimplifyPresentationPx4
import Derived.Test.YtbcdngjajjgmkaaVFnExactSimplifyPresentationPx10
namespace Go.Proofs.Ytbcdngjajjgmkaa.PFnExactSimplifyPresentation
open Go.RowKit Go.Proofs.YtbcdngjajjgmkaaW.PrintWords Go.Proofs.YtbcdngjajjgmkaaW.PrintLast Go.Proofs.YtbcdngjajjgmkaaW.PrintMore
set_option maxHeartbeats 16000000
set_option maxRecDepth 100000
set_option linter.unusedVariables false
set_option linter.unusedSimpArgs false

/-! ### spec_SimplifyPresentation: function 28 -/
def spec_SimplifyPresentation.l0 : Nat → List (S44) → Int → List (List Int) → Option (Int × (List (List Int)) × (List (S44)) × Int)
  | 0, _, _, _ => none
  | k + 1, x5, x375000, x375001 => if (x5.length : Int) < 200 then ((spec_l04Step.f k x375000 x375001).bind fun bt375 => (if bt375.2.2.2.2.2.2 = true then (if x5.length < 2932031007402 then (spec_SimplifyPresentation.l0 k (x5 ++ [(⟨bt375.1, bt375.2.1, bt375.2.2.1, bt375.2.2.2.1⟩ : S44)]) bt375.2.2.2.2.1 bt375.2.2.2.2.2.1) else (none)) else (some (x375000, x375001, x5, 0)))) else (some (x375000, x375001, x5, 0))
def spec_SimplifyPresentation.f (k : Nat) (a0_0 : Int) (l0_1 : List (List Int)) : Option (Int × (List (List Int)) × (List (S44)) × Int) := (some (([] : List (S44)) : List (S44))).bind fun y367 => ((spec_IsPresentation.f k a0_0 l0_1).bind fun t370 => (if t370 = true then ((spec_l04Copy.f k l0_1 (-1)).bind fun t371 => (spec_SimplifyPresentation.l0 k y367 a0_0 t371)) else (some (0, ([] : List (List Int)), y367, 1))))
def spec_SimplifyPresentation.T4 : Bool × List (List Nat × List Nat) := (true, [([], []), ([0], [0]), ([], []), ([2], [2]), ([3], [3]), ([1, 4], [1, 4]), ([], []), ([6, 5, 4, 0, 1, 2, 3, 4, 5, 6], [5, 6])])
def spec_SimplifyPresentation.B4 : List Nat := [0, 1, 0, 4, 12, 31, 0, 127]
theorem spec_SimplifyPresentation.tab4 : rtab .any (opsOf Try.f28 4) = spec_SimplifyPresentation.T4 := by kernel_rfl
theorem spec_SimplifyPresentation.bits4 : waitsOk spec_SimplifyPresentation.T4.2 spec_SimplifyPresentation.B4 = true := by kernel_rfl
/-- A move whose word is nil: all of it lies in its own four cells. -/
def kmz : Kd S44 where
  sz := 4
  E := []
  K := fun _ x cs => x.f3 = [] ∧ cs = [.int .i64 x.f0, .int .i64 x.f1, .int .i64 x.f2, .slice none 0 0]
  M := fun _ _ _ x cs => x.f3 = [] ∧ cs = [.int .i64 x.f0, .int .i64 x.f1, .int .i64 x.f2, .slice none 0 0]
  K_len := fun h => by rw [h.2]; rfl
  K_one := fun h u hu => by
    rw [h.2] at hu
    simp only [List.mem_cons, List.mem_nil_iff, or_false] at hu
    rcases hu with rfl | rfl | rfl | rfl <;> rfl
  K_below := fun _ h => h
  K_of_M := fun h => h
  M_mono := fun _ h => h
  M_bound := fun h => h
  M_move := fun _ h => h
  M_lower := fun _ h => h
theorem kmz_K {w : World} {x : S44} {cs : List Value} (h : kmz.K w x cs) : k44.K w x cs := by
  obtain ⟨h3, rfl⟩ := h
  have e := k44_mk w x (A3 := none) (c3 := 0) (by rw [h3]; exact Nat.le_refl _) (by rw [h3]; exact Kd.C_nil _ _)
  rw [h3] at e
  exact e
theorem kmz_N {e base : Nat} {ok : Nat → Prop} {w : World} {v : Value} {xs : List S44} (h : Kd.N kmz e w base ok v xs) : Kd.N k44 e w base ok v xs :=
  ⟨h.1, h.2.elim fun rows hr => ⟨rows, hr.1, hr.2.1, fun j x c hx hc W2 hW => kmz_K (hr.2.2 j x c hx hc W2 hW)⟩⟩
def ZVT (w : World) (b1 b2 : Nat) (g : Int) (u : Value) (rows : List (List Int)) (mv : Value) (moves : List S44) (W : World) : Prop :=
  W.heap[b1]? = some (.cells #[.int .i64 g, u] 28 (0, 0)) ∧ W.heap[b2]? = some (.cells #[.int .i64 0, .slice none 0 0] 28 (0, 0)) ∧ Kd.V (Kd.slice 2 (Kd.int .i64)) 39 W w.heap.size (fun k_ => (w.heap.size ≤ k_ ∧ k_ ≠ b1 ∧ k_ ≠ b2) ∧ some k_ ≠ mv.ownBlock) u rows ∧ Kd.S kmz 44 W w.heap.size (fun _ => True) mv moves ∧ Below w.heap.size w W
section
variable {w W W1 : World} {b1 b2 : Nat} {g : Int} {u mv : Value} {rows : List (List Int)} {moves : List S44}
theorem ZVT.p (h : ZVT w b1 b2 g u rows mv moves W) : W.heap[b1]? = some (.cells #[.int .i64 g, u] 28 (0, 0)) := h.1
theorem ZVT.z (h : ZVT w b1 b2 g u rows mv moves W) : W.heap[b2]? = some (.cells #[.int .i64 0, .slice none 0 0] 28 (0, 0)) := h.2.1
theorem ZVT.s (h : ZVT w b1 b2 g u rows mv moves W) : Kd.V (Kd.slice 2 (Kd.int .i64)) 39 W w.heap.size (fun k_ => (w.heap.size ≤ k_ ∧ k_ ≠ b1 ∧ k_ ≠ b2) ∧ some k_ ≠ mv.ownBlock) u rows := h.2.2.1
theorem ZVT.v (h : ZVT w b1 b2 g u rows mv moves W) : Kd.S kmz 44 W w.heap.size (fun _ => True) mv moves := h.2.2.2.1
theorem ZVT.b (h : ZVT w b1 b2 g u rows mv moves W) : Below w.heap.size w W := h.2.2.2.2
theorem ZVT.below (h : ZVT w b1 b2 g u rows mv moves W) (hb : Below W.heap.size W W1) : ZVT w b1 b2 g u rows mv moves W1 := ⟨blk_below h.p hb, blk_below h.z hb, Kd.V_below h.s hb, Kd.S_below h.v hb, below_step h.b hb⟩
theorem ZVT.fresh {u2 : Value} {rows2 : List (List Int)} (h : ZVT w b1 b2 g u rows mv moves W) (hs : Kd.V (Kd.slice 2 (Kd.int .i64)) 39 W1 W.heap.size (fun k_ => W.heap.size ≤ k_) u2 rows2) : Kd.V (Kd.slice 2 (Kd.int .i64)) 39 W1 w.heap.size (fun k_ => (w.heap.size ≤ k_ ∧ k_ ≠ b1 ∧ k_ ≠ b2) ∧ some k_ ≠ mv.ownBlock) u2 rows2 :=
  Kd.V_mono (Kd.V_lower hs h.b.size) fun k_ hk => ⟨⟨Nat.le_trans h.b.size hk, (by have := blk_lt h.p; omega), (by have := blk_lt h.z; omega)⟩, fun he => by obtain ⟨c, hc⟩ := Kd.S_typed h.v k_ he.symm; have := blk_lt hc; omega⟩
theorem ZVT.next {g2 : Int} {u2 mv2 : Value} {rows2 : List (List Int)} {x : S44} (hd : b1 ≠ b2 ∧ w.heap.size ≤ b1 ∧ w.heap.size ≤ b2) (h : ZVT w b1 b2 g u rows mv moves W) (hs : Kd.V (Kd.slice 2 (Kd.int .i64)) 39 W w.heap.size (fun k_ => (w.heap.size ≤ k_ ∧ k_ ≠ b1 ∧ k_ ≠ b2) ∧ some k_ ≠ mv.ownBlock) u2 rows2)
    (ho : Kd.S kmz 44 W1 w.heap.size (fun _ => True) mv2 (moves ++ [x])) (hb : Below w.heap.size w W1) (hg : W.grownBy W1 mv.ownBlock) (hat : mv2.ownBlock = mv.ownBlock ∨ ∃ b, mv2.ownBlock = some b ∧ W.heap.size ≤ b) : ZVT w b1 b2 g2 u2 rows2 mv2 (moves ++ [x]) ((W1.setCell ⟨b1, 0, none⟩ (.int .i64 g2)).setCell ⟨b1, 1, none⟩ u2) := by
  have k1 := blk_grown h.p hg (Kd.S_ne h.v h.p (by decide))
  have k2 := blk_grown h.z hg (Kd.S_ne h.v h.z (by decide))
  exact ⟨zbox_put2 k1, zbox_far2 k2 hd.1.symm, zV_put2 (Kd.V_afterv hs hg hat) (fun _ h => h.1.2.1), Kd.S_set (Kd.S_set ho k1 (by decide) 0 _) (blk_put k1 0 _ rfl) (by decide) 1 _, zbelow_put2 hb hd.2.1⟩
theorem ZVT.answer (hd : b1 ≠ b2 ∧ w.heap.size ≤ b1 ∧ w.heap.size ≤ b2) (h : ZVT w b1 b2 g u rows mv moves W) {x0 x1 : Value} :
    ((W.setCell ⟨b2, 0, none⟩ x0).setCell ⟨b2, 1, none⟩ x1).heap[b2]? = some (.cells #[x0, x1] 28 (0, 0)) ∧ Kd.V (Kd.slice 2 (Kd.int .i64)) 39 ((W.setCell ⟨b2, 0, none⟩ x0).setCell ⟨b2, 1, none⟩ x1) w.heap.size (fun k_ => w.heap.size ≤ k_ ∧ some k_ ≠ mv.ownBlock) u rows ∧ Kd.N k44 44 ((W.setCell ⟨b2, 0, none⟩ x0).setCell ⟨b2, 1, none⟩ x1) w.heap.size (fun k_ => w.heap.size ≤ k_) mv moves ∧ Below w.heap.size w ((W.setCell ⟨b2, 0, none⟩ x0).setCell ⟨b2, 1, none⟩ x1) :=
  ⟨zbox_put2 h.z, Kd.V_mono (zV_put2 h.s (fun _ h => h.1.2.2)) (fun _ h => ⟨h.1.1, h.2⟩), kmz_N (Kd.S_N (Kd.S_mono (Kd.S_bound (Kd.S_set (Kd.S_set h.v h.z (by decide) 0 _) (blk_put h.z 0 _ rfl) (by decide) 1 _)) (fun _ h => h.2.1))), zbelow_put2 h.b hd.2.2⟩
end
/-- The list copied, the block of the answer not yet written. -/
def ZZU (w : World) (b1 b2 b6 : Nat) (P : Array Value) (u mv : Value) (rows : List (List Int)) (W : World) : Prop :=
  W.heap[b1]? = some (.cells P 28 (0, 0)) ∧ W.heap[b2]? = some (.cells #[.int .i64 0, .slice none 0 0] 28 (0, 0)) ∧ W.heap[b6]? = some (.cells #[.int .i64 0, .slice none 0 0] 28 (0, 0)) ∧ Kd.S (Kd.slice 2 (Kd.int .i64)) 39 W w.heap.size (fun _ => True) u rows ∧ Kd.S kmz 44 W w.heap.size (fun _ => True) mv [] ∧ Below w.heap.size w W ∧ (b1 ≠ b6 ∧ b6 ≠ b2 ∧ w.heap.size ≤ b6)
theorem ZZU.put {w W : World} {b1 b2 b6 : Nat} {P : Array Value} {u mv : Value} {rows : List (List Int)} (h : ZZU w b1 b2 b6 P u mv rows W) (g : Int) : ZVT w b6 b2 g u rows mv [] ((W.setCell ⟨b6, 0, none⟩ (.int .i64 g)).setCell ⟨b6, 1, none⟩ u) := by
  obtain ⟨p, z, o, s, v, b, h1, h2, h3⟩ := h
  have s2 := zS_put2 (x0 := .int .i64 g) (x1 := u) s o
  have o2 := zbox_put2 (x0 := .int .i64 g) (x1 := u) o
  have z2 := zbox_far2 (x0 := .int .i64 g) (x1 := u) z h2.symm
  have v2 := Kd.S_set (Kd.S_set v o (by decide) 0 (.int .i64 g)) (blk_put o 0 _ rfl) (by decide) 1 u
  exact ⟨o2, z2, Kd.S_V (Kd.S_mono (Kd.S_bound (Kd.S_apart' (Kd.S_types (Kd.S_types s2 o2 (by decide)) z2 (by decide)) (Kd.S_typed v2) (by decide))) (fun _ hk => ⟨⟨hk.2.1, hk.1.1.1.2, hk.1.1.2⟩, hk.1.2⟩)), v2, zbelow_put2 b h3⟩
theorem spec_SimplifyPresentation.succ_ (K : Nat) (M : List S44) (g : Int) (l : List (List Int)) : spec_SimplifyPresentation.l0 (K + 1) M g l = if (M.length : Int) < 200 then ((spec_l04Step.f K g l).bind fun bt375 => (if bt375.2.2.2.2.2.2 = true then (if M.length < 2932031007402 then (spec_SimplifyPresentation.l0 K (M ++ [(⟨bt375.1, bt375.2.1, bt375.2.2.1, bt375.2.2.2.1⟩ : S44)]) bt375.2.2.2.2.1 bt375.2.2.2.2.2.1) else (none)) else (some (g, l, M, 0)))) else (some (g, l, M, 0)) := rfl
theorem spec_SimplifyPresentation.calls (k : Nat) (a0_0 : Int) (A0_1 : Option Addr) (c0_1 : Nat) (l0_1 : List (List Int)) (r1 : Int) (r2 : List (List Int)) (r3 : List S44) (r4 : Int) (w : World) (hr0_1 : Kd.C (Kd.slice 2 (Kd.int .i64)) w A0_1 l0_1.length l0_1) (hc0_1 : l0_1.length ≤ c0_1) (h : spec_SimplifyPresentation.f k a0_0 l0_1 = some (r1, r2, r3, r4)) :
    Calls Try.prog 28 #[.agg #[.int .i64 a0_0, .slice A0_1 l0_1.length c0_1]] w fun e w' => ∃ v1_ v2_ : Value, e = .returned (.tuple #[.agg #[.int .i64 r1, v1_], v2_, .int .i64 r4]) ∧ Kd.V (Kd.slice 2 (Kd.int .i64)) 39 w' w.heap.size (fun k_ => w.heap.size ≤ k_ ∧ some k_ ≠ v2_.ownBlock) v1_ r2 ∧ Kd.N k44 44 w' w.heap.size (fun k_ => w.heap.size ≤ k_) v2_ r3 ∧ Below w.heap.size w w' := by
  have h0 : ((spec_IsPresentation.f k a0_0 l0_1).bind fun t370 => (if t370 = true then ((spec_l04Copy.f k l0_1 (-1)).bind fun t371 => (spec_SimplifyPresentation.l0 k [] a0_0 t371)) else (some (0, ([] : List (List Int)), ([] : List S44), 1)))) = some (r1, r2, r3, r4) := h
  clear h
  obtain ⟨t370, hpr, h⟩ := Option.bind_eq_some_iff.mp h0
  clear h0
  have HR0 := Aside0.mk hr0_1
  have HC0 := Aside0.mk hc0_1
  have HPR := Aside0.mk fun (W : World) (hW : Below w.heap.size w W) => spec_IsPresentation.calls k a0_0 A0_1 c0_1 l0_1 t370 W (Kd.C_below HR0.out hW) HC0.out hpr
  clear hr0_1 hc0_1 hpr
  by_cases c3 : t370 = true
  · subst c3
    rw [if_pos rfl] at h
    obtain ⟨cp, hcp, h⟩ := Option.bind_eq_some_iff.mp h
    have HCP := Aside0.mk fun (W : World) (hW : Below w.heap.size w W) => spec_l04Copy.calls k A0_1 c0_1 l0_1 (-1) cp W (Kd.C_below HR0.out hW) HC0.out hcp
    have H' := Aside0.mk h
    clear hcp h
    go_enter Try.func28, Try.ntmps28
    go_wp2_with (first
      | (refine be_ 1 28 #[.int .i64 a0_0, .slice A0_1 l0_1.length c0_1] ?_; intro b1 hg w2 hbox hb; have B1 := Aside0.mk hbox; have HB2 := Aside0.mk hb; clear hg hbox hb)
      | (refine be_ 2 28 #[.int .i64 0, .slice none 0 0] ?_; intro b2 hg w3 hbox hb; have B13 := Aside0.mk (blk_below B1.out hb); have B2 := Aside0.mk hbox; have G2 := Aside0.mk (show w.heap.size ≤ b2 from by rw [hg]; exact HB2.out.size); have N12 := Aside0.mk (show b1 ≠ b2 from by rw [hg]; exact Nat.ne_of_lt (blk_lt B1.out)); have HB3 := Aside0.mk (below_step HB2.out hb); clear hg hbox hb B1 HB2)
      | ((with_reducible refine gate_dst (N := 10) rfl ?_); refine Kd.S_lit kmz _ 44 ?hg (N := 10) ?hd (xs := ([] : List S44)) (inner := []) (ok := fun _ => True) (okp := fun _ => True) ?hr ?hp (fun _ hk => hk) trivial (Below.refl _ _) (Nat.le_refl _) (by simp) ?_; (case hd => rfl); (case hg => rfl); (case hr => first | (go_simp; done) | (go_simp; rfl)); (case hp => exact (Reps.none _ _)); intro v10 w4 ho hb hg_ hnew_; clear hg_ hnew_; have HM4 := Aside0.mk (Kd.S_lower ho HB3.out.size); have B14 := Aside0.mk (blk_below B13.out hb); have B24 := Aside0.mk (blk_below B2.out hb); have HB4 := Aside0.mk (below_step HB3.out hb); clear hb ho B13 B2 HB3; obtain ⟨Am, cm, em⟩ := Kd.S_slice HM4.out; subst em; have q10 : w4.cell? ⟨b1, 0, none⟩ = some (.int .i64 a0_0) := (blk_cell B14.out 0).trans rfl; have q11 : w4.cell? ⟨b1, 1, none⟩ = some (.slice A0_1 l0_1.length c0_1) := (blk_cell B14.out 1).trans rfl)
      | (go_at_call 35; refine (HPR.out _ HB4.out).mono ?_; rintro e w5 ⟨rfl, hb⟩; have B15 := Aside0.mk (blk_below B14.out hb); have B25 := Aside0.mk (blk_below B24.out hb); have HM5 := Aside0.mk (Kd.S_below HM4.out hb); have HB5 := Aside0.mk (below_step HB4.out hb); clear hb q10 q11 B14 B24 HM4 HB4 HPR; skip))
    have HB6 := Aside0.mk (below_drew1 HB5.out)
    have B16 := Aside0.mk (blk_drew B15.out)
    have B26 := Aside0.mk (blk_drew B25.out)
    have HM6 := Aside0.mk (Kd.S_drew HM5.out)
    refine start_ (n := 8) (S := fun w' => w'.cell? ⟨b1, 0, none⟩ = some (.int .i64 a0_0) ∧ w'.cell? ⟨b1, 1, none⟩ = some (.slice A0_1 l0_1.length c0_1)) (ds := []) (zA_ 8 0) (by kernel_rfl) rfl (by kernel_rfl) ⟨(blk_cell B16.out 0).trans rfl, (blk_cell B16.out 1).trans rfl⟩ (fun hHeld => ?_)
    clear HB5 B15 B25 HM5
    generalize w5.drew = w6 at HB6 B16 B26 HM6 hHeld ⊢
    refine zz_ 0 16 (zA_ 8 1) ?_
    refine zt_ 1 17 (zA_ 8 3) hHeld ?_
    refine zz_ 2 18 (zA_ 8 7) ?_
    refine zt_ 3 19 (zA_ 8 15) hHeld ?_
    refine join_ (σ := Value × Nat) 1 (zA_ 8 127) (fun s_ => [(20, s_.1), (6, .pointer (some ⟨s_.2, 0, none⟩)), (21, .agg #[.int .i64 a0_0, s_.1])]) (fun s_ w' => (∃ A c, s_.1 = .slice A cp.length c) ∧ ZZU w b1 b2 s_.2 #[.int .i64 a0_0, .slice A0_1 l0_1.length c0_1] s_.1 (.slice Am ([] : List S44).length cm) cp w') ?_ ?_
    rotate_left
    · intro hCont
      refine two_ (i := 4) (j := 6) (Ni := some 20) (Nj := some 6) (zA_ 8 31) (zA_ 8 79) rfl rfl rfl rfl (by kernel_rfl) (by decide) (by decide) (fun K hK => ?_) (fun K hK => ?_)
      · go_simp
        go_at_call 40
        refine (HCP.out _ HB6.out).mono ?_
        rintro e w7 ⟨u, rfl, ho, hb⟩
        obtain ⟨Au, cu, eu⟩ := Kd.S_slice ho
        subst eu
        have HS := Aside0.mk (Kd.S_lower ho HB6.out.size)
        have HB7 := Aside0.mk (below_step HB6.out hb)
        have B17 := Aside0.mk (blk_below B16.out hb)
        have B27 := Aside0.mk (blk_below B26.out hb)
        have HM7 := Aside0.mk (Kd.S_below HM6.out hb)
        clear ho hb HB6 B16 B26 HM6
        refine hK.out _ _ ⟨(blk_cell B17.out 0).trans rfl, (blk_cell B17.out 1).trans rfl⟩ (fun hHeld => ?_)
        clear hK K
        refine zz_ 5 21 (zA_ 8 63) ?_
        refine one_ (i := 6) (N := some 6) (zA_ 8 127) rfl rfl (by kernel_rfl) (by decide) (fun K hK => ?_)
        refine box_step ?hg (N := 6) ?hd (cs := #[.int .i64 0, .slice none 0 0]) (t := 28) ?hr ?_; (case hd => rfl); (case hg => rfl); (case hr => first | (go_simp; done) | (go_simp; rfl))
        intro b6 hg w8 hbox hb
        have HF := Aside0.mk (show ZZU w b1 b2 b6 #[.int .i64 a0_0, .slice A0_1 l0_1.length c0_1] (.slice Au cp.length cu) (.slice Am ([] : List S44).length cm) cp w8 from ⟨blk_below B17.out hb, blk_below B27.out hb, hbox, Kd.S_below HS.out hb, Kd.S_below HM7.out hb, below_step HB7.out hb, by rw [hg]; exact Nat.ne_of_lt (blk_lt B17.out), by rw [hg]; exact Nat.ne_of_gt (blk_lt B27.out), by rw [hg]; exact HB7.out.size⟩)
        clear hg hbox hb HS HB7 B17 B27 HM7
        refine hK.out _ _ ⟨(blk_cell HF.out.1 0).trans rfl, (blk_cell HF.out.1 1).trans rfl⟩ (fun hHeld => ?_)
        clear hK K
        refine nm_ 6 ?_
        exact norm_ (by simp only [putAll, Act.put, List.setIfInBounds_toArray, List.set_cons_zero, List.set_cons_succ]) (hCont (.slice Au cp.length cu, b6) _ ⟨⟨_, _, rfl⟩, HF.out⟩)
      · refine box_step ?hg (N := 6) ?hd (cs := #[.int .i64 0, .slice none 0 0]) (t := 28) ?hr ?_; (case hd => rfl); (case hg => rfl); (case hr => first | (go_simp; done) | (go_simp; rfl))
        intro b6 hg w7 hbox hb
        have HB7 := Aside0.mk (below_step HB6.out hb)
        have B17 := Aside0.mk (blk_below B16.out hb)
        have B27 := Aside0.mk (blk_below B26.out hb)
        have HM7 := Aside0.mk (Kd.S_below HM6.out hb)
        have B67 := Aside0.mk hbox
        have HD := Aside0.mk (show b1 ≠ b6 ∧ b6 ≠ b2 ∧ w.heap.size ≤ b6 from ⟨by rw [hg]; exact Nat.ne_of_lt (blk_lt B16.out), by rw [hg]; exact Nat.ne_of_gt (blk_lt B26.out), by rw [hg]; exact HB6.out.size⟩)
        clear hg hbox hb HB6 B16 B26 HM6
        refine hK.out _ _ ⟨(blk_cell B17.out 0).trans rfl, (blk_cell B17.out 1).trans rfl⟩ (fun hHeld => ?_)
        clear hK K
        refine nm_ 6 ?_
        refine one_ (i := 4) (N := some 20) (zA_ 8 95) rfl rfl (by kernel_rfl) (by decide) (fun K hK => ?_)
        go_simp
        go_at_call 40
        refine (HCP.out _ HB7.out).mono ?_
        rintro e w8 ⟨u, rfl, ho, hb⟩
        obtain ⟨Au, cu, eu⟩ := Kd.S_slice ho
        subst eu
        have HF := Aside0.mk (show ZZU w b1 b2 b6 #[.int .i64 a0_0, .slice A0_1 l0_1.length c0_1] (.slice Au cp.length cu) (.slice Am ([] : List S44).length cm) cp w8 from ⟨blk_below B17.out hb, blk_below B27.out hb, blk_below B67.out hb, Kd.S_lower ho HB7.out.size, Kd.S_below HM7.out hb, below_step HB7.out hb, HD.out⟩)
        clear ho hb HB7 B17 B27 B67 HM7
        refine hK.out _ _ ⟨(blk_cell HF.out.1 0).trans rfl, (blk_cell HF.out.1 1).trans rfl⟩ (fun hHeld => ?_)
        clear hK K
        refine zz_ 5 21 (zA_ 8 127) ?_
        exact norm_ (by simp only [putAll, Act.put, List.setIfInBounds_toArray, List.set_cons_zero, List.set_cons_succ]) (hCont (.slice Au cp.length cu, b6) _ ⟨⟨_, _, rfl⟩, HF.out⟩)
    rintro ⟨u, b6⟩ w8 ⟨⟨Au, cu, eu⟩, hF⟩
    simp only at eu hF
    subst eu
    have HF0 := Aside0.mk hF
    have HD := Aside0.mk (show b6 ≠ b2 ∧ w.heap.size ≤ b6 ∧ w.heap.size ≤ b2 from ⟨hF.2.2.2.2.2.2.2.1, hF.2.2.2.2.2.2.2.2, G2.out⟩)
    clear hF HCP HB6 B16 B26 HM6 hHeld
    refine norm_ (a' := ?_) ?_ ?_
    rotate_left
    · simp only [putAll, Act.put, List.setIfInBounds_toArray, List.set_cons_zero, List.set_cons_succ]
      rfl
    refine one_ (i := 7) (N := none) (zA_ 8 255) rfl rfl (by kernel_rfl) (by decide) (fun K hK => ?_)
    have y0 : w8.cell? ⟨b6, 0, none⟩ = some (.int .i64 0) := (blk_cell HF0.out.2.2.1 0).trans rfl
    have yf0 := blk_frozen HF0.out.2.2.1 0
    have y1 : w8.cell? ⟨b6, 1, none⟩ = some (.slice none 0 0) := (blk_cell HF0.out.2.2.1 1).trans rfl
    have yf1 := blk_frozen HF0.out.2.2.1 1
    refine skip_ (w1 := ?_) (by rfl) rfl ?_ ?_
    rotate_left
    · go_simp
      rfl
    have HT0 := Aside0.mk (HF0.out.put a0_0)
    have B19 := Aside0.mk (show ((w8.setCell ⟨b6, 0, none⟩ (.int .i64 a0_0)).setCell ⟨b6, 1, none⟩ (.slice Au cp.length cu)).heap[b1]? = some (.cells #[.int .i64 a0_0, .slice A0_1 l0_1.length c0_1] 28 (0, 0)) from zbox_far2 HF0.out.1 HF0.out.2.2.2.2.2.2.1)
    refine hK.out _ _ ⟨(blk_cell B19.out 0).trans rfl, (blk_cell B19.out 1).trans rfl⟩ (fun hHeld => ?_)
    clear hK K y0 y1 yf0 yf1 HF0 hHeld B19
    refine done_ (by kernel_rfl) ?_
    generalize ((w8.setCell ⟨b6, 0, none⟩ (.int .i64 a0_0)).setCell ⟨b6, 1, none⟩ (.slice Au cp.length cu)) = w9 at HT0 ⊢
    try go_wp2
    go_loopg [5] k (fun kq v5 w' => ∃ (g : Int) (u : Value) (rows : List (List Int)) (moves : List S44), Aside0 (spec_SimplifyPresentation.l0 kq moves g rows = some (r1, r2, r3, r4)) ∧ Aside0 (kq ≤ k) ∧ Aside0 (ZVT w b6 b2 g u rows v5 moves w'))
    case atStart => exact ⟨a0_0, _, cp, [], H', ⟨Nat.le_refl _⟩, HT0⟩
    case round =>
      clear H' HT0
      obtain ⟨g, u, rows, moves, HA, HK1, HT⟩ := hrel
      cases gk with
      | zero => exact nomatch (show (none : Option (Int × List (List Int) × List S44 × Int)) = some (r1, r2, r3, r4) from HA.out)
      | succ k1 =>
        have H := HA.out
        clear HA
        rw [spec_SimplifyPresentation.succ_] at H
        obtain ⟨Am, cm, em⟩ := Kd.S_slice HT.out.v
        subst em
        obtain ⟨Au, cu, eu⟩ := Kd.V_slice HT.out.s
        subst eu
        have q10 : wr.cell? ⟨b6, 0, none⟩ = some (.int .i64 g) := (blk_cell HT.out.p 0).trans rfl
        have q11 : wr.cell? ⟨b6, 1, none⟩ = some (.slice Au rows.length cu) := (blk_cell HT.out.p 1).trans rfl
        by_cases c10 : (moves.length : Int) < 200
        · rw [if_pos c10] at H
          have LM := Aside0.mk c10
          have c10b0 : decide ((moves.length : Int) < 200) = true := decide_eq_true c10
          have c10b1 : decide (moves.length < 200) = true := decide_eq_true (by omega)
          clear c10
          obtain ⟨⟨m0, m1, m2, m3, g2, rows2, okb⟩, hsi, H⟩ := Option.bind_eq_some_iff.mp H
          simp only at H
          have HSI := Aside0.mk fun (W : World) (hC : Kd.C (Kd.slice 2 (Kd.int .i64)) W Au rows.length rows) (hc : rows.length ≤ cu) => spec_l04Step.run k1 g Au cu rows m0 m1 m2 m3 g2 rows2 okb W hC hc hsi
          clear hsi
          by_cases c12 : okb = true
          · subst c12
            rw [if_pos rfl, if_pos (by have := LM.out; omega)] at H
            have H' := Aside0.mk H
            clear H
            go_wp2_with (first
              | (go_at_call 69; refine (HSI.out _ (Kd.V_reads' HT.out.s).2.2 (Kd.V_reads' HT.out.s).2.1).mono ?_; rintro e w6 ⟨A5, n5, c5, rfl, hm3, ho, hb⟩; have HM3 := Aside0.mk hm3; have HS6 := Aside0.mk ho; have HT6 := Aside0.mk (HT.out.below hb); clear hb hm3 HSI q10 q11)
              | (refine be_ 7 44 #[.int .i64 0, .int .i64 0, .int .i64 0, .slice none 0 0] ?_; intro b7 hg w7 hbox hb; have G5 := Aside0.mk (show w6.heap.size ≤ b7 by rw [hg]; exact Nat.le_refl _); have B5 := Aside0.mk hbox; have HB7 := Aside0.mk hb; clear hg hbox hb; have z0 : w7.cell? ⟨b7, 0, none⟩ = some (.int .i64 0) := (blk_cell B5.out 0).trans rfl; have z1 : w7.cell? ⟨b7, 1, none⟩ = some (.int .i64 0) := (blk_cell B5.out 1).trans rfl; have z2 : w7.cell? ⟨b7, 2, none⟩ = some (.int .i64 0) := (blk_cell B5.out 2).trans rfl; have z3 : w7.cell? ⟨b7, 3, none⟩ = some (.slice none 0 0) := (blk_cell B5.out 3).trans rfl)
              | (refine be_ 8 28 #[.int .i64 0, .slice none 0 0] ?_; intro b8 hg w8 hbox hb; have G6 := Aside0.mk (show w6.heap.size ≤ b8 ∧ b7 ≠ b8 from ⟨by rw [hg]; exact HB7.out.size, by rw [hg]; exact Nat.ne_of_lt (blk_lt B5.out)⟩); have hn56 := G6.out.2; have hn65 := G6.out.2.symm; have B58 := Aside0.mk (blk_below B5.out hb); have B6 := Aside0.mk hbox; have HB8 := Aside0.mk (below_step HB7.out hb); clear hg hbox hb z0 z1 z2 z3 B5 HB7; have z0 : w8.cell? ⟨b7, 0, none⟩ = some (.int .i64 0) := (blk_cell B58.out 0).trans rfl; have zf0 := blk_frozen B58.out 0; have z1 : w8.cell? ⟨b7, 1, none⟩ = some (.int .i64 0) := (blk_cell B58.out 1).trans rfl; have zf1 := blk_frozen B58.out 1; have z2 : w8.cell? ⟨b7, 2, none⟩ = some (.int .i64 0) := (blk_cell B58.out 2).trans rfl; have zf2 := blk_frozen B58.out 2; have z3 : w8.cell? ⟨b7, 3, none⟩ = some (.slice none 0 0) := (blk_cell B58.out 3).trans rfl; have zf3 := blk_frozen B58.out 3; have y0 : w8.cell? ⟨b8, 0, none⟩ = some (.int .i64 0) := (blk_cell B6.out 0).trans rfl; have yf0 := blk_frozen B6.out 0; have y1 : w8.cell? ⟨b8, 1, none⟩ = some (.slice none 0 0) := (blk_cell B6.out 1).trans rfl; have yf1 := blk_frozen B6.out 1)
              | ((with_reducible refine gate_builtin (b := .append) (xs := #[.tmp 33, .tmp 35]) rfl ?_); at_builtin; have HBC := Aside0.mk (show Below w6.heap.size w6 ((((((w8.setCell ⟨b7, 0, none⟩ (.int .i64 m0)).setCell ⟨b7, 1, none⟩ (.int .i64 m1)).setCell ⟨b7, 2, none⟩ (.int .i64 m2)).setCell ⟨b7, 3, none⟩ (.slice none 0 0)).setCell ⟨b8, 0, none⟩ (.int .i64 g2)).setCell ⟨b8, 1, none⟩ (.slice A5 n5 c5)) from zbelow_put2 (zbelow_put4 HB8.out G5.out) G6.out.1); have HTC := Aside0.mk (HT6.out.below HBC.out); have HSC := Aside0.mk (Kd.V_below (HT.out.fresh (by first | exact HS6.out rfl | exact HS6.out trivial | exact HS6.out)) HBC.out); have B69 := Aside0.mk (show ((((((w8.setCell ⟨b7, 0, none⟩ (.int .i64 m0)).setCell ⟨b7, 1, none⟩ (.int .i64 m1)).setCell ⟨b7, 2, none⟩ (.int .i64 m2)).setCell ⟨b7, 3, none⟩ (.slice none 0 0)).setCell ⟨b8, 0, none⟩ (.int .i64 g2)).setCell ⟨b8, 1, none⟩ (.slice A5 n5 c5)).heap[b8]? = some (.cells #[.int .i64 g2, .slice A5 n5 c5] 28 (0, 0)) from zbox_put2 (zbox_far4 B6.out G6.out.2.symm)); refine Kd.S_append kmz (w0 := w) w.heap.size rfl (.tmp 33) (.tmp 35) 49 44 (.agg #[.int .i64 0, .int .i64 0, .int .i64 0, .slice none 0 0]) 48 rfl Try.underlying49 info44 rfl (by decide) (by omega) (.slice Am moves.length cm) moves (⟨m0, m1, m2, []⟩ : S44) [.int .i64 m0, .int .i64 m1, .int .i64 m2, .slice none 0 0] (fun _ => True) (fun _ => False) ?a6 ?a7 ?aP (fun _ h_ => h_.elim) (fun _ _ => trivial) ?aO ?aB ?aS ?aL ?_; (case a6 => rfl); (case a7 => show Value.slice _ 1 1 = _; exact congrArg (fun q => Value.slice (some ⟨q, 0, none⟩) 1 1) (by simp [World.setCell])); (case aP => exact ⟨rfl, rfl⟩); (case aO => exact Kd.S_mono HTC.out.v (fun _ _ => ⟨trivial, fun h_ => h_⟩)); (case aB => exact HTC.out.b); (case aS => exact HTC.out.b.size); (case aL => have := LM.out; omega); intro mv2 w11 ho hb hg hat; have HT11 := Aside0.mk (ZVT.next (g2 := g2) HD.out HTC.out HSC.out ho hb hg hat); have B611 := Aside0.mk (blk_grown B69.out hg (Kd.S_ne HTC.out.v B69.out (by decide))); have k1_ := Aside0.mk (blk_grown HTC.out.p hg (Kd.S_ne HTC.out.v HTC.out.p (by decide))); clear ho hb hg hat HTC HSC HBC B69 B58 B6 HB8 z0 z1 z2 z3 zf0 zf1 zf2 zf3 y0 y1 yf0 yf1 HT6 HS6 HT; have z0 : w11.cell? ⟨b8, 0, none⟩ = some (.int .i64 g2) := (blk_cell B611.out 0).trans rfl; have z1 : w11.cell? ⟨b8, 1, none⟩ = some (.slice A5 n5 c5) := (blk_cell B611.out 1).trans rfl; have y0 : w11.cell? ⟨b6, 0, none⟩ = some (.int .i64 g) := (blk_cell k1_.out 0).trans rfl; have yf0 := blk_frozen k1_.out 0; have y1 : w11.cell? ⟨b6, 1, none⟩ = some (.slice Au rows.length cu) := (blk_cell k1_.out 1).trans rfl; have yf1 := blk_frozen k1_.out 1))
            go_roundg k1
            case measure => have := HK1.out; omega
            case rel => exact ⟨g2, .slice A5 n5 c5, rows2, moves ++ [⟨m0, m1, m2, m3⟩], H', ⟨by have := HK1.out; omega⟩, by rw [HM3.out]; exact HT11⟩
          · rw [if_neg c12] at H
            obtain rfl := Bool.eq_false_iff.mpr c12
            clear c12
            simp only [Option.some.injEq, Prod.mk.injEq] at H
            obtain ⟨rfl, rfl, rfl, rfl⟩ := H
            go_wp2_with (first
              | (go_at_call 69; refine (HSI.out _ (Kd.V_reads' HT.out.s).2.2 (Kd.V_reads' HT.out.s).2.1).mono ?_; rintro e w6 ⟨A5, n5, c5, rfl, hm3, ho, hb⟩; have HM3 := Aside0.mk hm3; have HS6 := Aside0.mk ho; have HT6 := Aside0.mk (HT.out.below hb); clear hb hm3 HSI q10 q11)
              | (refine be_ 7 44 #[.int .i64 0, .int .i64 0, .int .i64 0, .slice none 0 0] ?_; intro b7 hg w7 hbox hb; have G5 := Aside0.mk (show w6.heap.size ≤ b7 by rw [hg]; exact Nat.le_refl _); have B5 := Aside0.mk hbox; have HB7 := Aside0.mk hb; clear hg hbox hb; have z0 : w7.cell? ⟨b7, 0, none⟩ = some (.int .i64 0) := (blk_cell B5.out 0).trans rfl; have z1 : w7.cell? ⟨b7, 1, none⟩ = some (.int .i64 0) := (blk_cell B5.out 1).trans rfl; have z2 : w7.cell? ⟨b7, 2, none⟩ = some (.int .i64 0) := (blk_cell B5.out 2).trans rfl; have z3 : w7.cell? ⟨b7, 3, none⟩ = some (.slice none 0 0) := (blk_cell B5.out 3).trans rfl)
              | (refine be_ 8 28 #[.int .i64 0, .slice none 0 0] ?_; intro b8 hg w8 hbox hb; have G6 := Aside0.mk (show w6.heap.size ≤ b8 ∧ b7 ≠ b8 from ⟨by rw [hg]; exact HB7.out.size, by rw [hg]; exact Nat.ne_of_lt (blk_lt B5.out)⟩); have hn56 := G6.out.2; have hn65 := G6.out.2.symm; have B58 := Aside0.mk (blk_below B5.out hb); have B6 := Aside0.mk hbox; have HB8 := Aside0.mk (below_step HB7.out hb); clear hg hbox hb z0 z1 z2 z3 B5 HB7; have z0 : w8.cell? ⟨b7, 0, none⟩ = some (.int .i64 0) := (blk_cell B58.out 0).trans rfl; have zf0 := blk_frozen B58.out 0; have z1 : w8.cell? ⟨b7, 1, none⟩ = some (.int .i64 0) := (blk_cell B58.out 1).trans rfl; have zf1 := blk_frozen B58.out 1; have z2 : w8.cell? ⟨b7, 2, none⟩ = some (.int .i64 0) := (blk_cell B58.out 2).trans rfl; have zf2 := blk_frozen B58.out 2; have z3 : w8.cell? ⟨b7, 3, none⟩ = some (.slice none 0 0) := (blk_cell B58.out 3).trans rfl; have zf3 := blk_frozen B58.out 3; have y0 : w8.cell? ⟨b8, 0, none⟩ = some (.int .i64 0) := (blk_cell B6.out 0).trans rfl; have yf0 := blk_frozen B6.out 0; have y1 : w8.cell? ⟨b8, 1, none⟩ = some (.slice none 0 0) := (blk_cell B6.out 1).trans rfl; have yf1 := blk_frozen B6.out 1; have HBC := Aside0.mk (show Below w6.heap.size w6 ((((((w8.setCell ⟨b7, 0, none⟩ (.int .i64 m0)).setCell ⟨b7, 1, none⟩ (.int .i64 m1)).setCell ⟨b7, 2, none⟩ (.int .i64 m2)).setCell ⟨b7, 3, none⟩ (.slice none 0 0)).setCell ⟨b8, 0, none⟩ (.int .i64 g2)).setCell ⟨b8, 1, none⟩ (.slice A5 n5 c5)) from zbelow_put2 (zbelow_put4 HB8.out G5.out) G6.out.1); have HT9 := Aside0.mk (HT6.out.below HBC.out); have n1 := Aside0.mk (show b6 ≠ b7 ∧ b6 ≠ b8 ∧ b2 ≠ b7 ∧ b2 ≠ b8 from by have h1 := blk_lt HT6.out.p; have h2 := blk_lt HT6.out.z; have h3 := G5.out; have h4 := G6.out.1; exact ⟨by omega, by omega, by omega, by omega⟩); obtain ⟨n11, n12, n13, n14⟩ := n1.out; have n11s := n11.symm; have n12s := n12.symm; have n13s := n13.symm; have n14s := n14.symm; have B18 := Aside0.mk (HT6.out.below HB8.out); have x0 : w8.cell? ⟨b6, 0, none⟩ = some (.int .i64 g) := (blk_cell B18.out.p 0).trans rfl; have x1 : w8.cell? ⟨b6, 1, none⟩ = some (.slice Au rows.length cu) := (blk_cell B18.out.p 1).trans rfl; have x2 : w8.cell? ⟨b2, 0, none⟩ = some (.int .i64 0) := (blk_cell B18.out.z 0).trans rfl; have x3 : w8.cell? ⟨b2, 1, none⟩ = some (.slice none 0 0) := (blk_cell B18.out.z 1).trans rfl; have xf0 := blk_frozen B18.out.z 0; have xf1 := blk_frozen B18.out.z 1))
            obtain ⟨e1, e2, e3, e4⟩ := HT9.out.answer HD.out (x0 := .int .i64 g) (x1 := .slice Au rows.length cu)
            refine bodyPost_ret (results_list (rs := [.cell 2 28, .tmp 3, .tmp 4]) rfl (by simp) (.cell b2 28 #[.int .i64 g, .slice Au rows.length cu] (0, 0) _ rfl e1 Try.underlying28 rfl (by kernel_rfl) (.tmp (.tmp .nil)))) rfl ?_
            exact ⟨_, _, by first | rfl | trivial, e2, e3, e4⟩
        · rw [if_neg c10] at H
          have c10b0 : decide ((moves.length : Int) < 200) = false := decide_eq_false c10
          have c10b1 : decide (moves.length < 200) = false := decide_eq_false (by omega)
          clear c10
          simp only [Option.some.injEq, Prod.mk.injEq] at H
          obtain ⟨rfl, rfl, rfl, rfl⟩ := H
          have hn12 := HD.out.1
          have hn21 := HD.out.1.symm
          have y0 : wr.cell? ⟨b2, 0, none⟩ = some (.int .i64 0) := (blk_cell HT.out.z 0).trans rfl
          have y1 : wr.cell? ⟨b2, 1, none⟩ = some (.slice none 0 0) := (blk_cell HT.out.z 1).trans rfl
          have yf0 := blk_frozen HT.out.z 0
          have yf1 := blk_frozen HT.out.z 1
          go_wp2
          obtain ⟨e1, e2, e3, e4⟩ := HT.out.answer HD.out (x0 := .int .i64 g) (x1 := .slice Au rows.length cu)
          refine bodyPost_ret (results_list (rs := [.cell 2 28, .tmp 3, .tmp 4]) rfl (by simp) (.cell b2 28 #[.int .i64 g, .slice Au rows.length cu] (0, 0) _ rfl e1 Try.underlying28 rfl (by kernel_rfl) (.tmp (.tmp .nil)))) rfl ?_
          exact ⟨_, _, by first | rfl | trivial, e2, e3, e4⟩
  · rw [if_neg c3] at h
    obtain rfl := Bool.eq_false_iff.mpr c3
    clear c3
    simp only [Option.some.injEq, Prod.mk.injEq] at h
    obtain ⟨rfl, rfl, rfl, rfl⟩ := h
    go_enter Try.func28, Try.ntmps28
    go_wp2_with (first
      | (refine be_ 1 28 #[.int .i64 a0_0, .slice A0_1 l0_1.length c0_1] ?_; intro b1 hg w2 hbox hb; have B1 := Aside0.mk hbox; have HB2 := Aside0.mk hb; clear hg hbox hb)
      | (refine be_ 2 28 #[.int .i64 0, .slice none 0 0] ?_; intro b2 hg w3 hbox hb; have B13 := Aside0.mk (blk_below B1.out hb); have B2 := Aside0.mk hbox; have G2 := Aside0.mk (show w.heap.size ≤ b2 from by rw [hg]; exact HB2.out.size); have N12 := Aside0.mk (show b1 ≠ b2 from by rw [hg]; exact Nat.ne_of_lt (blk_lt B1.out)); have HB3 := Aside0.mk (below_step HB2.out hb); clear hg hbox hb B1 HB2)
      | ((with_reducible refine gate_dst (N := 10) rfl ?_); refine Kd.S_lit kmz _ 44 ?hg (N := 10) ?hd (xs := ([] : List S44)) (inner := []) (ok := fun _ => True) (okp := fun _ => True) ?hr ?hp (fun _ hk => hk) trivial (Below.refl _ _) (Nat.le_refl _) (by simp) ?_; (case hd => rfl); (case hg => rfl); (case hr => first | (go_simp; done) | (go_simp; rfl)); (case hp => exact (Reps.none _ _)); intro v10 w4 ho hb hg_ hnew_; clear hg_ hnew_; have HM4 := Aside0.mk (Kd.S_lower ho HB3.out.size); have B14 := Aside0.mk (blk_below B13.out hb); have B24 := Aside0.mk (blk_below B2.out hb); have HB4 := Aside0.mk (below_step HB3.out hb); clear hb ho B13 B2 HB3; obtain ⟨Am, cm, em⟩ := Kd.S_slice HM4.out; subst em; have q10 : w4.cell? ⟨b1, 0, none⟩ = some (.int .i64 a0_0) := (blk_cell B14.out 0).trans rfl; have q11 : w4.cell? ⟨b1, 1, none⟩ = some (.slice A0_1 l0_1.length c0_1) := (blk_cell B14.out 1).trans rfl)
      | (go_at_call 35; refine (HPR.out _ HB4.out).mono ?_; rintro e w5 ⟨rfl, hb⟩; have B15 := Aside0.mk (blk_below B14.out hb); have B25 := Aside0.mk (blk_below B24.out hb); have HM5 := Aside0.mk (Kd.S_below HM4.out hb); have HB5 := Aside0.mk (below_step HB4.out hb); clear hb q10 q11 B14 B24 HM4 HB4 HPR; have y0 : w5.cell? ⟨b2, 0, none⟩ = some (.int .i64 0) := (blk_cell B25.out 0).trans rfl; have yf0 := blk_frozen B25.out 0; have y1 : w5.cell? ⟨b2, 1, none⟩ = some (.slice none 0 0) := (blk_cell B25.out 1).trans rfl; have yf1 := blk_frozen B25.out 1))
    have e1 : ((w5.setCell ⟨b2, 0, none⟩ (.int .i64 0)).setCell ⟨b2, 1, none⟩ (.slice none 0 0)).heap[b2]? = some (.cells #[.int .i64 0, .slice none 0 0] 28 (0, 0)) := zbox_put2 B25.out
    have e3 : Kd.N k44 44 ((w5.setCell ⟨b2, 0, none⟩ (.int .i64 0)).setCell ⟨b2, 1, none⟩ (.slice none 0 0)) w.heap.size (fun k_ => w.heap.size ≤ k_) (.slice Am ([] : List S44).length cm) [] := kmz_N (Kd.S_N (Kd.S_mono (Kd.S_bound (Kd.S_set (Kd.S_set HM5.out B25.out (by decide) 0 _) (blk_put B25.out 0 _ rfl) (by decide) 1 _)) (fun _ h => h.2.1)))
    have e4 : Below w.heap.size w ((w5.setCell ⟨b2, 0, none⟩ (.int .i64 0)).setCell ⟨b2, 1, none⟩ (.slice none 0 0)) := zbelow_put2 HB5.out G2.out
    refine bodyPost_ret (results_list (rs := [.cell 2 28, .tmp 3, .tmp 4]) rfl (by simp) (.cell b2 28 #[.int .i64 0, .slice none 0 0] (0, 0) _ rfl e1 Try.underlying28 rfl (by kernel_rfl) (.tmp (.tmp .nil)))) rfl ?_
    exact ⟨_, _, by first | rfl | trivial, Kd.V_nil _ _ _ _ _, e3, e4⟩

/-! ### impl_inRange: function 64 -/
def impl_inRange.f (a0 : Int) (a1 : Int) (a2 : Int) : Option (Bool) := if a1 ≤ a0 then (some (decide (a0 ≤ a2))) else (some false)
theorem impl_inRange.calls (a0 : Int) (a1 : Int) (a2 : Int) (r : Bool) (w : World) (h : impl_inRange.f a0 a1 a2 = some r) :
    Calls Try.prog 64 #[.int .i64 a0, .int .i64 a1, .int .i64 a2] w fun e w' => e = .returned (.bool r) ∧ Drawn0 w w' := by
  have H : (if a1 ≤ a0 then (some (decide (a0 ≤ a2))) else (some false)) = some r := h
  clear h
  by_cases c4 : a1 ≤ a0
  · rw [if_pos c4] at H
    have c4b0 : decide (a1 ≤ a0) = true := decide_eq_true c4
    clear c4
    obtain rfl := Option.some.inj H
    go_enter Try.func64, Try.ntmps64
    go_wp2
    go_ret
    exact ⟨by first | rfl | (simp; done) | (simp [*]; done), by repeat (first | exact Drawn0.refl _ | apply Drawn0.step)⟩
  · rw [if_neg c4] at H
    have c4b0 : decide (a1 ≤ a0) = false := decide_eq_false c4
    clear c4
    obtain rfl := Option.some.inj H
    go_enter Try.func64, Try.ntmps64
    go_wp2
    go_ret
    exact ⟨by first | rfl | (simp; done) | (simp [*]; done), by repeat (first | exact Drawn0.refl _ | apply Drawn0.step)⟩

/-! ### impl_reduced: function 58 -/
def impl_reduced.l0 : Nat → List Int → List Int → Int → Int → Option (List Int)
 | 0, _, _, _, _ => none
 | k + 1, x3, x7, x8, x9 => if x9 < x8 then (if 0 ≤ x9 then (if x9 < (x7.length : Int) then (if (x3.length : Int) > 0 then (if 0 ≤ (wrap64 ((x3.length : Int) - 1)) then (if (wrap64 ((x3.length : Int) - 1)) < (x3.length : Int) then (if (rd x3 (wrap64 ((x3.length : Int) - 1))) = (wrap64 (-(rd x7 x9))) then (if (wrap64 ((x3.length : Int) - 1)) ≤ (x3.length : Int) then (impl_reduced.l0 k (x3.take ((wrap64 ((x3.length : Int) - 1)) : Int).toNat) x7 x8 (wrap64 (x9 + 1))) else (none)) else (if x3.length < 17592186044416 then (impl_reduced.l0 k (x3 ++ [rd x7 x9]) x7 x8 (wrap64 (x9 + 1))) else (none))) else (none)) else (none)) else (if x3.length < 17592186044416 then (impl_reduced.l0 k (x3 ++ [rd x7 x9]) x7 x8 (wrap64 (x9 + 1))) else (none))) else (none)) else (none)) else (some x3)
def impl_reduced.f (k : Nat) (l0 : List Int) : Option (List Int) := impl_reduced.l0 k ([] : List Int) l0 (l0.length : Int) 0
theorem impl_reduced.calls (k : Nat) (A0 : Option Addr) (c0 : Nat) (l0 : List Int) (r : List Int) (w : World) (hr0 : Kd.C (Kd.int .i64) w A0 l0.length l0) (hc0 : l0.length ≤ c0) (h : impl_reduced.f k l0 = some r) :
  Calls Try.prog 58 #[.slice A0 l0.length c0] w fun e w' => ∃ v0_ : Value, e = .returned (v0_) ∧ Kd.R (Kd.int .i64) 2 w' w.heap.size (fun _ => True) v0_ r ∧ Below w.heap.size w w' := by
 have HR0 := am_ hr0
 have HC0 := am_ hc0
 clear hr0 hc0
 have HB := am_ (Below.refl w.heap.size w)
 have H : (impl_reduced.l0 k ([] : List Int) l0 (l0.length : Int) 0) = some r := h
 clear h
 have H' := am_ H
 clear H
 go_enter Try.func58, Try.ntmps58
 go_wp2
 go_loopg [3, 9] k (fun kq v3 v9 w' => ∃ (x3_1 : List Int) (x9_1 : Int), v9 = .int .i64 x9_1 ∧ Aside0 (impl_reduced.l0 kq x3_1 l0 (l0.length : Int) x9_1 = some r) ∧ Aside0 (kq ≤ k) ∧ Aside0 (Kd.R (Kd.int .i64) 2 w' w.heap.size (fun _ => True) v3 x3_1) ∧ Aside0 (Below w.heap.size w w'))
 case atStart => exact ⟨(([] : List Int)), (0), (by first | rfl | (simp; done) | (simp [*]; done)), H', ⟨Nat.le_refl _⟩, ⟨by first | exact Kd.R_nil _ _ _ _ _ | exact Kd.N_nil _ _ _ _ _ | exact Kd.V_nil _ _ _ _ _ | exact Kd.Q_nil _ _ _ _ _ | exact Kd.S_nil _ _ _ _ _⟩, ⟨bb_ HB.out⟩⟩
 case round =>
  clear H'
  obtain ⟨x3_1, x9_1, rfl, HA, HK1, HO_3, HB⟩ := hrel
  cases gk with
  | zero => exact absurd HA.out (by simp [impl_reduced.l0])
  | succ k1 =>
   have H := HA.out
   clear HA
   simp only [impl_reduced.l0] at H
   by_cases c2 : x9_1 < (l0.length : Int)
   ·rw [if_pos c2] at H
    have c2b0 : decide (x9_1 < (l0.length : Int)) = true := decide_eq_true c2
    clear c2
    by_cases c3 : 0 ≤ x9_1
    ·rw [if_pos c3] at H
     have c3b0 : decide (0 ≤ x9_1) = true := decide_eq_true c3
     clear c3
     by_cases c4 : x9_1 < (l0.length : Int)
     ·rw [if_pos c4] at H
      have c4b0 : decide (x9_1 < (l0.length : Int)) = true := decide_eq_true c4
      clear c4
      by_cases c5 : (x3_1.length : Int) > 0
      ·rw [if_pos c5] at H
       have c5b0 : decide (0 < (x3_1.length : Int)) = true := decide_eq_true c5
       have c5b1 : decide (0 < x3_1.length) = true := decide_eq_true (by omega)
       clear c5
       obtain ⟨ji6, hji6⟩ : ∃ j_ : Int, (wrap64 ((x3_1.length : Int) - 1)) = j_ := ⟨_, rfl⟩
       replace H : (if 0 ≤ (ji6) then (if (ji6) < (x3_1.length : Int) then (if (rd x3_1 (ji6)) = (wrap64 (-(rd l0 x9_1))) then (if (ji6) ≤ (x3_1.length : Int) then (impl_reduced.l0 k1 (x3_1.take ((ji6) : Int).toNat) l0 (l0.length : Int) (wrap64 (x9_1 + 1))) else (none)) else (if x3_1.length < 17592186044416 then (impl_reduced.l0 k1 (x3_1 ++ [rd l0 x9_1]) l0 (l0.length : Int) (wrap64 (x9_1 + 1))) else (none))) else (none)) else (none)) = some r := by first | (rw [hji6] at H; exact H) | (simp only [hji6] at H ⊢; exact H)
       have hji6w : (IntKind.i64.wrap ((x3_1.length : Int) - 1)) = ji6 := (i64_w _).trans hji6
       by_cases c7 : 0 ≤ (ji6)
       ·rw [if_pos c7] at H
        have c7b0 : decide (0 ≤ (ji6)) = true := decide_eq_true c7
        clear c7
        by_cases c8 : (ji6) < (x3_1.length : Int)
        ·rw [if_pos c8] at H
         have c8b0 : decide ((ji6) < (x3_1.length : Int)) = true := decide_eq_true c8
         clear c8
         by_cases c9 : (rd x3_1 (ji6)) = (wrap64 (-(rd l0 x9_1)))
         ·rw [if_pos c9] at H
          have c9b0 : ((rd x3_1 (ji6)) == (wrap64 (-(rd l0 x9_1)))) = true := beq_iff_eq.mpr c9
          have c9b1 : ((rd x3_1 (ji6)) != (wrap64 (-(rd l0 x9_1)))) = false := bne_eq_false_iff_eq.mpr c9
          clear c9
          by_cases c10 : (ji6) ≤ (x3_1.length : Int)
          ·rw [if_pos c10] at H
           have c10b0 := eq_true c10
           have c10b1 : decide ((ji6) ≤ (x3_1.length : Int)) = true := decide_eq_true c10
           clear c10
           obtain ⟨y393, hy393⟩ : ∃ y_ : List Int, y_ = (x3_1.take ((ji6) : Int).toNat) := ⟨_, rfl⟩
           replace H : (impl_reduced.l0 k1 y393 l0 (l0.length : Int) (wrap64 (x9_1 + 1))) = some r := hq_ hy393 H
           have Ny393 := am_ hy393
           clear hy393
           have H' := am_ H
           clear H
           have p391 : 0 ≤ (x9_1 : Int) := da_
           have q391 : x9_1 < (l0.length : Int) := da_
           obtain ⟨ad391, e391, hx391_0⟩ := Kd.at_int HR0.out x9_1 p391 q391
           cases e391
           replace hx391_0 := ce_ HB hx391_0
           replace p391 := eq_true p391
           replace q391 := eq_true q391
           obtain ⟨Ao11, co11, eo11⟩ := Kd.R_slice HO_3.out
           subst eo11
           have p392 : 0 ≤ ((ji6) : Int) := da_
           have q392 : (ji6) < (x3_1.length : Int) := da_
           obtain ⟨ad392, e392, hx392_0⟩ := Kd.at_int (Kd.R_reads' HO_3.out).2.2 (ji6) p392 q392
           cases e392
           replace p392 := eq_true p392
           replace q392 := eq_true q392
           have q12 : ((ji6) : Int) ≤ ((x3_1.length : Int) : Int) := da_
           obtain ⟨i012, hi012, _, hsz12, _⟩ := info_parts info2
           have hcut12 := cut_to (P := Try.prog) 39 2 .i64 Try.underlying39 hi012 (some ad392) x3_1.length co11 (ji6) da_ q12 (Kd.R_reads' HO_3.out).2.1
           have hr12 := Kd.R_take (m := ((ji6) : Int).toNat) HO_3.out (by omega)
           have hy12 : y393.length = ((ji6) : Int).toNat := (by rw [Ny393.out, List.length_take]; omega)
           rw [← Ny393.out] at hr12
           rw [← hy12] at hr12 hcut12
           clear hy12 hi012 hsz12 HO_3
           have HO395 := am_ hr12
           clear hr12
           replace q12 := eq_true q12
           go_wp2
           go_roundg k1
           case measure => have := HK1.out; omega
           case rel => exact ⟨(y393), (wrap64 (x9_1 + 1)), (by first | rfl | (simp; done) | (simp [*]; done)), H', ⟨by have := HK1.out; omega⟩, ⟨rk_ HO395.out⟩, ⟨bb_ HB.out⟩⟩
          ·rw [if_neg c10] at H
           exact absurd H (by simp)
         ·rw [if_neg c9] at H
          have c9b0 : ((rd x3_1 (ji6)) == (wrap64 (-(rd l0 x9_1)))) = false := beq_eq_false_iff_ne.mpr c9
          have c9b1 : ((rd x3_1 (ji6)) != (wrap64 (-(rd l0 x9_1)))) = true := bne_iff_ne.mpr c9
          by_cases c13 : x3_1.length < 17592186044416
          ·rw [if_pos c13] at H
           have LMc13 := am_ c13
           clear c13
           obtain ⟨y396, hy396⟩ : ∃ y_ : List Int, y_ = (x3_1 ++ [rd l0 x9_1]) := ⟨_, rfl⟩
           replace H : (impl_reduced.l0 k1 y396 l0 (l0.length : Int) (wrap64 (x9_1 + 1))) = some r := hq_ hy396 H
           have Ny396 := am_ hy396
           clear hy396
           have H' := am_ H
           clear H
           have p391 : 0 ≤ (x9_1 : Int) := da_
           have q391 : x9_1 < (l0.length : Int) := da_
           obtain ⟨ad391, e391, hx391_0⟩ := Kd.at_int HR0.out x9_1 p391 q391
           cases e391
           replace hx391_0 := ce_ HB hx391_0
           replace p391 := eq_true p391
           replace q391 := eq_true q391
           obtain ⟨Ao14, co14, eo14⟩ := Kd.R_slice HO_3.out
           subst eo14
           have p392 : 0 ≤ ((ji6) : Int) := da_
           have q392 : (ji6) < (x3_1.length : Int) := da_
           obtain ⟨ad392, e392, hx392_0⟩ := Kd.at_int (Kd.R_reads' HO_3.out).2.2 (ji6) p392 q392
           cases e392
           replace p392 := eq_true p392
           replace q392 := eq_true q392
           go_wp2_with (first | ((with_reducible refine gate_builtin (b := .append) (xs := #[.tmp 31, .tmp 33]) rfl ?_); at_builtin; refine Kd.R_append (Kd.int .i64) (w0 := w) w.heap.size rfl (.tmp 31) (.tmp 33) 39 2 (.int .i64 0) 8 rfl Try.underlying39 info2 rfl (by decide) (by omega) (.slice (some ad392) x3_1.length co14) x3_1 (rd l0 x9_1) [.int .i64 (rd l0 x9_1)] (fun _ => True) (fun _ => False) rfl rfl ?aP (fun _ hk => hk.elim) ?aF ?aO ?aB ?aS ?aL ?_; (case aP => exact rfl); (case aB => exact (bb_ HB.out)); (case aF => exact (fun _ _ => trivial)); (case aO => exact (rk_ HO_3.out)); (case aS => exact (below_size (bb_ HB.out))); (case aL => have := LMc13.out; omega); intro v397 w15 ho hb hg hat; rw [← Ny396.out] at ho; have n0_ := am_ (hb); have n1_ := am_ (ho); clear HB HO_3; revert n0_ n1_; intro HB HO398; clear ho hb hg hat))
           go_roundg k1
           case measure => have := HK1.out; omega
           case rel => exact ⟨(y396), (wrap64 (x9_1 + 1)), (by first | rfl | (simp; done) | (simp [*]; done)), H', ⟨by have := HK1.out; omega⟩, ⟨rk_ HO398.out⟩, ⟨bb_ HB.out⟩⟩
          ·rw [if_neg c13] at H
           exact absurd H (by simp)
        ·rw [if_neg c8] at H
         exact absurd H (by simp)
       ·rw [if_neg c7] at H
        exact absurd H (by simp)
      ·rw [if_neg c5] at H
       have c5b0 : decide (0 < (x3_1.length : Int)) = false := decide_eq_false c5
       have c5b1 : decide (0 < x3_1.length) = false := decide_eq_false (by omega)
       clear c5
       by_cases c16 : x3_1.length < 17592186044416
       ·rw [if_pos c16] at H
        have LMc16 := am_ c16
        clear c16
        obtain ⟨y399, hy399⟩ : ∃ y_ : List Int, y_ = (x3_1 ++ [rd l0 x9_1]) := ⟨_, rfl⟩
        replace H : (impl_reduced.l0 k1 y399 l0 (l0.length : Int) (wrap64 (x9_1 + 1))) = some r := hq_ hy399 H
        have Ny399 := am_ hy399
        clear hy399
        have H' := am_ H
        clear H
        have p391 : 0 ≤ (x9_1 : Int) := da_
        have q391 : x9_1 < (l0.length : Int) := da_
        obtain ⟨ad391, e391, hx391_0⟩ := Kd.at_int HR0.out x9_1 p391 q391
        cases e391
        replace hx391_0 := ce_ HB hx391_0
        replace p391 := eq_true p391
        replace q391 := eq_true q391
        obtain ⟨Ao17, co17, eo17⟩ := Kd.R_slice HO_3.out
        subst eo17
        go_wp2_with (first | ((with_reducible refine gate_builtin (b := .append) (xs := #[.tmp 31, .tmp 33]) rfl ?_); at_builtin; refine Kd.R_append (Kd.int .i64) (w0 := w) w.heap.size rfl (.tmp 31) (.tmp 33) 39 2 (.int .i64 0) 8 rfl Try.underlying39 info2 rfl (by decide) (by omega) (.slice Ao17 x3_1.length co17) x3_1 (rd l0 x9_1) [.int .i64 (rd l0 x9_1)] (fun _ => True) (fun _ => False) rfl rfl ?aP (fun _ hk => hk.elim) ?aF ?aO ?aB ?aS ?aL ?_; (case aP => exact rfl); (case aB => exact (bb_ HB.out)); (case aF => exact (fun _ _ => trivial)); (case aO => exact (rk_ HO_3.out)); (case aS => exact (below_size (bb_ HB.out))); (case aL => have := LMc16.out; omega); intro v400 w18 ho hb hg hat; rw [← Ny399.out] at ho; have n0_ := am_ (hb); have n1_ := am_ (ho); clear HB HO_3; revert n0_ n1_; intro HB HO401; clear ho hb hg hat))
        go_roundg k1
        case measure => have := HK1.out; omega
        case rel => exact ⟨(y399), (wrap64 (x9_1 + 1)), (by first | rfl | (simp; done) | (simp [*]; done)), H', ⟨by have := HK1.out; omega⟩, ⟨rk_ HO401.out⟩, ⟨bb_ HB.out⟩⟩
       ·rw [if_neg c16] at H
        exact absurd H (by simp)
     ·rw [if_neg c4] at H
      exact absurd H (by simp)
    ·rw [if_neg c3] at H
     exact absurd H (by simp)
   ·rw [if_neg c2] at H
    have c2b0 : decide (x9_1 < (l0.length : Int)) = false := decide_eq_false c2
    clear c2
    obtain rfl := Option.some.inj H
    go_wp2
    go_ret
    exact ⟨_, er_, Rx_ HO_3.out, bb_ HB.out⟩

/-! ### slices_IndexFunc_int64_int64_125: function 125 -/
/-- The first place at which p holds, counted from i on, or -1. -/
def idxOf {α : Type} (p : α → Bool) : List α → Int → Int
  | [], _ => -1
  | x :: r, i => if p x = true then i else idxOf p r (i + 1)
theorem idxOf_any {α : Type} (p : α → Bool) : ∀ (l : List α) (i : Int), 0 ≤ i → decide (0 ≤ idxOf p l i) = l.any p
  | [], i, _ => by simp [idxOf]
  | x :: r, i, h => by
    unfold idxOf
    by_cases hp : p x = true
    · simp [hp, h]
    · rw [if_neg hp, idxOf_any p r (i + 1) (by omega)]
      simp [hp]
theorem rd_drop (l : List Int) (k : Nat) (h : k < l.length) : l.drop k = rd l k :: l.drop (k + 1) := by
  rw [List.drop_eq_getElem_cons h]
  simp [rd, List.getD, List.getElem?_eq_getElem h]
theorem rd_mem (l : List Int) (k : Nat) (h : k < l.length) : rd l k ∈ l := by
  simp [rd, List.getD, List.getElem?_eq_getElem h]
theorem indexInts (g : Nat) (lb : Array Value) (eg : ∀ args W, (callFunc g args).run Try.prog W = .ok (.enter g args) W)
    (p : Int → Bool) (A0 : Option Addr) (c0 : Nat) (l0 : List Int) (w : World) (hr0 : Kd.C (Kd.int .i64) w A0 l0.length l0)
    (hp : ∀ (W : World) (x : Int), x ∈ l0 → Below w.heap.size w W → Calls Try.prog g (#[.int .i64 x] ++ lb) W fun e w' => e = .returned (.bool (p x)) ∧ Below W.heap.size W w') :
    Calls Try.prog 125 #[.slice A0 l0.length c0, .func (.func g) #[] lb] w fun e w' => e = .returned (.int .i64 (idxOf p l0 0)) ∧ Below w.heap.size w w' := by
  have hbig := hr0.2.1
  have HR0 := Aside0.mk hr0
  have HP := Aside0.mk hp
  clear hr0 hp
  go_enter Try.func125, Try.ntmps125
  go_wp2
  go_loopg [5, 8] l0.length (fun gg _ s8 wr => ∃ kk : Nat, kk ≤ l0.length ∧ l0.length - kk ≤ gg ∧ s8 = .int .i64 kk ∧ Aside0 (Below w.heap.size w wr) ∧ Aside0 (idxOf p l0 0 = idxOf p (l0.drop kk) kk))
  case atStart => exact ⟨0, Nat.zero_le _, by omega, rfl, ⟨Below.refl _ w⟩, ⟨by simp⟩⟩
  case round =>
    obtain ⟨kk, hkk, hg, rfl, BW, AI⟩ := hrel
    by_cases hlt : kk < l0.length
    · have hltz : (kk : Int) < (l0.length : Int) := by omega
      obtain ⟨ad, e, hx0⟩ := Kd.at_int HR0.out (kk : Int) (by omega) (by omega)
      cases e
      have hx : wr.cell? (ad.add kk) = some (.int .i64 (rd l0 kk)) := by
        have := (BW.out.cell (World.block_lt_of_cell? w _ hx0)).trans hx0
        simpa using this
      clear hx0
      have hcall := HP.out wr (rd l0 kk) (rd_mem l0 kk hlt) BW.out
      have AD := Aside0.mk (rd_drop l0 kk hlt)
      generalize rd l0 kk = y at hx hcall AD
      cases hq : p y with
      | true =>
        rw [hq] at hcall
        have HQ := Aside0.mk hq
        clear hq
        go_wp2_with ((with_reducible refine hcall.mono ?_); rintro e w' ⟨rfl, hb'⟩)
        go_ret
        refine ⟨?_, BW.out.trans (hb'.mono BW.out.size)⟩
        rw [AI.out, AD.out]
        simp [idxOf, HQ.out]
      | false =>
        rw [hq] at hcall
        have HQ := Aside0.mk hq
        clear hq
        go_wp2_with ((with_reducible refine hcall.mono ?_); rintro e w' ⟨rfl, hb'⟩)
        go_roundg (l0.length - (kk + 1))
        case measure => omega
        case rel =>
          refine ⟨kk + 1, by omega, by omega, by go_num, ⟨BW.out.trans (hb'.mono BW.out.size)⟩, ⟨?_⟩⟩
          rw [AI.out, AD.out]
          simp [idxOf, HQ.out]
    · have hltz : ¬ (kk : Int) < (l0.length : Int) := by omega
      have hk : kk = l0.length := by omega
      have HK := Aside0.mk hk
      clear hk
      go_wp2
      go_ret
      refine ⟨?_, BW.out⟩
      rw [AI.out, HK.out]
      simp [idxOf]

/-! ### slices_ContainsFunc_int64_int64_121: function 121 -/
theorem containsInts (g : Nat) (lb : Array Value) (eg : ∀ args W, (callFunc g args).run Try.prog W = .ok (.enter g args) W)
    (p : Int → Bool) (A0 : Option Addr) (c0 : Nat) (l0 : List Int) (w : World) (hr0 : Kd.C (Kd.int .i64) w A0 l0.length l0)
    (hp : ∀ (W : World) (x : Int), x ∈ l0 → Below w.heap.size w W → Calls Try.prog g (#[.int .i64 x] ++ lb) W fun e w' => e = .returned (.bool (p x)) ∧ Below W.heap.size W w') :
    Calls Try.prog 121 #[.slice A0 l0.length c0, .func (.func g) #[] lb] w fun e w' => e = .returned (.bool (l0.any p)) ∧ Below w.heap.size w w' := by
  rw [← idxOf_any p l0 0 (Int.le_refl 0)]
  have hI := indexInts g lb eg p A0 c0 l0 w hr0 hp
  clear hr0 hp eg
  go_enter Try.func121, Try.ntmps121
  go_wp2_with (go_at_call 125; refine hI.mono ?_; rintro e w' ⟨rfl, hb'⟩)
  go_ret
  exact ⟨rfl, hb'⟩

/-! ### impl_isWord: function 99 -/
def abs64 (x : Int) : Int := if x < 0 then wrap64 (-x) else x
def isWord_bad (g x : Int) : Bool := x == 0 || (decide (g < abs64 x) || decide (x < wrap64 (-g)))
def impl_isWord.f (l0 : List Int) (a1 : Int) : Option Bool := some (decide (l0.length ≤ 120) && !(l0.any (isWord_bad a1)))
theorem abs_quiet (x : Int) (w : World) : Calls Try.prog 76 #[.int .i64 x] w fun e w' => e = .returned (.int .i64 (abs64 x)) ∧ w' = w := by
  by_cases h : x < 0
  · have E := Aside0.mk (show abs64 x = wrap64 (-x) from if_pos h)
    go_enter Try.func76, Try.ntmps76
    go_wp2
    go_ret
    exact ⟨by rw [E.out] <;> rfl, rfl⟩
  · have E := Aside0.mk (show abs64 x = x from if_neg h)
    go_enter Try.func76, Try.ntmps76
    go_wp2
    go_ret
    exact ⟨by rw [E.out] <;> rfl, rfl⟩
theorem isWord_lit (x g : Int) (B : Nat) (w : World) (hc : w.cell? ⟨B, 0, none⟩ = some (.int .i64 g)) :
    Calls Try.prog 122 #[.int .i64 x, .pointer (some ⟨B, 0, none⟩)] w fun e w' => e = .returned (.bool (isWord_bad g x)) ∧ Drawn0 w w' := by
  have ha := abs_quiet x
  by_cases h0 : x = 0
  · have h0b : (x == 0) = true := by simpa using h0
    have E := Aside0.mk (show isWord_bad g x = true by simp [isWord_bad, h0b])
    clear h0
    go_enter Try.func122, Try.ntmps122
    go_wp2
    go_quiet (fail)
    go_wp2
    go_ret
    exact ⟨by rw [E.out] <;> rfl, by repeat (first | exact Drawn0.refl _ | apply Drawn0.step)⟩
  · have h0b : (x == 0) = false := by simpa using h0
    by_cases h1 : g < abs64 x
    · have h1b : decide (g < abs64 x) = true := decide_eq_true h1
      have E := Aside0.mk (show isWord_bad g x = true by simp [isWord_bad, h1b])
      clear h0 h1
      go_enter Try.func122, Try.ntmps122
      go_wp2
      go_quiet ((go_at_call 76; exact Calls.quiet_of_same (ha _)))
      go_wp2
      go_ret
      exact ⟨by rw [E.out] <;> rfl, by repeat (first | exact Drawn0.refl _ | apply Drawn0.step)⟩
    · have h1b : decide (g < abs64 x) = false := decide_eq_false h1
      have E := Aside0.mk (show isWord_bad g x = decide (x < wrap64 (-g)) by simp [isWord_bad, h0b, h1b])
      clear h0 h1
      go_enter Try.func122, Try.ntmps122
      go_wp2
      go_quiet ((go_at_call 76; exact Calls.quiet_of_same (ha _)))
      go_wp2
      go_ret
      exact ⟨by rw [E.out] <;> rfl, by repeat (first | exact Drawn0.refl _ | apply Drawn0.step)⟩
theorem impl_isWord.calls (A0 : Option Addr) (c0 : Nat) (l0 : List Int) (a1 : Int) (r : Bool) (w : World) (hr0 : Kd.C (Kd.int .i64) w A0 l0.length l0) (hc0 : l0.length ≤ c0) (h : impl_isWord.f l0 a1 = some r) :
    Calls Try.prog 99 #[.slice A0 l0.length c0, .int .i64 a1] w fun e w' => e = .returned (.bool r) ∧ Below w.heap.size w w' := by
  obtain rfl := Option.some.inj h
  clear h
  have hC := fun (W : World) (hb : Below w.heap.size w W) (hB : w.heap.size < W.heap.size) (hc : W.cell? ⟨w.heap.size, 0, none⟩ = some (.int .i64 a1)) =>
    containsInts 122 #[.pointer (some ⟨w.heap.size, 0, none⟩)] (Go.Proofs.enters_of Try.func122 (by kernel_rfl) rfl) (isWord_bad a1) A0 c0 l0 W (Kd.C_below hr0 hb)
      (fun W' x _ hb' => (isWord_lit x a1 w.heap.size W' ((hb'.cell (p := ⟨w.heap.size, 0, none⟩) hB).trans hc)).mono fun _ _ ⟨he, hd⟩ => ⟨he, hd.below⟩)
  have HC := Aside0.mk hC
  clear hC hr0 hc0
  by_cases hl : l0.length ≤ 120
  · have hlz : (l0.length : Int) ≤ 120 := by omega
    have E := Aside0.mk (show (decide (l0.length ≤ 120) && !(l0.any (isWord_bad a1))) = !(l0.any (isWord_bad a1)) by simp [hl])
    clear hl
    go_enter Try.func99, Try.ntmps99
    go_wp2_with (go_at_call 121; refine (HC.out _ ((Below.refl _ w).alloc (Nat.le_refl _) _) (by simp) (by simp)).mono ?_; rintro e w' ⟨rfl, hb'⟩)
    go_ret
    exact ⟨by rw [E.out] <;> rfl, ((Below.refl _ w).alloc (Nat.le_refl _) _).trans (hb'.mono (by simp))⟩
  · have hlz : ¬ (l0.length : Int) ≤ 120 := by omega
    have E := Aside0.mk (show (decide (l0.length ≤ 120) && !(l0.any (isWord_bad a1))) = false by simp [hl])
    clear hl
    go_enter Try.func99, Try.ntmps99
    go_wp2
    go_ret
    exact ⟨by rw [E.out] <;> rfl, (Below.refl _ w).alloc (Nat.le_refl _) _⟩
end Go.Proofs.Ytbcdngjajjgmkaa.PFnExactSimplifyPresentation
