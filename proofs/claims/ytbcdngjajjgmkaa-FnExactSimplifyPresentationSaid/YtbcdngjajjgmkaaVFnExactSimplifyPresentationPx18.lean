/- Written by this session's program out of the kit's print and this session's contracts. -/
import Derived.Test.YtbcdngjajjgmkaaVFnExactSimplifyPresentationPx0
import Derived.Test.YtbcdngjajjgmkaaVFnExactSimplifyPresentationPx1
import Derived.Test.YtbcdngjajjgmkaaVFnExactSimplifyPresentationPx2
import Derived.Test.YtbcdngjajjgmkaaVFnExactSimplifyPresentationPx12
import Derived.Test.YtbcdngjajjgmkaaVFnExactSimplifyPresentationPx13
import Derived.Test.YtbcdngjajjgmkaaVFnExactSimplifyPresentationPx17
namespace Go.Proofs.Ytbcdngjajjgmkaa.PFnExactSimplifyPresentation
open Go.RowKit Go.Proofs.YtbcdngjajjgmkaaW.PrintWords Go.Proofs.YtbcdngjajjgmkaaW.PrintLast Go.Proofs.YtbcdngjajjgmkaaW.PrintMore
set_option maxHeartbeats 16000000
set_option maxRecDepth 100000
set_option linter.unusedVariables false
set_option linter.unusedSimpArgs false

/-! ### impl_simplified: function 70 -/
def impl_simplified.l0 : Nat → List (S44) → Int → List (List Int) → Option (Int × (List (List Int)) × (List (S44)))
  | 0, _, _, _ => none
  | k + 1, x4, x438000, x438001 => if (x4.length : Int) < 200 then ((impl_simplifying.f k x438000 x438001).bind fun bt442 => (if bt442.2.2.2.2.2.2 = true then (if x4.length < 2932031007402 then (impl_simplified.l0 k (x4 ++ [(⟨bt442.1, bt442.2.1, bt442.2.2.1, bt442.2.2.2.1⟩ : S44)]) bt442.2.2.2.2.1 bt442.2.2.2.2.2.1) else (none)) else (some (x438000, x438001, x4)))) else (some (x438000, x438001, x4))
def impl_simplified.f (k : Nat) (a0_0 : Int) (l0_1 : List (List Int)) : Option (Int × (List (List Int)) × (List (S44))) := (impl_copyLists.f k l0_1).bind fun t439 => (impl_simplified.l0 k ([] : List (S44)) a0_0 t439)
/-- A move whose word is nil: all of it lies in its own four cells. -/
def kmv : Kd S44 where
  sz := 4
  E := []
  K := fun _ x cs => x.f3 = [] ∧ cs = [.int .i64 x.f0, .int .i64 x.f1, .int .i64 x.f2, .slice none 0 0]
  M := fun _ _ _ x cs => x.f3 = [] ∧ cs = [.int .i64 x.f0, .int .i64 x.f1, .int .i64 x.f2, .slice none 0 0]
  K_len := fun h => by rw [h.2]; rfl
  K_one := fun h u hu => by
    rw [h.2] at hu
    simp only [List.mem_cons, List.mem_nil_iff, or_false] at hu
    rcases hu with rfl | rfl | rfl | rfl <;> rfl
  K_below := fun _ h => h
  K_of_M := fun h => h
  M_mono := fun _ h => h
  M_bound := fun h => h
  M_move := fun _ h => h
  M_lower := fun _ h => h
theorem kmv_K {w : World} {x : S44} {cs : List Value} (h : kmv.K w x cs) : k44.K w x cs := by
  obtain ⟨h3, rfl⟩ := h
  have e := k44_mk w x (A3 := none) (c3 := 0) (by rw [h3]; exact Nat.le_refl _) (by rw [h3]; exact Kd.C_nil _ _)
  rw [h3] at e
  exact e
theorem kmv_C {w : World} {A : Option Addr} {n : Nat} {xs : List S44} (h : Kd.C kmv w A n xs) : Kd.C k44 w A n xs := by
  obtain ⟨h1, h2, h3⟩ := h
  refine ⟨h1, h2, fun h => ?_⟩
  obtain ⟨ad, e, h4⟩ := h3 h
  refine ⟨ad, e, fun j p hj => ?_⟩
  obtain ⟨cs, h5, h6, h7⟩ := h4 j p hj
  exact ⟨cs, h5, kmv_K h6, h7⟩
theorem kmv_N {e base : Nat} {ok : Nat → Prop} {w : World} {v : Value} {xs : List S44} (h : Kd.N kmv e w base ok v xs) : Kd.N k44 e w base ok v xs :=
  ⟨h.1, h.2.elim fun rows hr => ⟨rows, hr.1, hr.2.1, fun j x c hx hc W2 hW => kmv_K (hr.2.2 j x c hx hc W2 hW)⟩⟩
def ST (w : World) (b1 b2 : Nat) (g : Int) (u : Value) (rows : List (List Int)) (mv : Value) (moves : List S44) (W : World) : Prop :=
  W.heap[b1]? = some (.cells #[.int .i64 g, u] 28 (0, 0)) ∧ W.heap[b2]? = some (.cells #[.int .i64 0, .slice none 0 0] 28 (0, 0)) ∧ Kd.S (Kd.slice 2 (Kd.int .i64)) 39 W w.heap.size (fun _ => True) u rows ∧ Kd.S kmv 44 W w.heap.size (fun _ => True) mv moves ∧ Below w.heap.size w W
section
variable {w W W1 : World} {b1 b2 : Nat} {g : Int} {u mv : Value} {rows : List (List Int)} {moves : List S44}
theorem ST.p (h : ST w b1 b2 g u rows mv moves W) : W.heap[b1]? = some (.cells #[.int .i64 g, u] 28 (0, 0)) := h.1
theorem ST.z (h : ST w b1 b2 g u rows mv moves W) : W.heap[b2]? = some (.cells #[.int .i64 0, .slice none 0 0] 28 (0, 0)) := h.2.1
theorem ST.s (h : ST w b1 b2 g u rows mv moves W) : Kd.S (Kd.slice 2 (Kd.int .i64)) 39 W w.heap.size (fun _ => True) u rows := h.2.2.1
theorem ST.v (h : ST w b1 b2 g u rows mv moves W) : Kd.S kmv 44 W w.heap.size (fun _ => True) mv moves := h.2.2.2.1
theorem ST.b (h : ST w b1 b2 g u rows mv moves W) : Below w.heap.size w W := h.2.2.2.2
theorem ST.below (h : ST w b1 b2 g u rows mv moves W) (hb : Below W.heap.size W W1) : ST w b1 b2 g u rows mv moves W1 := ⟨blk_below h.p hb, blk_below h.z hb, Kd.S_below h.s hb, Kd.S_below h.v hb, below_step h.b hb⟩
/-- The moves have grown by one, and the presentation is another one. -/
theorem ST.next {g2 : Int} {u2 mv2 : Value} {rows2 : List (List Int)} {x : S44} (hd : b1 ≠ b2 ∧ w.heap.size ≤ b1 ∧ w.heap.size ≤ b2) (h : ST w b1 b2 g u rows mv moves W) (hs : Kd.S (Kd.slice 2 (Kd.int .i64)) 39 W w.heap.size (fun _ => True) u2 rows2)
    (ho : Kd.S kmv 44 W1 w.heap.size (fun _ => True) mv2 (moves ++ [x])) (hb : Below w.heap.size w W1) (hg : W.grownBy W1 mv.ownBlock) : ST w b1 b2 g2 u2 rows2 mv2 (moves ++ [x]) ((W1.setCell ⟨b1, 0, none⟩ (.int .i64 g2)).setCell ⟨b1, 1, none⟩ u2) := by
  have k1 := blk_grown h.p hg (Kd.S_ne h.v h.p (by decide))
  have k2 := blk_grown h.z hg (Kd.S_ne h.v h.z (by decide))
  have k3 := Kd.S_over' hs (Kd.S_typed h.v) (by decide) hg
  exact ⟨box_put2 k1, box_far2 k2 hd.1.symm, S_put2 k3 k1, Kd.S_set (Kd.S_set ho k1 (by decide) 0 _) (blk_put k1 0 _ rfl) (by decide) 1 _, below_put2 hb hd.2.1⟩
/-- The answer is put into its place. -/
theorem ST.answer (hd : b1 ≠ b2 ∧ w.heap.size ≤ b1 ∧ w.heap.size ≤ b2) (h : ST w b1 b2 g u rows mv moves W) {x0 x1 : Value} :
    ((W.setCell ⟨b2, 0, none⟩ x0).setCell ⟨b2, 1, none⟩ x1).heap[b2]? = some (.cells #[x0, x1] 28 (0, 0)) ∧ Kd.S (Kd.slice 2 (Kd.int .i64)) 39 ((W.setCell ⟨b2, 0, none⟩ x0).setCell ⟨b2, 1, none⟩ x1) w.heap.size (fun _ => True) u rows ∧ Kd.S kmv 44 ((W.setCell ⟨b2, 0, none⟩ x0).setCell ⟨b2, 1, none⟩ x1) w.heap.size (fun _ => True) mv moves ∧ Below w.heap.size w ((W.setCell ⟨b2, 0, none⟩ x0).setCell ⟨b2, 1, none⟩ x1) :=
  ⟨box_put2 h.z, S_put2 h.s h.z, Kd.S_set (Kd.S_set h.v h.z (by decide) 0 _) (blk_put h.z 0 _ rfl) (by decide) 1 _, below_put2 h.b hd.2.2⟩
end
theorem impl_simplified.succ_ (K : Nat) (M : List S44) (g : Int) (l : List (List Int)) : impl_simplified.l0 (K + 1) M g l = if (M.length : Int) < 200 then ((impl_simplifying.f K g l).bind fun bt362 => (if bt362.2.2.2.2.2.2 = true then (if M.length < 2932031007402 then (impl_simplified.l0 K (M ++ [(⟨bt362.1, bt362.2.1, bt362.2.2.1, bt362.2.2.2.1⟩ : S44)]) bt362.2.2.2.2.1 bt362.2.2.2.2.2.1) else (none)) else (some (g, l, M)))) else (some (g, l, M)) := rfl
theorem impl_simplified.run (k : Nat) (a0_0 : Int) (A0_1 : Option Addr) (c0_1 : Nat) (l0_1 : List (List Int)) (r1 : Int) (r2 : List (List Int)) (r3 : List S44) (w : World) (hr0_1 : Kd.C (Kd.slice 2 (Kd.int .i64)) w A0_1 l0_1.length l0_1) (hc0_1 : l0_1.length ≤ c0_1) (h : impl_simplified.f k a0_0 l0_1 = some (r1, r2, r3)) :
    Calls Try.prog 70 #[.agg #[.int .i64 a0_0, .slice A0_1 l0_1.length c0_1]] w fun e w' => ∃ v1_ v2_ : Value, e = .returned (.tuple #[.agg #[.int .i64 r1, v1_], v2_]) ∧ Kd.S (Kd.slice 2 (Kd.int .i64)) 39 w' w.heap.size (fun _ => True) v1_ r2 ∧ Kd.S kmv 44 w' w.heap.size (fun _ => True) v2_ r3 ∧ Below w.heap.size w w' := by
  unfold impl_simplified.f at h
  obtain ⟨cp, hcp, h⟩ := Option.bind_eq_some_iff.mp h
  have HR0 := Aside0.mk hr0_1
  have HC0 := Aside0.mk hc0_1
  have HCP := Aside0.mk fun (W : World) (hW : Below w.heap.size w W) => impl_copyLists.calls k A0_1 c0_1 l0_1 cp W (Kd.C_below HR0.out hW) HC0.out hcp
  have H' := Aside0.mk h
  clear hr0_1 hc0_1 hcp h
  go_enter Try.func70, Try.ntmps70
  go_wp2_with (first
    | (refine be_ 1 28 #[.int .i64 a0_0, .slice A0_1 l0_1.length c0_1] ?_; intro b1 hg w2 hbox hb; have B1 := Aside0.mk hbox; have G1 := Aside0.mk (show w.heap.size ≤ b1 by rw [hg]; exact Nat.le_refl _); have HB2 := Aside0.mk hb; clear hg hbox hb)
    | (refine be_ 2 28 #[.int .i64 0, .slice none 0 0] ?_; intro b2 hg w3 hbox hb; have B13 := Aside0.mk (blk_below B1.out hb); have B2 := Aside0.mk hbox; have HD := Aside0.mk (show b1 ≠ b2 ∧ w.heap.size ≤ b1 ∧ w.heap.size ≤ b2 from ⟨by rw [hg]; exact Nat.ne_of_lt (blk_lt B1.out), G1.out, by rw [hg]; exact HB2.out.size⟩); have HB3 := Aside0.mk (below_step HB2.out hb); clear hg hbox hb B1 HB2 G1; have q11 : w3.cell? ⟨b1, 1, none⟩ = some (.slice A0_1 l0_1.length c0_1) := (blk_cell B13.out 1).trans rfl)
    | (go_at_call 44; refine (HCP.out _ HB3.out).mono ?_; rintro e w4 ⟨u, rfl, ho, hb⟩; obtain ⟨Au, cu, eu⟩ := Kd.S_slice ho; subst eu; have HS4 := Aside0.mk (Kd.S_lower ho HB3.out.size); have B14 := Aside0.mk (blk_below B13.out hb); have B24 := Aside0.mk (blk_below B2.out hb); have HB4 := Aside0.mk (below_step HB3.out hb); clear ho hb q11 B13 B2 HB3 HCP; have q11 : w4.cell? ⟨b1, 1, none⟩ = some (.slice A0_1 l0_1.length c0_1) := (blk_cell B14.out 1).trans rfl; have qf11 := blk_frozen B14.out 1))
  have HT0 := Aside0.mk (show ST w b1 b2 a0_0 (.slice Au cp.length cu) cp (.slice none 0 0) [] (w4.setCell ⟨b1, 1, none⟩ (.slice Au cp.length cu)) from ⟨blk_put B14.out 1 _ rfl, blk_far B24.out HD.out.1.symm _, Kd.S_set HS4.out B14.out (by decide) 1 _, Kd.S_nil _ _ _ _ _, below_set HB4.out HD.out.2.1⟩)
  clear q11 qf11 B14 B24 HS4 HB4
  generalize (w4.setCell ⟨b1, 1, none⟩ (.slice Au cp.length cu)) = w5 at HT0 ⊢
  go_loopg [4] k (fun kq v4 w' => ∃ (g : Int) (u : Value) (rows : List (List Int)) (moves : List S44), Aside0 (impl_simplified.l0 kq moves g rows = some (r1, r2, r3)) ∧ Aside0 (kq ≤ k) ∧ Aside0 (ST w b1 b2 g u rows v4 moves w'))
  case atStart => exact ⟨a0_0, _, cp, [], H', ⟨Nat.le_refl _⟩, HT0⟩
  case round =>
    clear H' HT0
    obtain ⟨g, u, rows, moves, HA, HK1, HT⟩ := hrel
    cases gk with
    | zero => exact nomatch (show (none : Option (Int × List (List Int) × List S44)) = some (r1, r2, r3) from HA.out)
    | succ k1 =>
      have H := HA.out
      clear HA
      rw [impl_simplified.succ_] at H
      obtain ⟨Am, cm, em⟩ := Kd.S_slice HT.out.v
      subst em
      obtain ⟨Au, cu, eu⟩ := Kd.S_slice HT.out.s
      subst eu
      have q10 : wr.cell? ⟨b1, 0, none⟩ = some (.int .i64 g) := (blk_cell HT.out.p 0).trans rfl
      have q11 : wr.cell? ⟨b1, 1, none⟩ = some (.slice Au rows.length cu) := (blk_cell HT.out.p 1).trans rfl
      by_cases c10 : (moves.length : Int) < 200
      · rw [if_pos c10] at H
        have LM := Aside0.mk c10
        have c10b0 : decide ((moves.length : Int) < 200) = true := decide_eq_true c10
        have c10b1 : decide (moves.length < 200) = true := decide_eq_true (by omega)
        clear c10
        obtain ⟨⟨m0, m1, m2, m3, g2, rows2, okb⟩, hsi, H⟩ := Option.bind_eq_some_iff.mp H
        simp only at H
        have HSI := Aside0.mk fun (W : World) (hC : Kd.C (Kd.slice 2 (Kd.int .i64)) W Au rows.length rows) (hc : rows.length ≤ cu) => impl_simplifying.run k1 g Au cu rows m0 m1 m2 m3 g2 rows2 okb W hC hc hsi
        clear hsi
        by_cases c12 : okb = true
        · subst c12
          rw [if_pos rfl, if_pos (by have := LM.out; omega)] at H
          have H' := Aside0.mk H
          clear H
          go_wp2_with (first
            | (go_at_call 105; refine (HSI.out _ (Kd.S_reads' HT.out.s).2.2 (Kd.S_reads' HT.out.s).2.1).mono ?_; rintro e w6 ⟨A5, n5, c5, rfl, hm3, ho, hb⟩; have HM3 := Aside0.mk hm3; have HS6 := Aside0.mk ho; have HT6 := Aside0.mk (HT.out.below hb); have HBW := Aside0.mk HT.out.b.size; clear hb ho hm3 HSI q10 q11 HT)
            | (refine be_ 5 44 #[.int .i64 0, .int .i64 0, .int .i64 0, .slice none 0 0] ?_; intro b5 hg w7 hbox hb; have G5 := Aside0.mk (show w6.heap.size ≤ b5 by rw [hg]; exact Nat.le_refl _); have B5 := Aside0.mk hbox; have HB7 := Aside0.mk hb; clear hg hbox hb; have z0 : w7.cell? ⟨b5, 0, none⟩ = some (.int .i64 0) := (blk_cell B5.out 0).trans rfl; have z1 : w7.cell? ⟨b5, 1, none⟩ = some (.int .i64 0) := (blk_cell B5.out 1).trans rfl; have z2 : w7.cell? ⟨b5, 2, none⟩ = some (.int .i64 0) := (blk_cell B5.out 2).trans rfl; have z3 : w7.cell? ⟨b5, 3, none⟩ = some (.slice none 0 0) := (blk_cell B5.out 3).trans rfl)
            | (refine be_ 6 28 #[.int .i64 0, .slice none 0 0] ?_; intro b6 hg w8 hbox hb; have G6 := Aside0.mk (show w6.heap.size ≤ b6 ∧ b5 ≠ b6 from ⟨by rw [hg]; exact HB7.out.size, by rw [hg]; exact Nat.ne_of_lt (blk_lt B5.out)⟩); have hn56 := G6.out.2; have hn65 := G6.out.2.symm; have B58 := Aside0.mk (blk_below B5.out hb); have B6 := Aside0.mk hbox; have HB8 := Aside0.mk (below_step HB7.out hb); clear hg hbox hb z0 z1 z2 z3 B5 HB7; have z0 : w8.cell? ⟨b5, 0, none⟩ = some (.int .i64 0) := (blk_cell B58.out 0).trans rfl; have zf0 := blk_frozen B58.out 0; have z1 : w8.cell? ⟨b5, 1, none⟩ = some (.int .i64 0) := (blk_cell B58.out 1).trans rfl; have zf1 := blk_frozen B58.out 1; have z2 : w8.cell? ⟨b5, 2, none⟩ = some (.int .i64 0) := (blk_cell B58.out 2).trans rfl; have zf2 := blk_frozen B58.out 2; have z3 : w8.cell? ⟨b5, 3, none⟩ = some (.slice none 0 0) := (blk_cell B58.out 3).trans rfl; have zf3 := blk_frozen B58.out 3; have y0 : w8.cell? ⟨b6, 0, none⟩ = some (.int .i64 0) := (blk_cell B6.out 0).trans rfl; have yf0 := blk_frozen B6.out 0; have y1 : w8.cell? ⟨b6, 1, none⟩ = some (.slice none 0 0) := (blk_cell B6.out 1).trans rfl; have yf1 := blk_frozen B6.out 1))
          clear z0 z1 z2 z3 zf0 zf1 zf2 zf3 y0 y1 yf0 yf1
          have HBC := Aside0.mk (show Below w6.heap.size w6 ((((((w8.setCell ⟨b5, 0, none⟩ (.int .i64 m0)).setCell ⟨b5, 1, none⟩ (.int .i64 m1)).setCell ⟨b5, 2, none⟩ (.int .i64 m2)).setCell ⟨b5, 3, none⟩ (.slice none 0 0)).setCell ⟨b6, 0, none⟩ (.int .i64 g2)).setCell ⟨b6, 1, none⟩ (.slice A5 n5 c5)) from below_put2 (below_put4 HB8.out G5.out) G6.out.1)
          have B59 := Aside0.mk (show ((((((w8.setCell ⟨b5, 0, none⟩ (.int .i64 m0)).setCell ⟨b5, 1, none⟩ (.int .i64 m1)).setCell ⟨b5, 2, none⟩ (.int .i64 m2)).setCell ⟨b5, 3, none⟩ (.slice none 0 0)).setCell ⟨b6, 0, none⟩ (.int .i64 g2)).setCell ⟨b6, 1, none⟩ (.slice A5 n5 c5)).heap[b5]? = some (.cells #[.int .i64 m0, .int .i64 m1, .int .i64 m2, .slice none 0 0] 44 (0, 0)) from box_far2 (box_put4 B58.out) G6.out.2)
          have B69 := Aside0.mk (show ((((((w8.setCell ⟨b5, 0, none⟩ (.int .i64 m0)).setCell ⟨b5, 1, none⟩ (.int .i64 m1)).setCell ⟨b5, 2, none⟩ (.int .i64 m2)).setCell ⟨b5, 3, none⟩ (.slice none 0 0)).setCell ⟨b6, 0, none⟩ (.int .i64 g2)).setCell ⟨b6, 1, none⟩ (.slice A5 n5 c5)).heap[b6]? = some (.cells #[.int .i64 g2, .slice A5 n5 c5] 28 (0, 0)) from box_put2 (box_far4 B6.out G6.out.2.symm))
          clear B58 B6 HB8
          generalize ((((((w8.setCell ⟨b5, 0, none⟩ (.int .i64 m0)).setCell ⟨b5, 1, none⟩ (.int .i64 m1)).setCell ⟨b5, 2, none⟩ (.int .i64 m2)).setCell ⟨b5, 3, none⟩ (.slice none 0 0)).setCell ⟨b6, 0, none⟩ (.int .i64 g2)).setCell ⟨b6, 1, none⟩ (.slice A5 n5 c5)) = w9 at HBC B59 B69 ⊢
          have hb1 := below_drew1 (Below.refl w9.heap.size w9)
          have HBD := Aside0.mk (below_step HBC.out hb1)
          have HT10 := Aside0.mk (HT6.out.below HBD.out)
          have HS10 := Aside0.mk (Kd.S_below (Kd.S_lower (by first | exact HS6.out rfl | exact HS6.out trivial | exact HS6.out) HBW.out) HBD.out)
          have B510 := Aside0.mk (blk_below B59.out hb1)
          have B610 := Aside0.mk (blk_below B69.out hb1)
          have N15 := Aside0.mk (show b5 ≠ b1 ∧ b6 ≠ b1 from by have h1 := blk_lt HT6.out.p; have h3 := G5.out; have h4 := G6.out.1; exact ⟨by omega, by omega⟩)
          have N5 := Aside0.mk (show some b5 ≠ (Value.slice Am moves.length cm).ownBlock from fun he => by obtain ⟨c, hc⟩ := Kd.S_typed HT6.out.v b5 he.symm; have := blk_lt hc; have := G5.out; omega)
          refine start_ (n := 7) (S := fun w' => w'.cell? ⟨b6, 0, none⟩ = some (.int .i64 g2) ∧ w'.cell? ⟨b6, 1, none⟩ = some (.slice A5 n5 c5) ∧ w'.cell? ⟨b5, 0, none⟩ = some (.int .i64 m0) ∧ w'.cell? ⟨b5, 1, none⟩ = some (.int .i64 m1) ∧ w'.cell? ⟨b5, 2, none⟩ = some (.int .i64 m2) ∧ w'.cell? ⟨b5, 3, none⟩ = some (.slice none 0 0)) (ds := []) (kA_ 7 0) (by kernel_rfl) rfl (by kernel_rfl) ⟨(blk_cell B610.out 0).trans rfl, (blk_cell B610.out 1).trans rfl, (blk_cell B510.out 0).trans rfl, (blk_cell B510.out 1).trans rfl, (blk_cell B510.out 2).trans rfl, (blk_cell B510.out 3).trans rfl⟩ (fun hHeld => ?_)
          clear HT6 HS6 HBC HBD B59 B69 hb1 HBW
          generalize w9.drew = w10 at HT10 HS10 B510 B610 hHeld ⊢
          refine kt_ 0 23 (kA_ 7 1) hHeld ?_
          refine kz_ 1 24 (kA_ 7 3) ?_
          refine kt_ 2 25 (kA_ 7 7) hHeld ?_
          refine oa_ 3 26 (kA_ 7 15) (fun K hK => ?_)
          refine value_ (w1 := ?_) (v := ?_) (by rfl) rfl ?_ ?_
          rotate_left 2
          · go_simp
            constructor
            · rfl
            · rfl
          refine hK.out _ _ ⟨(blk_cell (blk_alloc B610.out _) 0).trans rfl, (blk_cell (blk_alloc B610.out _) 1).trans rfl, (blk_cell (blk_alloc B510.out _) 0).trans rfl, (blk_cell (blk_alloc B510.out _) 1).trans rfl, (blk_cell (blk_alloc B510.out _) 2).trans rfl, (blk_cell (blk_alloc B510.out _) 3).trans rfl⟩ (fun hHeld2 => ?_)
          clear hK K hHeld
          refine nm_ 26 ?_
          refine oa_ 4 27 (kA_ 7 31) (fun K hK => ?_)
          refine Kd.S_append_step kmv (w0 := w) w.heap.size (by rfl) (.tmp 24) (.tmp 26) 49 44 (.agg #[.int .i64 0, .int .i64 0, .int .i64 0, .slice none 0 0]) 48 rfl Try.underlying49 info44 rfl (by decide) (by omega) (.slice Am moves.length cm) moves (⟨m0, m1, m2, []⟩ : S44) [.int .i64 m0, .int .i64 m1, .int .i64 m2, .slice none 0 0] (fun _ => True) (fun _ => False) rfl rfl ?aP (fun _ h_ => h_.elim) (fun _ _ => trivial) ?aO ?aB ?aS ?aL ?_
          case aP => exact ⟨rfl, rfl⟩
          case aO => exact Kd.S_mono HT10.out.v (fun _ _ => ⟨trivial, fun h_ => h_⟩)
          case aB => exact HT10.out.b
          case aS => exact HT10.out.b.size
          case aL => have := LM.out; omega
          intro mv2 w11 ho hb hg hat
          have HT11 := Aside0.mk (ST.next (g2 := g2) HD.out HT10.out HS10.out ho hb hg)
          have B511 := Aside0.mk (blk_grown B510.out hg N5.out)
          have B611 := Aside0.mk (blk_grown B610.out hg (Kd.S_ne HT10.out.v B610.out (by decide)))
          have k1 := Aside0.mk (blk_grown HT10.out.p hg (Kd.S_ne HT10.out.v HT10.out.p (by decide)))
          have N1 := Aside0.mk hg
          clear ho hb hg hat HS10 hHeld2 N1 B510 B610
          refine hK.out _ _ ⟨(blk_cell B611.out 0).trans rfl, (blk_cell B611.out 1).trans rfl, (blk_cell B511.out 0).trans rfl, (blk_cell B511.out 1).trans rfl, (blk_cell B511.out 2).trans rfl, (blk_cell B511.out 3).trans rfl⟩ (fun hHeld => ?_)
          clear hK K
          refine nm_ 27 ?_
          refine one_ (i := 5) (N := none) (kA_ 7 63) rfl rfl (by kernel_rfl) (by decide) (fun K hK => ?_)
          have y0 : w11.cell? ⟨b1, 0, none⟩ = some (.int .i64 g) := (blk_cell k1.out 0).trans rfl
          have y1 : w11.cell? ⟨b1, 1, none⟩ = some (.slice Au rows.length cu) := (blk_cell k1.out 1).trans rfl
          have yf0 := blk_frozen k1.out 0
          have yf1 := blk_frozen k1.out 1
          refine skip_ (w1 := ?_) (by rfl) rfl ?_ ?_
          rotate_left
          · go_simp
            rfl
          have B512 := Aside0.mk (show ((w11.setCell ⟨b1, 0, none⟩ (.int .i64 g2)).setCell ⟨b1, 1, none⟩ (.slice A5 n5 c5)).heap[b5]? = _ from box_far2 B511.out N15.out.1)
          have B612 := Aside0.mk (show ((w11.setCell ⟨b1, 0, none⟩ (.int .i64 g2)).setCell ⟨b1, 1, none⟩ (.slice A5 n5 c5)).heap[b6]? = _ from box_far2 B611.out N15.out.2)
          refine hK.out _ _ ⟨(blk_cell B612.out 0).trans rfl, (blk_cell B612.out 1).trans rfl, (blk_cell B512.out 0).trans rfl, (blk_cell B512.out 1).trans rfl, (blk_cell B512.out 2).trans rfl, (blk_cell B512.out 3).trans rfl⟩ (fun hHeld => ?_)
          clear hK K y0 y1 yf0 yf1 k1 B511 B611 HT10
          generalize ((w11.setCell ⟨b1, 0, none⟩ (.int .i64 g2)).setCell ⟨b1, 1, none⟩ (.slice A5 n5 c5)) = w12 at HT11 B512 B612 hHeld ⊢
          refine kz_ 6 4 (kA_ 7 127) ?_
          refine done_ (by kernel_rfl) ?_
          try go_wp2
          go_roundg k1
          case measure => have := HK1.out; omega
          case rel => exact ⟨g2, .slice A5 n5 c5, rows2, moves ++ [⟨m0, m1, m2, m3⟩], H', ⟨by have := HK1.out; omega⟩, by rw [HM3.out]; exact HT11⟩
        · rw [if_neg c12] at H
          obtain rfl := Bool.eq_false_iff.mpr c12
          clear c12
          simp only [Option.some.injEq, Prod.mk.injEq] at H
          obtain ⟨rfl, rfl, rfl⟩ := H
          go_wp2_with (first
            | (go_at_call 105; refine (HSI.out _ (Kd.S_reads' HT.out.s).2.2 (Kd.S_reads' HT.out.s).2.1).mono ?_; rintro e w6 ⟨A5, n5, c5, rfl, hm3, ho, hb⟩; have HM3 := Aside0.mk hm3; have HS6 := Aside0.mk ho; have HT6 := Aside0.mk (HT.out.below hb); have HBW := Aside0.mk HT.out.b.size; clear hb ho hm3 HSI q10 q11 HT)
            | (refine be_ 5 44 #[.int .i64 0, .int .i64 0, .int .i64 0, .slice none 0 0] ?_; intro b5 hg w7 hbox hb; have G5 := Aside0.mk (show w6.heap.size ≤ b5 by rw [hg]; exact Nat.le_refl _); have B5 := Aside0.mk hbox; have HB7 := Aside0.mk hb; clear hg hbox hb; have z0 : w7.cell? ⟨b5, 0, none⟩ = some (.int .i64 0) := (blk_cell B5.out 0).trans rfl; have z1 : w7.cell? ⟨b5, 1, none⟩ = some (.int .i64 0) := (blk_cell B5.out 1).trans rfl; have z2 : w7.cell? ⟨b5, 2, none⟩ = some (.int .i64 0) := (blk_cell B5.out 2).trans rfl; have z3 : w7.cell? ⟨b5, 3, none⟩ = some (.slice none 0 0) := (blk_cell B5.out 3).trans rfl)
            | (refine be_ 6 28 #[.int .i64 0, .slice none 0 0] ?_; intro b6 hg w8 hbox hb; have G6 := Aside0.mk (show w6.heap.size ≤ b6 ∧ b5 ≠ b6 from ⟨by rw [hg]; exact HB7.out.size, by rw [hg]; exact Nat.ne_of_lt (blk_lt B5.out)⟩); have hn56 := G6.out.2; have hn65 := G6.out.2.symm; have B58 := Aside0.mk (blk_below B5.out hb); have B6 := Aside0.mk hbox; have HB8 := Aside0.mk (below_step HB7.out hb); clear hg hbox hb z0 z1 z2 z3 B5 HB7; have z0 : w8.cell? ⟨b5, 0, none⟩ = some (.int .i64 0) := (blk_cell B58.out 0).trans rfl; have zf0 := blk_frozen B58.out 0; have z1 : w8.cell? ⟨b5, 1, none⟩ = some (.int .i64 0) := (blk_cell B58.out 1).trans rfl; have zf1 := blk_frozen B58.out 1; have z2 : w8.cell? ⟨b5, 2, none⟩ = some (.int .i64 0) := (blk_cell B58.out 2).trans rfl; have zf2 := blk_frozen B58.out 2; have z3 : w8.cell? ⟨b5, 3, none⟩ = some (.slice none 0 0) := (blk_cell B58.out 3).trans rfl; have zf3 := blk_frozen B58.out 3; have y0 : w8.cell? ⟨b6, 0, none⟩ = some (.int .i64 0) := (blk_cell B6.out 0).trans rfl; have yf0 := blk_frozen B6.out 0; have y1 : w8.cell? ⟨b6, 1, none⟩ = some (.slice none 0 0) := (blk_cell B6.out 1).trans rfl; have yf1 := blk_frozen B6.out 1; have HBC := Aside0.mk (show Below w6.heap.size w6 ((((((w8.setCell ⟨b5, 0, none⟩ (.int .i64 m0)).setCell ⟨b5, 1, none⟩ (.int .i64 m1)).setCell ⟨b5, 2, none⟩ (.int .i64 m2)).setCell ⟨b5, 3, none⟩ (.slice none 0 0)).setCell ⟨b6, 0, none⟩ (.int .i64 g2)).setCell ⟨b6, 1, none⟩ (.slice A5 n5 c5)) from below_put2 (below_put4 HB8.out G5.out) G6.out.1); have HT9 := Aside0.mk (HT6.out.below HBC.out); have n1 := Aside0.mk (show b1 ≠ b5 ∧ b1 ≠ b6 ∧ b2 ≠ b5 ∧ b2 ≠ b6 from by have h1 := blk_lt HT6.out.p; have h2 := blk_lt HT6.out.z; have h3 := G5.out; have h4 := G6.out.1; exact ⟨by omega, by omega, by omega, by omega⟩); obtain ⟨n11, n12, n13, n14⟩ := n1.out; have n11s := n11.symm; have n12s := n12.symm; have n13s := n13.symm; have n14s := n14.symm; have B18 := Aside0.mk (HT6.out.below HB8.out); have x0 : w8.cell? ⟨b1, 0, none⟩ = some (.int .i64 g) := (blk_cell B18.out.p 0).trans rfl; have x1 : w8.cell? ⟨b1, 1, none⟩ = some (.slice Au rows.length cu) := (blk_cell B18.out.p 1).trans rfl; have x2 : w8.cell? ⟨b2, 0, none⟩ = some (.int .i64 0) := (blk_cell B18.out.z 0).trans rfl; have x3 : w8.cell? ⟨b2, 1, none⟩ = some (.slice none 0 0) := (blk_cell B18.out.z 1).trans rfl; have xf0 := blk_frozen B18.out.z 0; have xf1 := blk_frozen B18.out.z 1))
          obtain ⟨e1, e2, e3⟩ := HT9.out.answer HD.out (x0 := .int .i64 g) (x1 := .slice Au rows.length cu)
          refine bodyPost_ret (results_ct rfl _ _ b2 28 #[.int .i64 g, .slice Au rows.length cu] (0, 0) _ rfl e1 Try.underlying28 rfl (by kernel_rfl)) rfl ?_
          exact ⟨_, _, by first | rfl | trivial, e2, e3⟩
      · rw [if_neg c10] at H
        have c10b0 : decide ((moves.length : Int) < 200) = false := decide_eq_false c10
        have c10b1 : decide (moves.length < 200) = false := decide_eq_false (by omega)
        clear c10
        simp only [Option.some.injEq, Prod.mk.injEq] at H
        obtain ⟨rfl, rfl, rfl⟩ := H
        have hn12 := HD.out.1
        have hn21 := HD.out.1.symm
        have y0 : wr.cell? ⟨b2, 0, none⟩ = some (.int .i64 0) := (blk_cell HT.out.z 0).trans rfl
        have y1 : wr.cell? ⟨b2, 1, none⟩ = some (.slice none 0 0) := (blk_cell HT.out.z 1).trans rfl
        have yf0 := blk_frozen HT.out.z 0
        have yf1 := blk_frozen HT.out.z 1
        go_wp2
        obtain ⟨e1, e2, e3⟩ := HT.out.answer HD.out (x0 := .int .i64 g) (x1 := .slice Au rows.length cu)
        refine bodyPost_ret (results_ct rfl _ _ b2 28 #[.int .i64 g, .slice Au rows.length cu] (0, 0) _ rfl e1 Try.underlying28 rfl (by kernel_rfl)) rfl ?_
        exact ⟨_, _, by first | rfl | trivial, e2, e3⟩

/-! ### impl_SimplifyPresentation: function 29 -/
def impl_SimplifyPresentation.f (k : Nat) (a0_0 : Int) (l0_1 : List (List Int)) : Option (Int × (List (List Int)) × (List (S44)) × Int) := (impl_isPresentation.f k a0_0 l0_1).bind fun t460 => (if t460 = true then ((impl_simplified.f k a0_0 l0_1).bind fun bt461 => (some (bt461.1, bt461.2.1, bt461.2.2, 0))) else (some (0, ([] : List (List Int)), ([] : List (S44)), 1)))
theorem impl_SimplifyPresentation.run (k : Nat) (a0_0 : Int) (A0_1 : Option Addr) (c0_1 : Nat) (l0_1 : List (List Int)) (r1 : Int) (r2 : List (List Int)) (r3 : List S44) (r4 : Int) (w : World) (hr0_1 : Kd.C (Kd.slice 2 (Kd.int .i64)) w A0_1 l0_1.length l0_1) (hc0_1 : l0_1.length ≤ c0_1) (h : impl_SimplifyPresentation.f k a0_0 l0_1 = some (r1, r2, r3, r4)) :
    Calls Try.prog 29 #[.agg #[.int .i64 a0_0, .slice A0_1 l0_1.length c0_1]] w fun e w' => ∃ v1_ v2_ : Value, e = .returned (.tuple #[.agg #[.int .i64 r1, v1_], v2_, .int .i64 r4]) ∧ Kd.S (Kd.slice 2 (Kd.int .i64)) 39 w' w.heap.size (fun _ => True) v1_ r2 ∧ Kd.S kmv 44 w' w.heap.size (fun _ => True) v2_ r3 ∧ Below w.heap.size w w' := by
  unfold impl_SimplifyPresentation.f at h
  obtain ⟨t380, hpr, h⟩ := Option.bind_eq_some_iff.mp h
  have HR0 := Aside0.mk hr0_1
  have HC0 := Aside0.mk hc0_1
  have HPR := Aside0.mk fun (W : World) (hW : Below w.heap.size w W) => impl_isPresentation.calls k a0_0 A0_1 c0_1 l0_1 t380 W (Kd.C_below HR0.out hW) HC0.out hpr
  clear hr0_1 hc0_1 hpr
  by_cases c3 : t380 = true
  · subst c3
    rw [if_pos rfl] at h
    obtain ⟨⟨g, rows, moves⟩, hsi, h⟩ := Option.bind_eq_some_iff.mp h
    simp only [Option.some.injEq, Prod.mk.injEq] at h
    obtain ⟨rfl, rfl, rfl, rfl⟩ := h
    have HSI := Aside0.mk fun (W : World) (hW : Below w.heap.size w W) => impl_simplified.run k a0_0 A0_1 c0_1 l0_1 g rows moves W (Kd.C_below HR0.out hW) HC0.out hsi
    clear hsi
    go_enter Try.func29, Try.ntmps29
    go_wp2_with (first
      | (refine be_ 1 28 #[.int .i64 a0_0, .slice A0_1 l0_1.length c0_1] ?_; intro b1 hg w2 hbox hb; have B1 := Aside0.mk hbox; have HB2 := Aside0.mk hb; clear hg hbox hb)
      | (refine be_ 2 28 #[.int .i64 0, .slice none 0 0] ?_; intro b2 hg w3 hbox hb; have B13 := Aside0.mk (blk_below B1.out hb); have B2 := Aside0.mk hbox; have G2 := Aside0.mk (show w.heap.size ≤ b2 from by rw [hg]; exact HB2.out.size); have N12 := Aside0.mk (show b1 ≠ b2 from by rw [hg]; exact Nat.ne_of_lt (blk_lt B1.out)); have HB3 := Aside0.mk (below_step HB2.out hb); clear hg hbox hb B1 HB2; have q10 : w3.cell? ⟨b1, 0, none⟩ = some (.int .i64 a0_0) := (blk_cell B13.out 0).trans rfl; have q11 : w3.cell? ⟨b1, 1, none⟩ = some (.slice A0_1 l0_1.length c0_1) := (blk_cell B13.out 1).trans rfl)
      | (go_at_call 59; refine (HPR.out _ HB3.out).mono ?_; rintro e w4 ⟨rfl, hb⟩; have B14 := Aside0.mk (blk_below B13.out hb); have B24 := Aside0.mk (blk_below B2.out hb); have HB4 := Aside0.mk (below_step HB3.out hb); clear hb q10 q11 B13 B2 HB3 HPR; have q10 : w4.cell? ⟨b1, 0, none⟩ = some (.int .i64 a0_0) := (blk_cell B14.out 0).trans rfl; have q11 : w4.cell? ⟨b1, 1, none⟩ = some (.slice A0_1 l0_1.length c0_1) := (blk_cell B14.out 1).trans rfl; skip)
      | (go_at_call 70; refine (HSI.out _ HB4.out).mono ?_; rintro e w5 ⟨v1, v2, rfl, ho1, ho2, hb⟩; obtain ⟨Au, cu, eu⟩ := Kd.S_slice ho1; subst eu; obtain ⟨Am, cm, em⟩ := Kd.S_slice ho2; subst em; have HS5 := Aside0.mk (Kd.S_lower ho1 HB4.out.size); have HM5 := Aside0.mk (Kd.S_lower ho2 HB4.out.size); have B25 := Aside0.mk (blk_below B24.out hb); have HB5 := Aside0.mk (below_step HB4.out hb); clear ho1 ho2 hb q10 q11 B14 B24 HB4 HSI)
      | (refine be_ 5 28 #[.int .i64 0, .slice none 0 0] ?_; intro b5 hg w6 hbox hb; have G5 := Aside0.mk (show w.heap.size ≤ b5 from by rw [hg]; exact HB5.out.size); have N25 := Aside0.mk (show b2 ≠ b5 from by rw [hg]; exact Nat.ne_of_lt (blk_lt B25.out)); have hn25 := N25.out; have hn52 := N25.out.symm; have B26 := Aside0.mk (blk_below B25.out hb); have B56 := Aside0.mk hbox; have HS6 := Aside0.mk (Kd.S_below HS5.out hb); have HM6 := Aside0.mk (Kd.S_below HM5.out hb); have HB6 := Aside0.mk (below_step HB5.out hb); clear hg hbox hb B25 HS5 HM5 HB5; have z0 : w6.cell? ⟨b5, 0, none⟩ = some (.int .i64 0) := (blk_cell B56.out 0).trans rfl; have zf0 := blk_frozen B56.out 0; have z1 : w6.cell? ⟨b5, 1, none⟩ = some (.slice none 0 0) := (blk_cell B56.out 1).trans rfl; have zf1 := blk_frozen B56.out 1; have y0 : w6.cell? ⟨b2, 0, none⟩ = some (.int .i64 0) := (blk_cell B26.out 0).trans rfl; have yf0 := blk_frozen B26.out 0; have y1 : w6.cell? ⟨b2, 1, none⟩ = some (.slice none 0 0) := (blk_cell B26.out 1).trans rfl; have yf1 := blk_frozen B26.out 1))
    have e1 : ((((w6.setCell ⟨b5, 0, none⟩ (.int .i64 g)).setCell ⟨b5, 1, none⟩ (.slice Au rows.length cu)).setCell ⟨b2, 0, none⟩ (.int .i64 g)).setCell ⟨b2, 1, none⟩ (.slice Au rows.length cu)).heap[b2]? = some (.cells #[.int .i64 g, .slice Au rows.length cu] 28 (0, 0)) := box_put2 (box_far2 B26.out N25.out)
    have e2 : Kd.S (Kd.slice 2 (Kd.int .i64)) 39 ((((w6.setCell ⟨b5, 0, none⟩ (.int .i64 g)).setCell ⟨b5, 1, none⟩ (.slice Au rows.length cu)).setCell ⟨b2, 0, none⟩ (.int .i64 g)).setCell ⟨b2, 1, none⟩ (.slice Au rows.length cu)) w.heap.size (fun _ => True) (.slice Au rows.length cu) rows := S_put2 (S_put2 HS6.out B56.out) (box_far2 B26.out N25.out)
    have e3 : Kd.S kmv 44 ((((w6.setCell ⟨b5, 0, none⟩ (.int .i64 g)).setCell ⟨b5, 1, none⟩ (.slice Au rows.length cu)).setCell ⟨b2, 0, none⟩ (.int .i64 g)).setCell ⟨b2, 1, none⟩ (.slice Au rows.length cu)) w.heap.size (fun _ => True) (.slice Am moves.length cm) moves := Kd.S_set (Kd.S_set (Kd.S_set (Kd.S_set HM6.out B56.out (by decide) 0 _) (blk_put B56.out 0 _ rfl) (by decide) 1 _) (box_far2 B26.out N25.out) (by decide) 0 _) (blk_put (box_far2 B26.out N25.out) 0 _ rfl) (by decide) 1 _
    have e4 : Below w.heap.size w ((((w6.setCell ⟨b5, 0, none⟩ (.int .i64 g)).setCell ⟨b5, 1, none⟩ (.slice Au rows.length cu)).setCell ⟨b2, 0, none⟩ (.int .i64 g)).setCell ⟨b2, 1, none⟩ (.slice Au rows.length cu)) := below_put2 (below_put2 HB6.out G5.out) G2.out
    refine bodyPost_ret (results_list (rs := [.cell 2 28, .tmp 3, .tmp 4]) rfl (by simp) (.cell b2 28 #[.int .i64 g, .slice Au rows.length cu] (0, 0) _ rfl e1 Try.underlying28 rfl (by kernel_rfl) (.tmp (.tmp .nil)))) rfl ?_
    exact ⟨_, _, by first | rfl | trivial, e2, e3, e4⟩
  · rw [if_neg c3] at h
    obtain rfl := Bool.eq_false_iff.mpr c3
    clear c3
    simp only [Option.some.injEq, Prod.mk.injEq] at h
    obtain ⟨rfl, rfl, rfl, rfl⟩ := h
    go_enter Try.func29, Try.ntmps29
    go_wp2_with (first
      | (refine be_ 1 28 #[.int .i64 a0_0, .slice A0_1 l0_1.length c0_1] ?_; intro b1 hg w2 hbox hb; have B1 := Aside0.mk hbox; have HB2 := Aside0.mk hb; clear hg hbox hb)
      | (refine be_ 2 28 #[.int .i64 0, .slice none 0 0] ?_; intro b2 hg w3 hbox hb; have B13 := Aside0.mk (blk_below B1.out hb); have B2 := Aside0.mk hbox; have G2 := Aside0.mk (show w.heap.size ≤ b2 from by rw [hg]; exact HB2.out.size); have N12 := Aside0.mk (show b1 ≠ b2 from by rw [hg]; exact Nat.ne_of_lt (blk_lt B1.out)); have HB3 := Aside0.mk (below_step HB2.out hb); clear hg hbox hb B1 HB2; have q10 : w3.cell? ⟨b1, 0, none⟩ = some (.int .i64 a0_0) := (blk_cell B13.out 0).trans rfl; have q11 : w3.cell? ⟨b1, 1, none⟩ = some (.slice A0_1 l0_1.length c0_1) := (blk_cell B13.out 1).trans rfl)
      | (go_at_call 59; refine (HPR.out _ HB3.out).mono ?_; rintro e w4 ⟨rfl, hb⟩; have B14 := Aside0.mk (blk_below B13.out hb); have B24 := Aside0.mk (blk_below B2.out hb); have HB4 := Aside0.mk (below_step HB3.out hb); clear hb q10 q11 B13 B2 HB3 HPR; have q10 : w4.cell? ⟨b1, 0, none⟩ = some (.int .i64 a0_0) := (blk_cell B14.out 0).trans rfl; have q11 : w4.cell? ⟨b1, 1, none⟩ = some (.slice A0_1 l0_1.length c0_1) := (blk_cell B14.out 1).trans rfl; have y0 : w4.cell? ⟨b2, 0, none⟩ = some (.int .i64 0) := (blk_cell B24.out 0).trans rfl; have yf0 := blk_frozen B24.out 0; have y1 : w4.cell? ⟨b2, 1, none⟩ = some (.slice none 0 0) := (blk_cell B24.out 1).trans rfl; have yf1 := blk_frozen B24.out 1))
    have e1 : ((w4.setCell ⟨b2, 0, none⟩ (.int .i64 0)).setCell ⟨b2, 1, none⟩ (.slice none 0 0)).heap[b2]? = some (.cells #[.int .i64 0, .slice none 0 0] 28 (0, 0)) := box_put2 B24.out
    have e2 : Kd.S (Kd.slice 2 (Kd.int .i64)) 39 ((w4.setCell ⟨b2, 0, none⟩ (.int .i64 0)).setCell ⟨b2, 1, none⟩ (.slice none 0 0)) w.heap.size (fun _ => True) (.slice none 0 0) [] := Kd.S_nil _ _ _ _ _
    have e3 : Kd.S kmv 44 ((w4.setCell ⟨b2, 0, none⟩ (.int .i64 0)).setCell ⟨b2, 1, none⟩ (.slice none 0 0)) w.heap.size (fun _ => True) (.slice none 0 0) [] := Kd.S_nil _ _ _ _ _
    have e4 : Below w.heap.size w ((w4.setCell ⟨b2, 0, none⟩ (.int .i64 0)).setCell ⟨b2, 1, none⟩ (.slice none 0 0)) := below_put2 HB4.out G2.out
    refine bodyPost_ret (results_list (rs := [.cell 2 28, .tmp 3, .tmp 4]) rfl (by simp) (.cell b2 28 #[.int .i64 0, .slice none 0 0] (0, 0) _ rfl e1 Try.underlying28 rfl (by kernel_rfl) (.tmp (.tmp .nil)))) rfl ?_
    exact ⟨_, _, by first | rfl | trivial, e2, e3, e4⟩

theorem impl_SimplifyPresentation.calls (k : Nat) (a0_0 : Int) (A0_1 : Option Addr) (c0_1 : Nat) (l0_1 : List (List Int)) (r1 : Int) (r2 : List (List Int)) (r3 : List (S44)) (r4 : Int) (w : World) (hr0_1 : Kd.C (Kd.slice 2 (Kd.int .i64)) w A0_1 l0_1.length l0_1) (hc0_1 : l0_1.length ≤ c0_1) (h : impl_SimplifyPresentation.f k a0_0 l0_1 = some (r1, r2, r3, r4)) :
    Calls Try.prog 29 #[.agg #[.int .i64 a0_0, .slice A0_1 l0_1.length c0_1]] w fun e w' => ∃ v1_ v2_ : Value, e = .returned (.tuple #[.agg #[.int .i64 r1, v1_], v2_, .int .i64 r4]) ∧ Kd.V (Kd.slice 2 (Kd.int .i64)) 39 w' w.heap.size (fun k_ => (w.heap.size ≤ k_) ∧ some k_ ≠ (v2_ : Value).ownBlock) v1_ r2 ∧ Kd.N k44 44 w' w.heap.size (fun k_ => (w.heap.size ≤ k_)) v2_ r3 ∧ Below w.heap.size w w' := by
 refine (impl_SimplifyPresentation.run k a0_0 A0_1 c0_1 l0_1 r1 r2 r3 r4 w hr0_1 hc0_1 h).mono ?_
 rintro e w' ⟨v1_, v2_, rfl, h1, h2, hb⟩
 exact ⟨v1_, v2_, rfl, Kd.S_V (Kd.S_mono (Kd.S_bound (Kd.S_apart' h1 (Kd.S_typed h2) (by decide))) (fun k_ hk => ⟨hk.2.1, hk.1.2⟩)), kmv_N (Kd.S_N (Kd.S_mono (Kd.S_bound h2) (fun k_ hk => hk.2.1))), hb⟩

/-! ### laws_eqTietzeMove: function 26 -/
def laws_eqTietzeMove.f (k : Nat) (a0_0 : Int) (a0_1 : Int) (a0_2 : Int) (l0_3 : List Int) (a1_0 : Int) (a1_1 : Int) (a1_2 : Int) (l1_3 : List Int) : Option (Bool) := if a0_0 = a1_0 then (if a0_1 = a1_1 then (if a0_2 = a1_2 then ((laws_eqInt64S.f k l0_3 l1_3).bind fun t471 => (if t471 = true then (some true) else (some false))) else (some false)) else (some false)) else (some false)
theorem laws_eqTietzeMove.calls (k : Nat) (a0_0 : Int) (a0_1 : Int) (a0_2 : Int) (A0_3 : Option Addr) (c0_3 : Nat) (l0_3 : List Int) (a1_0 : Int) (a1_1 : Int) (a1_2 : Int) (A1_3 : Option Addr) (c1_3 : Nat) (l1_3 : List Int) (r : Bool) (w : World) (hr0_3 : Kd.C (Kd.int .i64) w A0_3 l0_3.length l0_3) (hc0_3 : l0_3.length ≤ c0_3) (hr1_3 : Kd.C (Kd.int .i64) w A1_3 l1_3.length l1_3) (hc1_3 : l1_3.length ≤ c1_3) (h : laws_eqTietzeMove.f k a0_0 a0_1 a0_2 l0_3 a1_0 a1_1 a1_2 l1_3 = some r) :
  Calls Try.prog 26 #[.agg #[.int .i64 a0_0, .int .i64 a0_1, .int .i64 a0_2, .slice A0_3 l0_3.length c0_3], .agg #[.int .i64 a1_0, .int .i64 a1_1, .int .i64 a1_2, .slice A1_3 l1_3.length c1_3]] w fun e w' => e = .returned (.bool r) ∧ Below w.heap.size w w' := by
 have hu44 := Try.underlying44
 have HR0_3 := am_ hr0_3
 have HC0_3 := am_ hc0_3
 clear hr0_3 hc0_3
 have HR1_3 := am_ hr1_3
 have HC1_3 := am_ hc1_3
 clear hr1_3 hc1_3
 have HB := am_ (Below.refl w.heap.size w)
 have H : (if a0_0 = a1_0 then (if a0_1 = a1_1 then (if a0_2 = a1_2 then ((laws_eqInt64S.f k l0_3 l1_3).bind fun t471 => (if t471 = true then (some true) else (some false))) else (some false)) else (some false)) else (some false)) = some r := h
 clear h
 by_cases c3 : a0_0 = a1_0
 ·rw [if_pos c3] at H
  have c3b0 : (a0_0 == a1_0) = true := beq_iff_eq.mpr c3
  have c3b1 : (a0_0 != a1_0) = false := bne_eq_false_iff_eq.mpr c3
  clear c3
  by_cases c4 : a0_1 = a1_1
  ·rw [if_pos c4] at H
   have c4b0 : (a0_1 == a1_1) = true := beq_iff_eq.mpr c4
   have c4b1 : (a0_1 != a1_1) = false := bne_eq_false_iff_eq.mpr c4
   clear c4
   by_cases c5 : a0_2 = a1_2
   ·rw [if_pos c5] at H
    have c5b0 : (a0_2 == a1_2) = true := beq_iff_eq.mpr c5
    have c5b1 : (a0_2 != a1_2) = false := bne_eq_false_iff_eq.mpr c5
    clear c5
    replace H := Option.bind_eq_some_iff.mp H
    obtain ⟨t471, A60, H⟩ := H
    replace H : (if t471 = true then (some true) else (some false)) = some r := H
    have A6 := am_ A60
    clear A60
    by_cases c7 : t471 = true
    ·subst c7
     have H1 : (some true) = some r := by rw [if_pos rfl] at H; exact H
     clear H
     have H := H1
     clear H1
     obtain rfl := Option.some.inj H
     go_enter Try.func26, Try.ntmps26
     go_wp2_with (first | (refine be_ 2 44 #[.int .i64 a0_0, .int .i64 a0_1, .int .i64 a0_2, .slice A0_3 l0_3.length c0_3] ?_; intro gb469 hg w8 hbox hb; have n_ := ba0_ HB hbox hb hg; clear  HB hb hbox hg; obtain ⟨HB, BK469, GW469, GE469⟩ := n_) | (refine be_ 3 44 #[.int .i64 a1_0, .int .i64 a1_1, .int .i64 a1_2, .slice A1_3 l1_3.length c1_3] ?_; intro gb470 hg w9 hbox hb; have n_ := ba1_ BK469 HB hbox hb hg; clear BK469 HB hb hbox hg; obtain ⟨BK469, HB, BK470, GW470, GE470, NB469_470, NB470_469⟩ := n_; have hnb10 := NB469_470.out; have hnc10 := NB470_469.out; obtain ⟨hcz11_0, hcz11_1, hcz11_2, hcz11_3, hfz11_0, hfz11_1, hfz11_2, hfz11_3⟩ := bx4_ BK469; obtain ⟨hcz12_0, hcz12_1, hcz12_2, hcz12_3, hfz12_0, hfz12_1, hfz12_2, hfz12_3⟩ := bx4_ BK470) | ((with_reducible refine gate_callee (f := 45) rfl ?_); refine goesL_ (some 24) rfl rfl Try.func45 (by kernel_rfl) rfl #[.slice A0_3 l0_3.length c0_3, .slice A1_3 l1_3.length c1_3] rfl lm_ ?_; (with_reducible refine (laws_eqInt64S.calls k _ _ l0_3 _ _ l1_3 true _ ?side1 ?side2 ?side3 ?side4 A6.out).mono ?_); (case side1 => exact cb_ HR0_3 HB); (case side2 => exact HC0_3.out); (case side3 => exact cb_ HR1_3 HB); (case side4 => exact HC1_3.out); rintro e w' ⟨rfl, ⟨nd, rfl⟩⟩; refine ⟨_, rfl, ?_⟩))
     go_ret
     exact ⟨er_, bb_ HB.out⟩
    ·replace c7 := Bool.eq_false_iff.mpr c7
     subst c7
     have H1 : (some false) = some r := by rw [if_neg (show ¬ (false = true) by decide)] at H; exact H
     clear H
     have H := H1
     clear H1
     obtain rfl := Option.some.inj H
     go_enter Try.func26, Try.ntmps26
     go_wp2_with (first | (refine be_ 2 44 #[.int .i64 a0_0, .int .i64 a0_1, .int .i64 a0_2, .slice A0_3 l0_3.length c0_3] ?_; intro gb469 hg w13 hbox hb; have n_ := ba0_ HB hbox hb hg; clear  HB hb hbox hg; obtain ⟨HB, BK469, GW469, GE469⟩ := n_) | (refine be_ 3 44 #[.int .i64 a1_0, .int .i64 a1_1, .int .i64 a1_2, .slice A1_3 l1_3.length c1_3] ?_; intro gb470 hg w14 hbox hb; have n_ := ba1_ BK469 HB hbox hb hg; clear BK469 HB hb hbox hg; obtain ⟨BK469, HB, BK470, GW470, GE470, NB469_470, NB470_469⟩ := n_; have hnb15 := NB469_470.out; have hnc15 := NB470_469.out; obtain ⟨hcz16_0, hcz16_1, hcz16_2, hcz16_3, hfz16_0, hfz16_1, hfz16_2, hfz16_3⟩ := bx4_ BK469; obtain ⟨hcz17_0, hcz17_1, hcz17_2, hcz17_3, hfz17_0, hfz17_1, hfz17_2, hfz17_3⟩ := bx4_ BK470) | ((with_reducible refine gate_callee (f := 45) rfl ?_); refine goesL_ (some 24) rfl rfl Try.func45 (by kernel_rfl) rfl #[.slice A0_3 l0_3.length c0_3, .slice A1_3 l1_3.length c1_3] rfl lm_ ?_; (with_reducible refine (laws_eqInt64S.calls k _ _ l0_3 _ _ l1_3 false _ ?side1 ?side2 ?side3 ?side4 A6.out).mono ?_); (case side1 => exact cb_ HR0_3 HB); (case side2 => exact HC0_3.out); (case side3 => exact cb_ HR1_3 HB); (case side4 => exact HC1_3.out); rintro e w' ⟨rfl, ⟨nd, rfl⟩⟩; refine ⟨_, rfl, ?_⟩))
     go_ret
     exact ⟨er_, bb_ HB.out⟩
   ·rw [if_neg c5] at H
    have c5b0 : (a0_2 == a1_2) = false := beq_eq_false_iff_ne.mpr c5
    have c5b1 : (a0_2 != a1_2) = true := bne_iff_ne.mpr c5
    obtain rfl := Option.some.inj H
    go_enter Try.func26, Try.ntmps26
    go_wp2_with (first | (refine be_ 2 44 #[.int .i64 a0_0, .int .i64 a0_1, .int .i64 a0_2, .slice A0_3 l0_3.length c0_3] ?_; intro gb469 hg w18 hbox hb; have n_ := ba0_ HB hbox hb hg; clear  HB hb hbox hg; obtain ⟨HB, BK469, GW469, GE469⟩ := n_) | (refine be_ 3 44 #[.int .i64 a1_0, .int .i64 a1_1, .int .i64 a1_2, .slice A1_3 l1_3.length c1_3] ?_; intro gb470 hg w19 hbox hb; have n_ := ba1_ BK469 HB hbox hb hg; clear BK469 HB hb hbox hg; obtain ⟨BK469, HB, BK470, GW470, GE470, NB469_470, NB470_469⟩ := n_; have hnb20 := NB469_470.out; have hnc20 := NB470_469.out; obtain ⟨hcz21_0, hcz21_1, hcz21_2, hcz21_3, hfz21_0, hfz21_1, hfz21_2, hfz21_3⟩ := bx4_ BK469; obtain ⟨hcz22_0, hcz22_1, hcz22_2, hcz22_3, hfz22_0, hfz22_1, hfz22_2, hfz22_3⟩ := bx4_ BK470))
    go_ret
    exact ⟨er_, bb_ HB.out⟩
  ·rw [if_neg c4] at H
   have c4b0 : (a0_1 == a1_1) = false := beq_eq_false_iff_ne.mpr c4
   have c4b1 : (a0_1 != a1_1) = true := bne_iff_ne.mpr c4
   obtain rfl := Option.some.inj H
   go_enter Try.func26, Try.ntmps26
   go_wp2_with (first | (refine be_ 2 44 #[.int .i64 a0_0, .int .i64 a0_1, .int .i64 a0_2, .slice A0_3 l0_3.length c0_3] ?_; intro gb469 hg w23 hbox hb; have n_ := ba0_ HB hbox hb hg; clear  HB hb hbox hg; obtain ⟨HB, BK469, GW469, GE469⟩ := n_) | (refine be_ 3 44 #[.int .i64 a1_0, .int .i64 a1_1, .int .i64 a1_2, .slice A1_3 l1_3.length c1_3] ?_; intro gb470 hg w24 hbox hb; have n_ := ba1_ BK469 HB hbox hb hg; clear BK469 HB hb hbox hg; obtain ⟨BK469, HB, BK470, GW470, GE470, NB469_470, NB470_469⟩ := n_; have hnb25 := NB469_470.out; have hnc25 := NB470_469.out; obtain ⟨hcz26_0, hcz26_1, hcz26_2, hcz26_3, hfz26_0, hfz26_1, hfz26_2, hfz26_3⟩ := bx4_ BK469; obtain ⟨hcz27_0, hcz27_1, hcz27_2, hcz27_3, hfz27_0, hfz27_1, hfz27_2, hfz27_3⟩ := bx4_ BK470))
   go_ret
   exact ⟨er_, bb_ HB.out⟩
 ·rw [if_neg c3] at H
  have c3b0 : (a0_0 == a1_0) = false := beq_eq_false_iff_ne.mpr c3
  have c3b1 : (a0_0 != a1_0) = true := bne_iff_ne.mpr c3
  obtain rfl := Option.some.inj H
  go_enter Try.func26, Try.ntmps26
  go_wp2_with (first | (refine be_ 2 44 #[.int .i64 a0_0, .int .i64 a0_1, .int .i64 a0_2, .slice A0_3 l0_3.length c0_3] ?_; intro gb469 hg w28 hbox hb; have n_ := ba0_ HB hbox hb hg; clear  HB hb hbox hg; obtain ⟨HB, BK469, GW469, GE469⟩ := n_) | (refine be_ 3 44 #[.int .i64 a1_0, .int .i64 a1_1, .int .i64 a1_2, .slice A1_3 l1_3.length c1_3] ?_; intro gb470 hg w29 hbox hb; have n_ := ba1_ BK469 HB hbox hb hg; clear BK469 HB hb hbox hg; obtain ⟨BK469, HB, BK470, GW470, GE470, NB469_470, NB470_469⟩ := n_; have hnb30 := NB469_470.out; have hnc30 := NB470_469.out; obtain ⟨hcz31_0, hcz31_1, hcz31_2, hcz31_3, hfz31_0, hfz31_1, hfz31_2, hfz31_3⟩ := bx4_ BK469; obtain ⟨hcz32_0, hcz32_1, hcz32_2, hcz32_3, hfz32_0, hfz32_1, hfz32_2, hfz32_3⟩ := bx4_ BK470))
  go_ret
  exact ⟨er_, bb_ HB.out⟩

/-! ### laws_eqTietzeMoveS: function 30 -/
def laws_eqTietzeMoveS.l0 : Nat → List (S44) → List (S44) → Int → Option (Bool)
 | 0, _, _, _ => none
 | k + 1, x0, x1, x5 => if x5 < (x0.length : Int) then (if 0 ≤ x5 then (if x5 < (x1.length : Int) then ((laws_eqTietzeMove.f k ((rd_T44 x0 x5).f0) ((rd_T44 x0 x5).f1) ((rd_T44 x0 x5).f2) ((rd_T44 x0 x5).f3) ((rd_T44 x1 x5).f0) ((rd_T44 x1 x5).f1) ((rd_T44 x1 x5).f2) ((rd_T44 x1 x5).f3)).bind fun t474 => (if t474 = true then (laws_eqTietzeMoveS.l0 k x0 x1 (wrap64 (x5 + 1))) else (some false))) else (none)) else (none)) else (some true)
def laws_eqTietzeMoveS.f (k : Nat) (l0 : List (S44)) (l1 : List (S44)) : Option (Bool) := if (l0.length : Int) = (l1.length : Int) then (laws_eqTietzeMoveS.l0 k l0 l1 0) else (some false)
def laws_eqTietzeMoveS.T6 : Bool × List (List Nat × List Nat) := (true, [([], []), ([], []), ([0, 1], [0, 1]), ([2], [2]), ([], []), ([], []), ([4, 5], [4, 5]), ([6], [6]), ([3, 7], [3, 7]), ([8], [8])])
def laws_eqTietzeMoveS.B6 : List Nat := [0, 0, 3, 7, 0, 0, 48, 112, 255, 511]
theorem laws_eqTietzeMoveS.tab6 : rtab .any (opsOf Try.f30 6) = laws_eqTietzeMoveS.T6 := by kernel_rfl
theorem laws_eqTietzeMoveS.bits6 : waitsOk laws_eqTietzeMoveS.T6.2 laws_eqTietzeMoveS.B6 = true := by kernel_rfl
theorem laws_eqTietzeMoveS.calls (k : Nat) (A0 : Option Addr) (c0 : Nat) (l0 : List (S44)) (A1 : Option Addr) (c1 : Nat) (l1 : List (S44)) (r : Bool) (w : World) (hr0 : Kd.C k44 w A0 l0.length l0) (hc0 : l0.length ≤ c0) (hr1 : Kd.C k44 w A1 l1.length l1) (hc1 : l1.length ≤ c1) (h : laws_eqTietzeMoveS.f k l0 l1 = some r) :
  Calls Try.prog 30 #[.slice A0 l0.length c0, .slice A1 l1.length c1] w fun e w' => e = .returned (.bool r) ∧ Below w.heap.size w w' := by
 have hu44 := Try.underlying44
 have HR0 := am_ hr0
 have HC0 := am_ hc0
 clear hr0 hc0
 have HR1 := am_ hr1
 have HC1 := am_ hc1
 clear hr1 hc1
 have HB := am_ (Below.refl w.heap.size w)
 have H : (if (l0.length : Int) = (l1.length : Int) then (laws_eqTietzeMoveS.l0 k l0 l1 0) else (some false)) = some r := h
 clear h
 by_cases c3 : (l0.length : Int) = (l1.length : Int)
 ·rw [if_pos c3] at H
  have c3b0 : ((l0.length : Int) == (l1.length : Int)) = true := beq_iff_eq.mpr c3
  have c3b1 : ((l0.length : Int) != (l1.length : Int)) = false := bne_eq_false_iff_eq.mpr c3
  have c3b2 : (l0.length == l1.length) = true := by first | simpa using c3 | (simp at c3 ⊢; omega)
  clear c3
  have H' := am_ H
  clear H
  go_enter Try.func30, Try.ntmps30
  go_wp2
  go_loopg [5] k (fun kq v5 w' => ∃ (x5_1 : Int), v5 = .int .i64 x5_1 ∧ Aside0 (laws_eqTietzeMoveS.l0 kq l0 l1 x5_1 = some r) ∧ Aside0 (kq ≤ k) ∧ Aside0 (Below w.heap.size w w'))
  case atStart => exact ⟨(0), (by first | rfl | (simp; done) | (simp [*]; done)), H', ⟨Nat.le_refl _⟩, ⟨bb_ HB.out⟩⟩
  case round =>
   clear H'
   try clear c1
   try clear p2
   try clear c3
   try clear c3b0
   try clear c3b1
   try clear c3b2
   obtain ⟨x5_1, rfl, HA, HK1, HB⟩ := hrel
   cases gk with
   | zero => exact absurd HA.out (by simp [laws_eqTietzeMoveS.l0])
   | succ k1 =>
    have H := HA.out
    clear HA
    simp only [laws_eqTietzeMoveS.l0] at H
    by_cases c4 : x5_1 < (l0.length : Int)
    ·rw [if_pos c4] at H
     have c4b0 : decide (x5_1 < (l0.length : Int)) = true := decide_eq_true c4
     clear c4
     by_cases c5 : 0 ≤ x5_1
     ·rw [if_pos c5] at H
      have c5b0 : decide (0 ≤ x5_1) = true := decide_eq_true c5
      clear c5
      by_cases c6 : x5_1 < (l1.length : Int)
      ·rw [if_pos c6] at H
       have c6b0 : decide (x5_1 < (l1.length : Int)) = true := decide_eq_true c6
       clear c6
       replace H := Option.bind_eq_some_iff.mp H
       obtain ⟨t474, A70, H⟩ := H
       replace H : (if t474 = true then (laws_eqTietzeMoveS.l0 k1 l0 l1 (wrap64 (x5_1 + 1))) else (some false)) = some r := H
       have A7 := am_ A70
       clear A70
       by_cases c8 : t474 = true
       ·subst c8
        have H1 : (laws_eqTietzeMoveS.l0 k1 l0 l1 (wrap64 (x5_1 + 1))) = some r := by rw [if_pos rfl] at H; exact H
        clear H
        have H := H1
        clear H1
        have H' := am_ H
        clear H
        try go_wp2
        have n0_ := am_ (below_drew1 HB.out)
        clear HB; revert n0_; intro HB
        have p472 : 0 ≤ (x5_1 : Int) := da_
        have q472 : x5_1 < (l0.length : Int) := da_
        obtain ⟨ad472, A472_3, c472_3, e472, hx472_0, hx472_1, hx472_2, hx472_3, hl472_3, hi472_3⟩ := at_T44 HR0.out x5_1 p472 q472
        have hw472_3 := hx472_3
        have hw472_2 := hx472_2
        have hw472_1 := hx472_1
        have hw472_0 := hx472_0
        cases e472
        replace hx472_0 := ce_ HB hx472_0
        replace hx472_1 := ce_ HB hx472_1
        replace hx472_2 := ce_ HB hx472_2
        replace hx472_3 := ce_ HB hx472_3
        have HR472_3 := am_ hi472_3
        have HC472_3 := am_ hl472_3
        clear hi472_3 hl472_3
        replace p472 := eq_true p472
        replace q472 := eq_true q472
        have p473 : 0 ≤ (x5_1 : Int) := da_
        have q473 : x5_1 < (l1.length : Int) := da_
        obtain ⟨ad473, A473_3, c473_3, e473, hx473_0, hx473_1, hx473_2, hx473_3, hl473_3, hi473_3⟩ := at_T44 HR1.out x5_1 p473 q473
        have hw473_3 := hx473_3
        have hw473_2 := hx473_2
        have hw473_1 := hx473_1
        have hw473_0 := hx473_0
        cases e473
        replace hx473_0 := ce_ HB hx473_0
        replace hx473_1 := ce_ HB hx473_1
        replace hx473_2 := ce_ HB hx473_2
        replace hx473_3 := ce_ HB hx473_3
        have HR473_3 := am_ hi473_3
        have HC473_3 := am_ hl473_3
        clear hi473_3 hl473_3
        replace p473 := eq_true p473
        replace q473 := eq_true q473
        refine start_ (n := 10) (S := fun w' => w'.cell? (ad472.add ((x5_1).toNat * 4)) = some (.int .i64 ((rd_T44 l0 x5_1).f0)) ∧ w'.cell? ⟨(ad472.add ((x5_1).toNat * 4)).block, (ad472.add ((x5_1).toNat * 4)).off + 1, none⟩ = some (.int .i64 ((rd_T44 l0 x5_1).f1)) ∧ w'.cell? ⟨(ad472.add ((x5_1).toNat * 4)).block, (ad472.add ((x5_1).toNat * 4)).off + 2, none⟩ = some (.int .i64 ((rd_T44 l0 x5_1).f2)) ∧ w'.cell? ⟨(ad472.add ((x5_1).toNat * 4)).block, (ad472.add ((x5_1).toNat * 4)).off + 3, none⟩ = some (.slice A472_3 ((rd_T44 l0 x5_1).f3).length c472_3) ∧ w'.cell? (ad473.add ((x5_1).toNat * 4)) = some (.int .i64 ((rd_T44 l1 x5_1).f0)) ∧ w'.cell? ⟨(ad473.add ((x5_1).toNat * 4)).block, (ad473.add ((x5_1).toNat * 4)).off + 1, none⟩ = some (.int .i64 ((rd_T44 l1 x5_1).f1)) ∧ w'.cell? ⟨(ad473.add ((x5_1).toNat * 4)).block, (ad473.add ((x5_1).toNat * 4)).off + 2, none⟩ = some (.int .i64 ((rd_T44 l1 x5_1).f2)) ∧ w'.cell? ⟨(ad473.add ((x5_1).toNat * 4)).block, (ad473.add ((x5_1).toNat * 4)).off + 3, none⟩ = some (.slice A473_3 ((rd_T44 l1 x5_1).f3).length c473_3)) (ds := []) (bA_ 10 0) (by kernel_rfl) rfl (by kernel_rfl) ⟨(cf_ HB hw472_0), (cf_ HB hw472_1), (cf_ HB hw472_2), (cf_ HB hw472_3), (cf_ HB hw473_0), (cf_ HB hw473_1), (cf_ HB hw473_2), (cf_ HB hw473_3)⟩ (fun hHeld => ?_); refine with_tabW laws_eqTietzeMoveS.tab6 laws_eqTietzeMoveS.bits6 (fun HT_ HW_ => ?_)
        generalize wr.drew = w9 at HB HR472_3 HR473_3 hx472_0 hx472_1 hx472_2 hx472_3 hx473_0 hx473_1 hx473_2 hx473_3 hHeld ⊢
        refine pz_ 0 17 (bA_ 10 1) HT_ ?_
        refine pz_ 1 18 (bA_ 10 3) HT_ ?_
        refine pz_ 2 19 (bA_ 10 7) HT_ ?_
        refine pz_ 4 21 (bA_ 10 23) HT_ ?_
        refine pz_ 5 22 (bA_ 10 55) HT_ ?_
        refine pz_ 6 23 (bA_ 10 119) HT_ ?_
        refine tz_ 3 20 (bA_ 10 127) HT_ HW_ hHeld ?_
        refine tz_ 7 24 (bA_ 10 255) HT_ HW_ hHeld ?_
        refine oz_ 8 25 (bA_ 10 511) HT_ (fun K hK => ?_)
        refine goes_ Try.func26 (by kernel_rfl) rfl #[.agg #[.int .i64 ((rd_T44 l0 x5_1).f0), .int .i64 ((rd_T44 l0 x5_1).f1), .int .i64 ((rd_T44 l0 x5_1).f2), .slice A472_3 ((rd_T44 l0 x5_1).f3).length c472_3], .agg #[.int .i64 ((rd_T44 l1 x5_1).f0), .int .i64 ((rd_T44 l1 x5_1).f1), .int .i64 ((rd_T44 l1 x5_1).f2), .slice A473_3 ((rd_T44 l1 x5_1).f3).length c473_3]] (by rfl) rfl rfl lm_ ?_
        with_reducible refine (laws_eqTietzeMove.calls k1 ((rd_T44 l0 x5_1).f0) ((rd_T44 l0 x5_1).f1) ((rd_T44 l0 x5_1).f2) _ _ ((rd_T44 l0 x5_1).f3) ((rd_T44 l1 x5_1).f0) ((rd_T44 l1 x5_1).f1) ((rd_T44 l1 x5_1).f2) _ _ ((rd_T44 l1 x5_1).f3) true _ ?side1 ?side2 ?side3 ?side4 A7.out).mono ?_
        (case side1 => exact cb_ HR472_3 HB)
        (case side2 => exact HC472_3.out)
        (case side3 => exact cb_ HR473_3 HB)
        (case side4 => exact HC473_3.out)
        rintro e w10 ⟨rfl, hb⟩
        refine ⟨_, rfl, ?_⟩
        have n0_ := am_ (below_step (bb_ HB.out) hb)
        clear HB; revert n0_; intro HB
        (try clear hb)
        (try clear hb2)
        (try clear hk)
        (try clear hi)
        refine hK.out _ _ ⟨(cf_ HB hw472_0), (cf_ HB hw472_1), (cf_ HB hw472_2), (cf_ HB hw472_3), (cf_ HB hw473_0), (cf_ HB hw473_1), (cf_ HB hw473_2), (cf_ HB hw473_3)⟩ (fun hHeld => ?_)
        clear hK K
        refine nm_ 25 ?_
        refine pz_ 9 26 (bA_ 10 1023) HT_ ?_
        refine done_ (done_of HT_.out (by kernel_rfl)) ?_
        try go_wp2
        go_roundg k1
        case measure => have := HK1.out; omega
        case rel => exact ⟨(wrap64 (x5_1 + 1)), (by first | rfl | (simp; done) | (simp [*]; done)), H', ⟨by have := HK1.out; omega⟩, ⟨bb_ HB.out⟩⟩
       ·replace c8 := Bool.eq_false_iff.mpr c8
        subst c8
        have H1 : (some false) = some r := by rw [if_neg (show ¬ (false = true) by decide)] at H; exact H
        clear H
        have H := H1
        clear H1
        obtain rfl := Option.some.inj H
        try go_wp2
        have n0_ := am_ (below_drew1 HB.out)
        clear HB; revert n0_; intro HB
        have p472 : 0 ≤ (x5_1 : Int) := da_
        have q472 : x5_1 < (l0.length : Int) := da_
        obtain ⟨ad472, A472_3, c472_3, e472, hx472_0, hx472_1, hx472_2, hx472_3, hl472_3, hi472_3⟩ := at_T44 HR0.out x5_1 p472 q472
        have hw472_3 := hx472_3
        have hw472_2 := hx472_2
        have hw472_1 := hx472_1
        have hw472_0 := hx472_0
        cases e472
        replace hx472_0 := ce_ HB hx472_0
        replace hx472_1 := ce_ HB hx472_1
        replace hx472_2 := ce_ HB hx472_2
        replace hx472_3 := ce_ HB hx472_3
        have HR472_3 := am_ hi472_3
        have HC472_3 := am_ hl472_3
        clear hi472_3 hl472_3
        replace p472 := eq_true p472
        replace q472 := eq_true q472
        have p473 : 0 ≤ (x5_1 : Int) := da_
        have q473 : x5_1 < (l1.length : Int) := da_
        obtain ⟨ad473, A473_3, c473_3, e473, hx473_0, hx473_1, hx473_2, hx473_3, hl473_3, hi473_3⟩ := at_T44 HR1.out x5_1 p473 q473
        have hw473_3 := hx473_3
        have hw473_2 := hx473_2
        have hw473_1 := hx473_1
        have hw473_0 := hx473_0
        cases e473
        replace hx473_0 := ce_ HB hx473_0
        replace hx473_1 := ce_ HB hx473_1
        replace hx473_2 := ce_ HB hx473_2
        replace hx473_3 := ce_ HB hx473_3
        have HR473_3 := am_ hi473_3
        have HC473_3 := am_ hl473_3
        clear hi473_3 hl473_3
        replace p473 := eq_true p473
        replace q473 := eq_true q473
        refine start_ (n := 10) (S := fun w' => w'.cell? (ad472.add ((x5_1).toNat * 4)) = some (.int .i64 ((rd_T44 l0 x5_1).f0)) ∧ w'.cell? ⟨(ad472.add ((x5_1).toNat * 4)).block, (ad472.add ((x5_1).toNat * 4)).off + 1, none⟩ = some (.int .i64 ((rd_T44 l0 x5_1).f1)) ∧ w'.cell? ⟨(ad472.add ((x5_1).toNat * 4)).block, (ad472.add ((x5_1).toNat * 4)).off + 2, none⟩ = some (.int .i64 ((rd_T44 l0 x5_1).f2)) ∧ w'.cell? ⟨(ad472.add ((x5_1).toNat * 4)).block, (ad472.add ((x5_1).toNat * 4)).off + 3, none⟩ = some (.slice A472_3 ((rd_T44 l0 x5_1).f3).length c472_3) ∧ w'.cell? (ad473.add ((x5_1).toNat * 4)) = some (.int .i64 ((rd_T44 l1 x5_1).f0)) ∧ w'.cell? ⟨(ad473.add ((x5_1).toNat * 4)).block, (ad473.add ((x5_1).toNat * 4)).off + 1, none⟩ = some (.int .i64 ((rd_T44 l1 x5_1).f1)) ∧ w'.cell? ⟨(ad473.add ((x5_1).toNat * 4)).block, (ad473.add ((x5_1).toNat * 4)).off + 2, none⟩ = some (.int .i64 ((rd_T44 l1 x5_1).f2)) ∧ w'.cell? ⟨(ad473.add ((x5_1).toNat * 4)).block, (ad473.add ((x5_1).toNat * 4)).off + 3, none⟩ = some (.slice A473_3 ((rd_T44 l1 x5_1).f3).length c473_3)) (ds := []) (bA_ 10 0) (by kernel_rfl) rfl (by kernel_rfl) ⟨(cf_ HB hw472_0), (cf_ HB hw472_1), (cf_ HB hw472_2), (cf_ HB hw472_3), (cf_ HB hw473_0), (cf_ HB hw473_1), (cf_ HB hw473_2), (cf_ HB hw473_3)⟩ (fun hHeld => ?_); refine with_tabW laws_eqTietzeMoveS.tab6 laws_eqTietzeMoveS.bits6 (fun HT_ HW_ => ?_)
        generalize wr.drew = w11 at HB HR472_3 HR473_3 hx472_0 hx472_1 hx472_2 hx472_3 hx473_0 hx473_1 hx473_2 hx473_3 hHeld ⊢
        refine pz_ 0 17 (bA_ 10 1) HT_ ?_
        refine pz_ 1 18 (bA_ 10 3) HT_ ?_
        refine pz_ 2 19 (bA_ 10 7) HT_ ?_
        refine pz_ 4 21 (bA_ 10 23) HT_ ?_
        refine pz_ 5 22 (bA_ 10 55) HT_ ?_
        refine pz_ 6 23 (bA_ 10 119) HT_ ?_
        refine tz_ 3 20 (bA_ 10 127) HT_ HW_ hHeld ?_
        refine tz_ 7 24 (bA_ 10 255) HT_ HW_ hHeld ?_
        refine oz_ 8 25 (bA_ 10 511) HT_ (fun K hK => ?_)
        refine goes_ Try.func26 (by kernel_rfl) rfl #[.agg #[.int .i64 ((rd_T44 l0 x5_1).f0), .int .i64 ((rd_T44 l0 x5_1).f1), .int .i64 ((rd_T44 l0 x5_1).f2), .slice A472_3 ((rd_T44 l0 x5_1).f3).length c472_3], .agg #[.int .i64 ((rd_T44 l1 x5_1).f0), .int .i64 ((rd_T44 l1 x5_1).f1), .int .i64 ((rd_T44 l1 x5_1).f2), .slice A473_3 ((rd_T44 l1 x5_1).f3).length c473_3]] (by rfl) rfl rfl lm_ ?_
        with_reducible refine (laws_eqTietzeMove.calls k1 ((rd_T44 l0 x5_1).f0) ((rd_T44 l0 x5_1).f1) ((rd_T44 l0 x5_1).f2) _ _ ((rd_T44 l0 x5_1).f3) ((rd_T44 l1 x5_1).f0) ((rd_T44 l1 x5_1).f1) ((rd_T44 l1 x5_1).f2) _ _ ((rd_T44 l1 x5_1).f3) false _ ?side1 ?side2 ?side3 ?side4 A7.out).mono ?_
        (case side1 => exact cb_ HR472_3 HB)
        (case side2 => exact HC472_3.out)
        (case side3 => exact cb_ HR473_3 HB)
        (case side4 => exact HC473_3.out)
        rintro e w12 ⟨rfl, hb⟩
        refine ⟨_, rfl, ?_⟩
        have n0_ := am_ (below_step (bb_ HB.out) hb)
        clear HB; revert n0_; intro HB
        (try clear hb)
        (try clear hb2)
        (try clear hk)
        (try clear hi)
        refine hK.out _ _ ⟨(cf_ HB hw472_0), (cf_ HB hw472_1), (cf_ HB hw472_2), (cf_ HB hw472_3), (cf_ HB hw473_0), (cf_ HB hw473_1), (cf_ HB hw473_2), (cf_ HB hw473_3)⟩ (fun hHeld => ?_)
        clear hK K
        refine nm_ 25 ?_
        refine pz_ 9 26 (bA_ 10 1023) HT_ ?_
        refine done_ (done_of HT_.out (by kernel_rfl)) ?_
        try go_wp2
        go_ret
        exact ⟨er_, bb_ HB.out⟩
      ·rw [if_neg c6] at H
       exact absurd H (by simp)
     ·rw [if_neg c5] at H
      exact absurd H (by simp)
    ·rw [if_neg c4] at H
     have c4b0 : decide (x5_1 < (l0.length : Int)) = false := decide_eq_false c4
     clear c4
     obtain rfl := Option.some.inj H
     go_wp2
     go_ret
     exact ⟨er_, bb_ HB.out⟩
 ·rw [if_neg c3] at H
  have c3b0 : ((l0.length : Int) == (l1.length : Int)) = false := beq_eq_false_iff_ne.mpr c3
  have c3b1 : ((l0.length : Int) != (l1.length : Int)) = true := bne_iff_ne.mpr c3
  have c3b2 : (l0.length == l1.length) = false := by first | simpa using c3 | (simp at c3 ⊢; omega)
  obtain rfl := Option.some.inj H
  go_enter Try.func30, Try.ntmps30
  go_wp2
  go_ret
  exact ⟨er_, bb_ HB.out⟩

/-! ### laws_markTietzeMoveS: function 31 -/
def mvMark : List S44 → Int → List S44
  | [], _ => []
  | _ :: r, a => ⟨a, a + 1, a + 2, []⟩ :: mvMark r (a + 3)
def laws_markTietzeMoveS.f (l : List S44) (a : Int) : Option (Int × List S44) := if l.length ≤ 100000 ∧ 0 ≤ a ∧ a ≤ 1000000000000 then some (a + 3 * (l.length : Int), mvMark l a) else none
def mvTo (l : List S44) (a : Int) (i : Nat) : List S44 := mvMark (l.take i) a ++ l.drop i
theorem mvMark_len : ∀ (l : List S44) (a : Int), (mvMark l a).length = l.length
  | [], _ => rfl
  | _ :: r, a => by simp [mvMark, mvMark_len r]
theorem mvTo_len (l : List S44) (a : Int) (i : Nat) : (mvTo l a i).length = l.length := by
  unfold mvTo
  rw [List.length_append, mvMark_len, List.length_take, List.length_drop]
  omega
theorem mvTo_all (l : List S44) (a : Int) : mvTo l a l.length = mvMark l a := by simp [mvTo]
theorem mvTo_step : ∀ (l : List S44) (a : Int) (i : Nat), i < l.length → (mvTo l a i).set i ⟨a + 3 * (i : Int), a + 3 * (i : Int) + 1, a + 3 * (i : Int) + 2, []⟩ = mvTo l a (i + 1)
  | [], _, _, h => absurd h (by simp)
  | x :: r, a, 0, _ => by simp [mvTo, mvMark]
  | x :: r, a, i + 1, h => by
    have e := mvTo_step r (a + 3) i (by simpa using h)
    have e1 : a + 3 + 3 * (i : Int) = a + 3 * ((i + 1 : Nat) : Int) := by omega
    rw [e1] at e
    have u : ∀ j, mvTo (x :: r) a (j + 1) = ⟨a, a + 1, a + 2, []⟩ :: mvTo r (a + 3) j := fun j => by simp [mvTo, mvMark]
    rw [u, u, List.set_cons_succ, e]
def MV (w0 w : World) (ok : Nat → Prop) (u : Value) (xs : List S44) (W : World) : Prop := Kd.S kmv 44 W w0.heap.size ok u xs ∧ Below w0.heap.size w0 W ∧ Kept w W (fun k => some k = u.ownBlock)
theorem MV.below {w0 w W W1 : World} {ok : Nat → Prop} {u : Value} {xs : List S44} (h : MV w0 w ok u xs W) (hb : Below W.heap.size W W1) : MV w0 w ok u xs W1 :=
  ⟨Kd.S_below h.1 hb, below_step h.2.1 hb, h.2.2.then_ (Kept.of_below hb (fun _ => False)) (fun _ h => h.elim)⟩
/-- What lies at a move's place. -/
theorem MV.at {w0 w W : World} {ok : Nat → Prop} {g n c : Nat} {xs : List S44} (h : MV w0 w ok (.slice (some ⟨g, 0, none⟩) n c) xs W) (i : Nat) (hi : i < xs.length) :
    ∃ f0 f1 f2 : Int, xs[i] = ⟨f0, f1, f2, []⟩ ∧ W.cell? ⟨g, i * 4, none⟩ = some (.int .i64 f0) ∧ W.cell? ⟨g, i * 4 + 1, none⟩ = some (.int .i64 f1) ∧ W.cell? ⟨g, i * 4 + 2, none⟩ = some (.int .i64 f2) ∧ W.cell? ⟨g, i * 4 + 3, none⟩ = some (.slice none 0 0) ∧
      (∀ j, W.frozen? ⟨g, i * 4 + j, none⟩ = false) ∧ ∀ (j : Nat) (v : Int) (x : S44), j < 3 → x = (match j with | 0 => ⟨v, f1, f2, []⟩ | 1 => ⟨f0, v, f2, []⟩ | _ => ⟨f0, f1, v, []⟩) →
        MV w0 w ok (.slice (some ⟨g, 0, none⟩) n c) (xs.set i x) (W.setCell ⟨g, i * 4 + j, none⟩ (.int .i64 v)) := by
  have hn := (Kd.S_reads' h.1).1
  have h2 : Kd.S kmv 44 W w0.heap.size (fun k => ok k ∧ ¬ (fun _ => False) k) (.slice (some ⟨g, 0, none⟩) n c) xs := Kd.S_mono h.1 (fun k hk => ⟨hk, fun h => h⟩)
  obtain ⟨oki, cc, hcl, hM, hcc, hfr, hoki, hH⟩ := Kd.S_elem h2 z44 (i : Int) (by omega) (by omega)
  have eg : xs.getD (i : Int).toNat z44 = xs[i] := by rw [Int.toNat_natCast]; simp [hi]
  rw [eg] at hM
  obtain ⟨h3, e3⟩ := hM
  obtain ⟨⟨f0, f1, f2, f3⟩, hx⟩ : ∃ y, xs[i] = y := ⟨_, rfl⟩
  rw [hx] at h3 e3
  simp only at h3 e3
  subst h3
  have hc : ∀ (j : Nat) (u : Value), cc[j]? = some u → W.cell? ⟨g, i * 4 + j, none⟩ = some u := fun j u hu => hcc j u hu
  refine ⟨f0, f1, f2, hx, hc 0 _ (by rw [e3]; rfl), hc 1 _ (by rw [e3]; rfl), hc 2 _ (by rw [e3]; rfl), hc 3 _ (by rw [e3]; rfl), fun j => hfr j, fun j v x hj hx2 => ?_⟩
  have h1 := Kd.S_seg (ok := ok) (okg := fun _ => False) hH (by omega) (by omega) (seg := [.int .i64 v]) (j := j) (show j + 1 ≤ 4 by omega) (x' := x) (okp := fun _ => False) (by
    rw [e3]
    match j, hj, hx2 with
    | 0, _, hx2 => subst hx2; exact ⟨rfl, rfl⟩
    | 1, _, hx2 => subst hx2; exact ⟨rfl, rfl⟩
    | 2, _, hx2 => subst hx2; exact ⟨rfl, rfl⟩) (fun _ hk => hk.elim) (fun _ hk => hk.elim)
  refine ⟨h1.1, below_set h.2.1 (Kd.S_base h.1 g (by simp [Value.ownBlock])), ⟨Nat.le_trans h.2.2.1 (by simp [World.setCell]), fun q hq hn => (Below.heap_setCell _ ⟨g, i * 4 + j, none⟩ _ q (fun he => hn (by rw [he]; simp [Value.ownBlock]))).trans (h.2.2.2 q hq hn)⟩⟩
theorem laws_markTietzeMoveS.calls (P0_ : Nat → Prop) (u9000_ : Value) (l0 : List S44) (a1 : Int) (r1 : Int) (r2 : List S44) (w0 w : World) (hB : Below w0.heap.size w0 w) (ho0 : Kd.S kmv 44 w w0.heap.size P0_ u9000_ l0) (h : laws_markTietzeMoveS.f l0 a1 = some (r1, r2)) :
    Calls Try.prog 31 #[u9000_, .int .i64 a1] w fun e w' => e = .returned (.int .i64 r1) ∧ Kd.S kmv 44 w' w0.heap.size P0_ u9000_ r2 ∧ Below w0.heap.size w0 w' ∧ Kept w w' (fun k => some k = u9000_.ownBlock) := by
  unfold laws_markTietzeMoveS.f at h
  by_cases hT : l0.length ≤ 100000 ∧ 0 ≤ a1 ∧ a1 ≤ 1000000000000
  case neg => rw [if_neg hT] at h; cases h
  rw [if_pos hT] at h
  obtain ⟨rfl, rfl⟩ := Prod.mk.inj (Option.some.inj h)
  obtain ⟨A, c, rfl⟩ := Kd.S_slice ho0
  have HT := Aside0.mk hT
  have HM0 := Aside0.mk (show MV w0 w P0_ (.slice A l0.length c) (mvTo l0 a1 0) w from ⟨by simpa [mvTo, mvMark] using ho0, hB, Kept.refl w _⟩)
  have HN := Aside0.mk fun (W : World) (a : Int) (hB : Below w0.heap.size w0 W) => laws_markInt64S.calls 1 (fun _ => False) (.slice none 0 0) [] a a [] w0 W hB (Kd.R_nil _ _ _ _ _) (by unfold laws_markInt64S.f laws_markInt64S.l0; simp)
  clear h hT hB ho0
  generalize hn : l0.length = n at *
  have NU := Aside0.mk hn
  clear hn
  go_enter Try.func31, Try.ntmps31
  go_wp2
  go_loopg [1, 5] n (fun gg v1 v5 wr => ∃ i : Nat, i ≤ n ∧ n - i ≤ gg ∧ v1 = .int .i64 (a1 + 3 * (i : Int)) ∧ v5 = .int .i64 (i : Int) ∧ Aside0 (MV w0 w P0_ (.slice A n c) (mvTo l0 a1 i) wr))
  case atStart => exact ⟨0, Nat.zero_le _, by omega, by simp, rfl, HM0⟩
  case round =>
    clear HM0
    obtain ⟨i, hi, hg, rfl, rfl, HM⟩ := hrel
    have hl := mvTo_len l0 a1 i
    rw [NU.out] at hl
    by_cases c5 : i < n
    · have c5b : decide ((i : Int) < (n : Int)) = true := decide_eq_true (by omega)
      have c5c : decide (i < n) = true := decide_eq_true c5
      obtain ⟨go, cap, eg, _, _, _⟩ := Kd.S_form HM.out.1 (by omega)
      injection eg with e1 e2 e3
      subst e1 e3
      clear e2
      obtain ⟨v0, hv0⟩ : ∃ v, v = a1 + 3 * (i : Int) := ⟨_, rfl⟩
      obtain ⟨v1, hv1⟩ : ∃ v, v = v0 + 1 := ⟨_, rfl⟩
      obtain ⟨v2, hv2⟩ : ∃ v, v = v0 + 2 := ⟨_, rfl⟩
      obtain ⟨v3, hv3⟩ : ∃ v, v = v0 + 3 := ⟨_, rfl⟩
      have hw1 : wrap64 (v0 + 1) = v1 := by have := HT.out; unfold wrap64; omega
      have hw2 : wrap64 (v1 + 1) = v2 := by have := HT.out; unfold wrap64; omega
      have hw3 : wrap64 (v2 + 1) = v3 := by have := HT.out; unfold wrap64; omega
      have hw1w : IntKind.i64.wrap (v0 + 1) = v1 := (i64_w _).trans hw1
      have hw2w : IntKind.i64.wrap (v1 + 1) = v2 := (i64_w _).trans hw2
      have hw3w : IntKind.i64.wrap (v2 + 1) = v3 := (i64_w _).trans hw3
      have HV := Aside0.mk (And.intro hv0 (And.intro hv1 (And.intro hv2 hv3)))
      rw [← hv0]
      clear hv0 hv1 hv2 hv3
      have hli := Aside0.mk (show i < (mvTo l0 a1 i).length by omega)
      have HL := Aside0.mk (show (mvTo l0 a1 i).set i ⟨v0, v1, v2, []⟩ = mvTo l0 a1 (i + 1) by
        have e := mvTo_step l0 a1 i (by rw [NU.out]; exact c5)
        obtain ⟨e0, e1, e2, e3⟩ := HV.out
        rw [e1, e2, e0]
        exact e)
      clear hl
      generalize mvTo l0 a1 i = xs at HM hli HL
      obtain ⟨f0, f1, f2, hx, q0, q1, q2, q3, qf, hput⟩ := HM.out.at i hli.out
      have qf0 : wr.frozen? ⟨go, i * 4, none⟩ = false := qf 0
      have p1 : (0 ≤ (i : Int)) = True := eq_true (by omega)
      have p2 : ((i : Int) < (n : Int)) = True := eq_true (by omega)
      go_upto_region 5 with fail
      have HM1 := Aside0.mk (show MV w0 w P0_ (.slice (some ⟨go, 0, none⟩) n c) (xs.set i ⟨v0, f1, f2, []⟩) (wr.setCell ⟨go, i * 4, none⟩ (.int .i64 v0)) from hput 0 v0 _ (by omega) rfl)
      clear q0 q1 q2 q3 qf qf0 hput HM hx
      generalize wr.setCell ⟨go, i * 4, none⟩ (.int .i64 v0) = w1 at HM1 ⊢
      obtain ⟨g0, g1, g2, hx, q0, q1, q2, q3, qf, hput⟩ := HM1.out.at i (by rw [List.length_set]; exact hli.out)
      rw [List.getElem_set_self] at hx
      injection hx with e0 e1 e2
      subst e0 e1 e2
      have qf1 : w1.frozen? ⟨go, i * 4 + 1, none⟩ = false := qf 1
      go_upto_region 7 with fail
      have HM2 := Aside0.mk (show MV w0 w P0_ (.slice (some ⟨go, 0, none⟩) n c) ((xs.set i ⟨v0, f1, f2, []⟩).set i ⟨v0, v1, f2, []⟩) (w1.setCell ⟨go, i * 4 + 1, none⟩ (.int .i64 v1)) from hput 1 v1 _ (by omega) rfl)
      rw [List.set_set] at HM2
      clear q0 q1 q2 q3 qf qf1 hput HM1
      generalize w1.setCell ⟨go, i * 4 + 1, none⟩ (.int .i64 v1) = w2 at HM2 ⊢
      obtain ⟨g0, g1, g2, hx, q0, q1, q2, q3, qf, hput⟩ := HM2.out.at i (by rw [List.length_set]; exact hli.out)
      rw [List.getElem_set_self] at hx
      injection hx with e0 e1 e2
      subst e0 e1 e2
      have qf2 : w2.frozen? ⟨go, i * 4 + 2, none⟩ = false := qf 2
      go_upto_region 9 with fail
      have HM3 := Aside0.mk (show MV w0 w P0_ (.slice (some ⟨go, 0, none⟩) n c) ((xs.set i ⟨v0, v1, f2, []⟩).set i ⟨v0, v1, v2, []⟩) (w2.setCell ⟨go, i * 4 + 2, none⟩ (.int .i64 v2)) from hput 2 v2 _ (by omega) rfl)
      rw [List.set_set, HL.out] at HM3
      clear q0 q1 q2 q3 qf qf2 hput HM2
      generalize w2.setCell ⟨go, i * 4 + 2, none⟩ (.int .i64 v2) = w3 at HM3 ⊢
      have hl3 : i < (mvTo l0 a1 (i + 1)).length := by rw [← HL.out, List.length_set]; exact hli.out
      obtain ⟨g0, g1, g2, hx, q0, q1, q2, q3, qf, hput⟩ := HM3.out.at i hl3
      clear q0 q1 q2 qf hput hx hl3
      go_wp2_with (go_at_call 46; refine (HN.out _ v3 HM3.out.2.1).mono ?_; rintro e w4 ⟨rfl, hR, hB2, hK⟩; have HM4 := Aside0.mk (show MV w0 w P0_ (.slice (some ⟨go, 0, none⟩) n c) (mvTo l0 a1 (i + 1)) w4 from ⟨Kd.S_kept HM3.out.1 hK (fun _ _ h => h), hB2, HM3.out.2.2.then_ hK (fun _ h => h.elim)⟩); clear hR hB2 hK HM3 q3)
      go_roundg (n - (i + 1))
      case measure => omega
      case rel => exact ⟨i + 1, by omega, by omega, (by obtain ⟨e0, e1, e2, e3⟩ := HV.out; exact congrArg (Value.int .i64) (by omega)), (by first | rfl | exact congrArg (Value.int .i64) (show wrap64 ((i : Int) + 1) = ((i + 1 : Nat) : Int) by have := HT.out; unfold wrap64; omega)), HM4⟩
    · have c5b : decide ((i : Int) < (n : Int)) = false := decide_eq_false (by omega)
      have c5c : decide (i < n) = false := decide_eq_false c5
      have e : i = n := by omega
      subst e
      go_wp2
      go_ret
      have h4 := HM.out
      have e5 : mvTo l0 a1 i = mvMark l0 a1 := by rw [← NU.out]; exact mvTo_all l0 a1
      rw [e5] at h4
      exact ⟨rfl, h4.1, h4.2.1, h4.2.2⟩

end Go.Proofs.Ytbcdngjajjgmkaa.PFnExactSimplifyPresentation
