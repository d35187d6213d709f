/- Written by this session's program out of the kit's print and this session's contracts. -/
import Derived.Test.YtbcdngjajjgmkaaVFnSimplifyPx0
import Derived.Test.YtbcdngjajjgmkaaVFnSimplifyPx9
import Derived.Test.YtbcdngjajjgmkaaVFnSimplifyPx10
import Derived.Test.YtbcdngjajjgmkaaVFnSimplifyPx14
namespace Go.Proofs.Ytbcdngjajjgmkaa.PFnSimplify
open Go.RowKit Go.Proofs.YtbcdngjajjgmkaaW.PrintWords Go.Proofs.YtbcdngjajjgmkaaW.PrintLast Go.Proofs.YtbcdngjajjgmkaaW.PrintMore
set_option maxHeartbeats 16000000
set_option maxRecDepth 100000
set_option linter.unusedVariables false
set_option linter.unusedSimpArgs false

/-! ### impl_simplified: function 70 -/
def impl_simplified.l0 : Nat → List (S44) → Int → List (List Int) → Option (Int × (List (List Int)) × (List (S44)))
  | 0, _, _, _ => none
  | k + 1, x4, x358000, x358001 => if (x4.length : Int) < 200 then ((impl_simplifying.f k x358000 x358001).bind fun bt362 => (if bt362.2.2.2.2.2.2 = true then (if x4.length < 2932031007402 then (impl_simplified.l0 k (x4 ++ [(⟨bt362.1, bt362.2.1, bt362.2.2.1, bt362.2.2.2.1⟩ : S44)]) bt362.2.2.2.2.1 bt362.2.2.2.2.2.1) else (none)) else (some (x358000, x358001, x4)))) else (some (x358000, x358001, x4))
def impl_simplified.f (k : Nat) (a0_0 : Int) (l0_1 : List (List Int)) : Option (Int × (List (List Int)) × (List (S44))) := (impl_copyLists.f k l0_1).bind fun t359 => (impl_simplified.l0 k ([] : List (S44)) a0_0 t359)
/-- A move whose word is nil: all of it lies in its own four cells. -/
def kmv : Kd S44 where
  sz := 4
  E := []
  K := fun _ x cs => x.f3 = [] ∧ cs = [.int .i64 x.f0, .int .i64 x.f1, .int .i64 x.f2, .slice none 0 0]
  M := fun _ _ _ x cs => x.f3 = [] ∧ cs = [.int .i64 x.f0, .int .i64 x.f1, .int .i64 x.f2, .slice none 0 0]
  K_len := fun h => by rw [h.2]; rfl
  K_one := fun h u hu => by
    rw [h.2] at hu
    simp only [List.mem_cons, List.mem_nil_iff, or_false] at hu
    rcases hu with rfl | rfl | rfl | rfl <;> rfl
  K_below := fun _ h => h
  K_of_M := fun h => h
  M_mono := fun _ h => h
  M_bound := fun h => h
  M_move := fun _ h => h
  M_lower := fun _ h => h
theorem kmv_K {w : World} {x : S44} {cs : List Value} (h : kmv.K w x cs) : k44.K w x cs := by
  obtain ⟨h3, rfl⟩ := h
  have e := k44_mk w x (A3 := none) (c3 := 0) (by rw [h3]; exact Nat.le_refl _) (by rw [h3]; exact Kd.C_nil _ _)
  rw [h3] at e
  exact e
theorem kmv_N {e base : Nat} {ok : Nat → Prop} {w : World} {v : Value} {xs : List S44} (h : Kd.N kmv e w base ok v xs) : Kd.N k44 e w base ok v xs :=
  ⟨h.1, h.2.elim fun rows hr => ⟨rows, hr.1, hr.2.1, fun j x c hx hc W2 hW => kmv_K (hr.2.2 j x c hx hc W2 hW)⟩⟩
def ST (w : World) (b1 b2 : Nat) (g : Int) (u : Value) (rows : List (List Int)) (mv : Value) (moves : List S44) (W : World) : Prop :=
  W.heap[b1]? = some (.cells #[.int .i64 g, u] 28 (0, 0)) ∧ W.heap[b2]? = some (.cells #[.int .i64 0, .slice none 0 0] 28 (0, 0)) ∧ Kd.S (Kd.slice 2 (Kd.int .i64)) 39 W w.heap.size (fun _ => True) u rows ∧ Kd.S kmv 44 W w.heap.size (fun _ => True) mv moves ∧ Below w.heap.size w W
section
variable {w W W1 : World} {b1 b2 : Nat} {g : Int} {u mv : Value} {rows : List (List Int)} {moves : List S44}
theorem ST.p (h : ST w b1 b2 g u rows mv moves W) : W.heap[b1]? = some (.cells #[.int .i64 g, u] 28 (0, 0)) := h.1
theorem ST.z (h : ST w b1 b2 g u rows mv moves W) : W.heap[b2]? = some (.cells #[.int .i64 0, .slice none 0 0] 28 (0, 0)) := h.2.1
theorem ST.s (h : ST w b1 b2 g u rows mv moves W) : Kd.S (Kd.slice 2 (Kd.int .i64)) 39 W w.heap.size (fun _ => True) u rows := h.2.2.1
theorem ST.v (h : ST w b1 b2 g u rows mv moves W) : Kd.S kmv 44 W w.heap.size (fun _ => True) mv moves := h.2.2.2.1
theorem ST.b (h : ST w b1 b2 g u rows mv moves W) : Below w.heap.size w W := h.2.2.2.2
theorem ST.below (h : ST w b1 b2 g u rows mv moves W) (hb : Below W.heap.size W W1) : ST w b1 b2 g u rows mv moves W1 := ⟨blk_below h.p hb, blk_below h.z hb, Kd.S_below h.s hb, Kd.S_below h.v hb, below_step h.b hb⟩
/-- The moves have grown by one, and the presentation is another one. -/
theorem ST.next {g2 : Int} {u2 mv2 : Value} {rows2 : List (List Int)} {x : S44} (hd : b1 ≠ b2 ∧ w.heap.size ≤ b1 ∧ w.heap.size ≤ b2) (h : ST w b1 b2 g u rows mv moves W) (hs : Kd.S (Kd.slice 2 (Kd.int .i64)) 39 W w.heap.size (fun _ => True) u2 rows2)
    (ho : Kd.S kmv 44 W1 w.heap.size (fun _ => True) mv2 (moves ++ [x])) (hb : Below w.heap.size w W1) (hg : W.grownBy W1 mv.ownBlock) : ST w b1 b2 g2 u2 rows2 mv2 (moves ++ [x]) ((W1.setCell ⟨b1, 0, none⟩ (.int .i64 g2)).setCell ⟨b1, 1, none⟩ u2) := by
  have k1 := blk_grown h.p hg (Kd.S_ne h.v h.p (by decide))
  have k2 := blk_grown h.z hg (Kd.S_ne h.v h.z (by decide))
  have k3 := Kd.S_over' hs (Kd.S_typed h.v) (by decide) hg
  exact ⟨box_put2 k1, box_far2 k2 hd.1.symm, S_put2 k3 k1, Kd.S_set (Kd.S_set ho k1 (by decide) 0 _) (blk_put k1 0 _ rfl) (by decide) 1 _, below_put2 hb hd.2.1⟩
/-- The answer is put into its place. -/
theorem ST.answer (hd : b1 ≠ b2 ∧ w.heap.size ≤ b1 ∧ w.heap.size ≤ b2) (h : ST w b1 b2 g u rows mv moves W) {x0 x1 : Value} :
    ((W.setCell ⟨b2, 0, none⟩ x0).setCell ⟨b2, 1, none⟩ x1).heap[b2]? = some (.cells #[x0, x1] 28 (0, 0)) ∧ Kd.S (Kd.slice 2 (Kd.int .i64)) 39 ((W.setCell ⟨b2, 0, none⟩ x0).setCell ⟨b2, 1, none⟩ x1) w.heap.size (fun _ => True) u rows ∧ Kd.S kmv 44 ((W.setCell ⟨b2, 0, none⟩ x0).setCell ⟨b2, 1, none⟩ x1) w.heap.size (fun _ => True) mv moves ∧ Below w.heap.size w ((W.setCell ⟨b2, 0, none⟩ x0).setCell ⟨b2, 1, none⟩ x1) :=
  ⟨box_put2 h.z, S_put2 h.s h.z, Kd.S_set (Kd.S_set h.v h.z (by decide) 0 _) (blk_put h.z 0 _ rfl) (by decide) 1 _, below_put2 h.b hd.2.2⟩
end
theorem impl_simplified.succ_ (K : Nat) (M : List S44) (g : Int) (l : List (List Int)) : impl_simplified.l0 (K + 1) M g l = if (M.length : Int) < 200 then ((impl_simplifying.f K g l).bind fun bt362 => (if bt362.2.2.2.2.2.2 = true then (if M.length < 2932031007402 then (impl_simplified.l0 K (M ++ [(⟨bt362.1, bt362.2.1, bt362.2.2.1, bt362.2.2.2.1⟩ : S44)]) bt362.2.2.2.2.1 bt362.2.2.2.2.2.1) else (none)) else (some (g, l, M)))) else (some (g, l, M)) := rfl
theorem impl_simplified.run (k : Nat) (a0_0 : Int) (A0_1 : Option Addr) (c0_1 : Nat) (l0_1 : List (List Int)) (r1 : Int) (r2 : List (List Int)) (r3 : List S44) (w : World) (hr0_1 : Kd.C (Kd.slice 2 (Kd.int .i64)) w A0_1 l0_1.length l0_1) (hc0_1 : l0_1.length ≤ c0_1) (h : impl_simplified.f k a0_0 l0_1 = some (r1, r2, r3)) :
    Calls Try.prog 70 #[.agg #[.int .i64 a0_0, .slice A0_1 l0_1.length c0_1]] w fun e w' => ∃ v1_ v2_ : Value, e = .returned (.tuple #[.agg #[.int .i64 r1, v1_], v2_]) ∧ Kd.S (Kd.slice 2 (Kd.int .i64)) 39 w' w.heap.size (fun _ => True) v1_ r2 ∧ Kd.S kmv 44 w' w.heap.size (fun _ => True) v2_ r3 ∧ Below w.heap.size w w' := by
  unfold impl_simplified.f at h
  obtain ⟨cp, hcp, h⟩ := Option.bind_eq_some_iff.mp h
  have HR0 := Aside0.mk hr0_1
  have HC0 := Aside0.mk hc0_1
  have HCP := Aside0.mk fun (W : World) (hW : Below w.heap.size w W) => impl_copyLists.calls k A0_1 c0_1 l0_1 cp W (Kd.C_below HR0.out hW) HC0.out hcp
  have H' := Aside0.mk h
  clear hr0_1 hc0_1 hcp h
  go_enter Try.func70, Try.ntmps70
  go_wp2_with (first
    | (refine be_ 1 28 #[.int .i64 a0_0, .slice A0_1 l0_1.length c0_1] ?_; intro b1 hg w2 hbox hb; have B1 := Aside0.mk hbox; have G1 := Aside0.mk (show w.heap.size ≤ b1 by rw [hg]; exact Nat.le_refl _); have HB2 := Aside0.mk hb; clear hg hbox hb)
    | (refine be_ 2 28 #[.int .i64 0, .slice none 0 0] ?_; intro b2 hg w3 hbox hb; have B13 := Aside0.mk (blk_below B1.out hb); have B2 := Aside0.mk hbox; have HD := Aside0.mk (show b1 ≠ b2 ∧ w.heap.size ≤ b1 ∧ w.heap.size ≤ b2 from ⟨by rw [hg]; exact Nat.ne_of_lt (blk_lt B1.out), G1.out, by rw [hg]; exact HB2.out.size⟩); have HB3 := Aside0.mk (below_step HB2.out hb); clear hg hbox hb B1 HB2 G1; have q11 : w3.cell? ⟨b1, 1, none⟩ = some (.slice A0_1 l0_1.length c0_1) := (blk_cell B13.out 1).trans rfl)
    | (go_at_call 44; refine (HCP.out _ HB3.out).mono ?_; rintro e w4 ⟨u, rfl, ho, hb⟩; obtain ⟨Au, cu, eu⟩ := Kd.S_slice ho; subst eu; have HS4 := Aside0.mk (Kd.S_lower ho HB3.out.size); have B14 := Aside0.mk (blk_below B13.out hb); have B24 := Aside0.mk (blk_below B2.out hb); have HB4 := Aside0.mk (below_step HB3.out hb); clear ho hb q11 B13 B2 HB3 HCP; have q11 : w4.cell? ⟨b1, 1, none⟩ = some (.slice A0_1 l0_1.length c0_1) := (blk_cell B14.out 1).trans rfl; have qf11 := blk_frozen B14.out 1))
  have HT0 := Aside0.mk (show ST w b1 b2 a0_0 (.slice Au cp.length cu) cp (.slice none 0 0) [] (w4.setCell ⟨b1, 1, none⟩ (.slice Au cp.length cu)) from ⟨blk_put B14.out 1 _ rfl, blk_far B24.out HD.out.1.symm _, Kd.S_set HS4.out B14.out (by decide) 1 _, Kd.S_nil _ _ _ _ _, below_set HB4.out HD.out.2.1⟩)
  clear q11 qf11 B14 B24 HS4 HB4
  generalize (w4.setCell ⟨b1, 1, none⟩ (.slice Au cp.length cu)) = w5 at HT0 ⊢
  go_loopg [4] k (fun kq v4 w' => ∃ (g : Int) (u : Value) (rows : List (List Int)) (moves : List S44), Aside0 (impl_simplified.l0 kq moves g rows = some (r1, r2, r3)) ∧ Aside0 (kq ≤ k) ∧ Aside0 (ST w b1 b2 g u rows v4 moves w'))
  case atStart => exact ⟨a0_0, _, cp, [], H', ⟨Nat.le_refl _⟩, HT0⟩
  case round =>
    clear H' HT0
    obtain ⟨g, u, rows, moves, HA, HK1, HT⟩ := hrel
    cases gk with
    | zero => exact nomatch (show (none : Option (Int × List (List Int) × List S44)) = some (r1, r2, r3) from HA.out)
    | succ k1 =>
      have H := HA.out
      clear HA
      rw [impl_simplified.succ_] at H
      obtain ⟨Am, cm, em⟩ := Kd.S_slice HT.out.v
      subst em
      obtain ⟨Au, cu, eu⟩ := Kd.S_slice HT.out.s
      subst eu
      have q10 : wr.cell? ⟨b1, 0, none⟩ = some (.int .i64 g) := (blk_cell HT.out.p 0).trans rfl
      have q11 : wr.cell? ⟨b1, 1, none⟩ = some (.slice Au rows.length cu) := (blk_cell HT.out.p 1).trans rfl
      by_cases c10 : (moves.length : Int) < 200
      · rw [if_pos c10] at H
        have LM := Aside0.mk c10
        have c10b0 : decide ((moves.length : Int) < 200) = true := decide_eq_true c10
        have c10b1 : decide (moves.length < 200) = true := decide_eq_true (by omega)
        clear c10
        obtain ⟨⟨m0, m1, m2, m3, g2, rows2, okb⟩, hsi, H⟩ := Option.bind_eq_some_iff.mp H
        simp only at H
        have HSI := Aside0.mk fun (W : World) (hC : Kd.C (Kd.slice 2 (Kd.int .i64)) W Au rows.length rows) (hc : rows.length ≤ cu) => impl_simplifying.run k1 g Au cu rows m0 m1 m2 m3 g2 rows2 okb W hC hc hsi
        clear hsi
        by_cases c12 : okb = true
        · subst c12
          rw [if_pos rfl, if_pos (by have := LM.out; omega)] at H
          have H' := Aside0.mk H
          clear H
          go_wp2_with (first
            | (go_at_call 105; refine (HSI.out _ (Kd.S_reads' HT.out.s).2.2 (Kd.S_reads' HT.out.s).2.1).mono ?_; rintro e w6 ⟨A5, n5, c5, rfl, hm3, ho, hb⟩; have HM3 := Aside0.mk hm3; have HS6 := Aside0.mk ho; have HT6 := Aside0.mk (HT.out.below hb); have HBW := Aside0.mk HT.out.b.size; clear hb ho hm3 HSI q10 q11 HT)
            | (refine be_ 5 44 #[.int .i64 0, .int .i64 0, .int .i64 0, .slice none 0 0] ?_; intro b5 hg w7 hbox hb; have G5 := Aside0.mk (show w6.heap.size ≤ b5 by rw [hg]; exact Nat.le_refl _); have B5 := Aside0.mk hbox; have HB7 := Aside0.mk hb; clear hg hbox hb; have z0 : w7.cell? ⟨b5, 0, none⟩ = some (.int .i64 0) := (blk_cell B5.out 0).trans rfl; have z1 : w7.cell? ⟨b5, 1, none⟩ = some (.int .i64 0) := (blk_cell B5.out 1).trans rfl; have z2 : w7.cell? ⟨b5, 2, none⟩ = some (.int .i64 0) := (blk_cell B5.out 2).trans rfl; have z3 : w7.cell? ⟨b5, 3, none⟩ = some (.slice none 0 0) := (blk_cell B5.out 3).trans rfl)
            | (refine be_ 6 28 #[.int .i64 0, .slice none 0 0] ?_; intro b6 hg w8 hbox hb; have G6 := Aside0.mk (show w6.heap.size ≤ b6 ∧ b5 ≠ b6 from ⟨by rw [hg]; exact HB7.out.size, by rw [hg]; exact Nat.ne_of_lt (blk_lt B5.out)⟩); have hn56 := G6.out.2; have hn65 := G6.out.2.symm; have B58 := Aside0.mk (blk_below B5.out hb); have B6 := Aside0.mk hbox; have HB8 := Aside0.mk (below_step HB7.out hb); clear hg hbox hb z0 z1 z2 z3 B5 HB7; have z0 : w8.cell? ⟨b5, 0, none⟩ = some (.int .i64 0) := (blk_cell B58.out 0).trans rfl; have zf0 := blk_frozen B58.out 0; have z1 : w8.cell? ⟨b5, 1, none⟩ = some (.int .i64 0) := (blk_cell B58.out 1).trans rfl; have zf1 := blk_frozen B58.out 1; have z2 : w8.cell? ⟨b5, 2, none⟩ = some (.int .i64 0) := (blk_cell B58.out 2).trans rfl; have zf2 := blk_frozen B58.out 2; have z3 : w8.cell? ⟨b5, 3, none⟩ = some (.slice none 0 0) := (blk_cell B58.out 3).trans rfl; have zf3 := blk_frozen B58.out 3; have y0 : w8.cell? ⟨b6, 0, none⟩ = some (.int .i64 0) := (blk_cell B6.out 0).trans rfl; have yf0 := blk_frozen B6.out 0; have y1 : w8.cell? ⟨b6, 1, none⟩ = some (.slice none 0 0) := (blk_cell B6.out 1).trans rfl; have yf1 := blk_frozen B6.out 1))
          clear z0 z1 z2 z3 zf0 zf1 zf2 zf3 y0 y1 yf0 yf1
          have HBC := Aside0.mk (show Below w6.heap.size w6 ((((((w8.setCell ⟨b5, 0, none⟩ (.int .i64 m0)).setCell ⟨b5, 1, none⟩ (.int .i64 m1)).setCell ⟨b5, 2, none⟩ (.int .i64 m2)).setCell ⟨b5, 3, none⟩ (.slice none 0 0)).setCell ⟨b6, 0, none⟩ (.int .i64 g2)).setCell ⟨b6, 1, none⟩ (.slice A5 n5 c5)) from below_put2 (below_put4 HB8.out G5.out) G6.out.1)
          have B59 := Aside0.mk (show ((((((w8.setCell ⟨b5, 0, none⟩ (.int .i64 m0)).setCell ⟨b5, 1, none⟩ (.int .i64 m1)).setCell ⟨b5, 2, none⟩ (.int .i64 m2)).setCell ⟨b5, 3, none⟩ (.slice none 0 0)).setCell ⟨b6, 0, none⟩ (.int .i64 g2)).setCell ⟨b6, 1, none⟩ (.slice A5 n5 c5)).heap[b5]? = some (.cells #[.int .i64 m0, .int .i64 m1, .int .i64 m2, .slice none 0 0] 44 (0, 0)) from box_far2 (box_put4 B58.out) G6.out.2)
          have B69 := Aside0.mk (show ((((((w8.setCell ⟨b5, 0, none⟩ (.int .i64 m0)).setCell ⟨b5, 1, none⟩ (.int .i64 m1)).setCell ⟨b5, 2, none⟩ (.int .i64 m2)).setCell ⟨b5, 3, none⟩ (.slice none 0 0)).setCell ⟨b6, 0, none⟩ (.int .i64 g2)).setCell ⟨b6, 1, none⟩ (.slice A5 n5 c5)).heap[b6]? = some (.cells #[.int .i64 g2, .slice A5 n5 c5] 28 (0, 0)) from box_put2 (box_far4 B6.out G6.out.2.symm))
          clear B58 B6 HB8
          generalize ((((((w8.setCell ⟨b5, 0, none⟩ (.int .i64 m0)).setCell ⟨b5, 1, none⟩ (.int .i64 m1)).setCell ⟨b5, 2, none⟩ (.int .i64 m2)).setCell ⟨b5, 3, none⟩ (.slice none 0 0)).setCell ⟨b6, 0, none⟩ (.int .i64 g2)).setCell ⟨b6, 1, none⟩ (.slice A5 n5 c5)) = w9 at HBC B59 B69 ⊢
          have hb1 := below_drew1 (Below.refl w9.heap.size w9)
          have HBD := Aside0.mk (below_step HBC.out hb1)
          have HT10 := Aside0.mk (HT6.out.below HBD.out)
          have HS10 := Aside0.mk (Kd.S_below (Kd.S_lower (by first | exact HS6.out rfl | exact HS6.out trivial | exact HS6.out) HBW.out) HBD.out)
          have B510 := Aside0.mk (blk_below B59.out hb1)
          have B610 := Aside0.mk (blk_below B69.out hb1)
          have N15 := Aside0.mk (show b5 ≠ b1 ∧ b6 ≠ b1 from by have h1 := blk_lt HT6.out.p; have h3 := G5.out; have h4 := G6.out.1; exact ⟨by omega, by omega⟩)
          have N5 := Aside0.mk (show some b5 ≠ (Value.slice Am moves.length cm).ownBlock from fun he => by obtain ⟨c, hc⟩ := Kd.S_typed HT6.out.v b5 he.symm; have := blk_lt hc; have := G5.out; omega)
          refine start_ (n := 7) (S := fun w' => w'.cell? ⟨b6, 0, none⟩ = some (.int .i64 g2) ∧ w'.cell? ⟨b6, 1, none⟩ = some (.slice A5 n5 c5) ∧ w'.cell? ⟨b5, 0, none⟩ = some (.int .i64 m0) ∧ w'.cell? ⟨b5, 1, none⟩ = some (.int .i64 m1) ∧ w'.cell? ⟨b5, 2, none⟩ = some (.int .i64 m2) ∧ w'.cell? ⟨b5, 3, none⟩ = some (.slice none 0 0)) (ds := []) (kA_ 7 0) (by kernel_rfl) rfl (by kernel_rfl) ⟨(blk_cell B610.out 0).trans rfl, (blk_cell B610.out 1).trans rfl, (blk_cell B510.out 0).trans rfl, (blk_cell B510.out 1).trans rfl, (blk_cell B510.out 2).trans rfl, (blk_cell B510.out 3).trans rfl⟩ (fun hHeld => ?_)
          clear HT6 HS6 HBC HBD B59 B69 hb1 HBW
          generalize w9.drew = w10 at HT10 HS10 B510 B610 hHeld ⊢
          refine kt_ 0 23 (kA_ 7 1) hHeld ?_
          refine kz_ 1 24 (kA_ 7 3) ?_
          refine kt_ 2 25 (kA_ 7 7) hHeld ?_
          refine oa_ 3 26 (kA_ 7 15) (fun K hK => ?_)
          refine value_ (w1 := ?_) (v := ?_) (by rfl) rfl ?_ ?_
          rotate_left 2
          · go_simp
            constructor
            · rfl
            · rfl
          refine hK.out _ _ ⟨(blk_cell (blk_alloc B610.out _) 0).trans rfl, (blk_cell (blk_alloc B610.out _) 1).trans rfl, (blk_cell (blk_alloc B510.out _) 0).trans rfl, (blk_cell (blk_alloc B510.out _) 1).trans rfl, (blk_cell (blk_alloc B510.out _) 2).trans rfl, (blk_cell (blk_alloc B510.out _) 3).trans rfl⟩ (fun hHeld2 => ?_)
          clear hK K hHeld
          refine nm_ 26 ?_
          refine oa_ 4 27 (kA_ 7 31) (fun K hK => ?_)
          refine Kd.S_append_step kmv (w0 := w) w.heap.size (by rfl) (.tmp 24) (.tmp 26) 49 44 (.agg #[.int .i64 0, .int .i64 0, .int .i64 0, .slice none 0 0]) 48 rfl Try.underlying49 info44 rfl (by decide) (by omega) (.slice Am moves.length cm) moves (⟨m0, m1, m2, []⟩ : S44) [.int .i64 m0, .int .i64 m1, .int .i64 m2, .slice none 0 0] (fun _ => True) (fun _ => False) rfl rfl ?aP (fun _ h_ => h_.elim) (fun _ _ => trivial) ?aO ?aB ?aS ?aL ?_
          case aP => exact ⟨rfl, rfl⟩
          case aO => exact Kd.S_mono HT10.out.v (fun _ _ => ⟨trivial, fun h_ => h_⟩)
          case aB => exact HT10.out.b
          case aS => exact HT10.out.b.size
          case aL => have := LM.out; omega
          intro mv2 w11 ho hb hg hat
          have HT11 := Aside0.mk (ST.next (g2 := g2) HD.out HT10.out HS10.out ho hb hg)
          have B511 := Aside0.mk (blk_grown B510.out hg N5.out)
          have B611 := Aside0.mk (blk_grown B610.out hg (Kd.S_ne HT10.out.v B610.out (by decide)))
          have k1 := Aside0.mk (blk_grown HT10.out.p hg (Kd.S_ne HT10.out.v HT10.out.p (by decide)))
          have N1 := Aside0.mk hg
          clear ho hb hg hat HS10 hHeld2 N1 B510 B610
          refine hK.out _ _ ⟨(blk_cell B611.out 0).trans rfl, (blk_cell B611.out 1).trans rfl, (blk_cell B511.out 0).trans rfl, (blk_cell B511.out 1).trans rfl, (blk_cell B511.out 2).trans rfl, (blk_cell B511.out 3).trans rfl⟩ (fun hHeld => ?_)
          clear hK K
          refine nm_ 27 ?_
          refine one_ (i := 5) (N := none) (kA_ 7 63) rfl rfl (by kernel_rfl) (by decide) (fun K hK => ?_)
          have y0 : w11.cell? ⟨b1, 0, none⟩ = some (.int .i64 g) := (blk_cell k1.out 0).trans rfl
          have y1 : w11.cell? ⟨b1, 1, none⟩ = some (.slice Au rows.length cu) := (blk_cell k1.out 1).trans rfl
          have yf0 := blk_frozen k1.out 0
          have yf1 := blk_frozen k1.out 1
          refine skip_ (w1 := ?_) (by rfl) rfl ?_ ?_
          rotate_left
          · go_simp
            rfl
          have B512 := Aside0.mk (show ((w11.setCell ⟨b1, 0, none⟩ (.int .i64 g2)).setCell ⟨b1, 1, none⟩ (.slice A5 n5 c5)).heap[b5]? = _ from box_far2 B511.out N15.out.1)
          have B612 := Aside0.mk (show ((w11.setCell ⟨b1, 0, none⟩ (.int .i64 g2)).setCell ⟨b1, 1, none⟩ (.slice A5 n5 c5)).heap[b6]? = _ from box_far2 B611.out N15.out.2)
          refine hK.out _ _ ⟨(blk_cell B612.out 0).trans rfl, (blk_cell B612.out 1).trans rfl, (blk_cell B512.out 0).trans rfl, (blk_cell B512.out 1).trans rfl, (blk_cell B512.out 2).trans rfl, (blk_cell B512.out 3).trans rfl⟩ (fun hHeld => ?_)
          clear hK K y0 y1 yf0 yf1 k1 B511 B611 HT10
          generalize ((w11.setCell ⟨b1, 0, none⟩ (.int .i64 g2)).setCell ⟨b1, 1, none⟩ (.slice A5 n5 c5)) = w12 at HT11 B512 B612 hHeld ⊢
          refine kz_ 6 4 (kA_ 7 127) ?_
          refine done_ (by kernel_rfl) ?_
          try go_wp2
          go_roundg k1
          case measure => have := HK1.out; omega
          case rel => exact ⟨g2, .slice A5 n5 c5, rows2, moves ++ [⟨m0, m1, m2, m3⟩], H', ⟨by have := HK1.out; omega⟩, by rw [HM3.out]; exact HT11⟩
        · rw [if_neg c12] at H
          obtain rfl := Bool.eq_false_iff.mpr c12
          clear c12
          simp only [Option.some.injEq, Prod.mk.injEq] at H
          obtain ⟨rfl, rfl, rfl⟩ := H
          go_wp2_with (first
            | (go_at_call 105; refine (HSI.out _ (Kd.S_reads' HT.out.s).2.2 (Kd.S_reads' HT.out.s).2.1).mono ?_; rintro e w6 ⟨A5, n5, c5, rfl, hm3, ho, hb⟩; have HM3 := Aside0.mk hm3; have HS6 := Aside0.mk ho; have HT6 := Aside0.mk (HT.out.below hb); have HBW := Aside0.mk HT.out.b.size; clear hb ho hm3 HSI q10 q11 HT)
            | (refine be_ 5 44 #[.int .i64 0, .int .i64 0, .int .i64 0, .slice none 0 0] ?_; intro b5 hg w7 hbox hb; have G5 := Aside0.mk (show w6.heap.size ≤ b5 by rw [hg]; exact Nat.le_refl _); have B5 := Aside0.mk hbox; have HB7 := Aside0.mk hb; clear hg hbox hb; have z0 : w7.cell? ⟨b5, 0, none⟩ = some (.int .i64 0) := (blk_cell B5.out 0).trans rfl; have z1 : w7.cell? ⟨b5, 1, none⟩ = some (.int .i64 0) := (blk_cell B5.out 1).trans rfl; have z2 : w7.cell? ⟨b5, 2, none⟩ = some (.int .i64 0) := (blk_cell B5.out 2).trans rfl; have z3 : w7.cell? ⟨b5, 3, none⟩ = some (.slice none 0 0) := (blk_cell B5.out 3).trans rfl)
            | (refine be_ 6 28 #[.int .i64 0, .slice none 0 0] ?_; intro b6 hg w8 hbox hb; have G6 := Aside0.mk (show w6.heap.size ≤ b6 ∧ b5 ≠ b6 from ⟨by rw [hg]; exact HB7.out.size, by rw [hg]; exact Nat.ne_of_lt (blk_lt B5.out)⟩); have hn56 := G6.out.2; have hn65 := G6.out.2.symm; have B58 := Aside0.mk (blk_below B5.out hb); have B6 := Aside0.mk hbox; have HB8 := Aside0.mk (below_step HB7.out hb); clear hg hbox hb z0 z1 z2 z3 B5 HB7; have z0 : w8.cell? ⟨b5, 0, none⟩ = some (.int .i64 0) := (blk_cell B58.out 0).trans rfl; have zf0 := blk_frozen B58.out 0; have z1 : w8.cell? ⟨b5, 1, none⟩ = some (.int .i64 0) := (blk_cell B58.out 1).trans rfl; have zf1 := blk_frozen B58.out 1; have z2 : w8.cell? ⟨b5, 2, none⟩ = some (.int .i64 0) := (blk_cell B58.out 2).trans rfl; have zf2 := blk_frozen B58.out 2; have z3 : w8.cell? ⟨b5, 3, none⟩ = some (.slice none 0 0) := (blk_cell B58.out 3).trans rfl; have zf3 := blk_frozen B58.out 3; have y0 : w8.cell? ⟨b6, 0, none⟩ = some (.int .i64 0) := (blk_cell B6.out 0).trans rfl; have yf0 := blk_frozen B6.out 0; have y1 : w8.cell? ⟨b6, 1, none⟩ = some (.slice none 0 0) := (blk_cell B6.out 1).trans rfl; have yf1 := blk_frozen B6.out 1; have HBC := Aside0.mk (show Below w6.heap.size w6 ((((((w8.setCell ⟨b5, 0, none⟩ (.int .i64 m0)).setCell ⟨b5, 1, none⟩ (.int .i64 m1)).setCell ⟨b5, 2, none⟩ (.int .i64 m2)).setCell ⟨b5, 3, none⟩ (.slice none 0 0)).setCell ⟨b6, 0, none⟩ (.int .i64 g2)).setCell ⟨b6, 1, none⟩ (.slice A5 n5 c5)) from below_put2 (below_put4 HB8.out G5.out) G6.out.1); have HT9 := Aside0.mk (HT6.out.below HBC.out); have n1 := Aside0.mk (show b1 ≠ b5 ∧ b1 ≠ b6 ∧ b2 ≠ b5 ∧ b2 ≠ b6 from by have h1 := blk_lt HT6.out.p; have h2 := blk_lt HT6.out.z; have h3 := G5.out; have h4 := G6.out.1; exact ⟨by omega, by omega, by omega, by omega⟩); obtain ⟨n11, n12, n13, n14⟩ := n1.out; have n11s := n11.symm; have n12s := n12.symm; have n13s := n13.symm; have n14s := n14.symm; have B18 := Aside0.mk (HT6.out.below HB8.out); have x0 : w8.cell? ⟨b1, 0, none⟩ = some (.int .i64 g) := (blk_cell B18.out.p 0).trans rfl; have x1 : w8.cell? ⟨b1, 1, none⟩ = some (.slice Au rows.length cu) := (blk_cell B18.out.p 1).trans rfl; have x2 : w8.cell? ⟨b2, 0, none⟩ = some (.int .i64 0) := (blk_cell B18.out.z 0).trans rfl; have x3 : w8.cell? ⟨b2, 1, none⟩ = some (.slice none 0 0) := (blk_cell B18.out.z 1).trans rfl; have xf0 := blk_frozen B18.out.z 0; have xf1 := blk_frozen B18.out.z 1))
          obtain ⟨e1, e2, e3⟩ := HT9.out.answer HD.out (x0 := .int .i64 g) (x1 := .slice Au rows.length cu)
          refine bodyPost_ret (results_ct rfl _ _ b2 28 #[.int .i64 g, .slice Au rows.length cu] (0, 0) _ rfl e1 Try.underlying28 rfl (by kernel_rfl)) rfl ?_
          exact ⟨_, _, by first | rfl | trivial, e2, e3⟩
      · rw [if_neg c10] at H
        have c10b0 : decide ((moves.length : Int) < 200) = false := decide_eq_false c10
        have c10b1 : decide (moves.length < 200) = false := decide_eq_false (by omega)
        clear c10
        simp only [Option.some.injEq, Prod.mk.injEq] at H
        obtain ⟨rfl, rfl, rfl⟩ := H
        have hn12 := HD.out.1
        have hn21 := HD.out.1.symm
        have y0 : wr.cell? ⟨b2, 0, none⟩ = some (.int .i64 0) := (blk_cell HT.out.z 0).trans rfl
        have y1 : wr.cell? ⟨b2, 1, none⟩ = some (.slice none 0 0) := (blk_cell HT.out.z 1).trans rfl
        have yf0 := blk_frozen HT.out.z 0
        have yf1 := blk_frozen HT.out.z 1
        go_wp2
        obtain ⟨e1, e2, e3⟩ := HT.out.answer HD.out (x0 := .int .i64 g) (x1 := .slice Au rows.length cu)
        refine bodyPost_ret (results_ct rfl _ _ b2 28 #[.int .i64 g, .slice Au rows.length cu] (0, 0) _ rfl e1 Try.underlying28 rfl (by kernel_rfl)) rfl ?_
        exact ⟨_, _, by first | rfl | trivial, e2, e3⟩

/-! ### impl_SimplifyPresentation: function 29 -/
def impl_SimplifyPresentation.f (k : Nat) (a0_0 : Int) (l0_1 : List (List Int)) : Option (Int × (List (List Int)) × (List (S44)) × Int) := (impl_isPresentation.f k a0_0 l0_1).bind fun t380 => (if t380 = true then ((impl_simplified.f k a0_0 l0_1).bind fun bt381 => (some (bt381.1, bt381.2.1, bt381.2.2, 0))) else (some (0, ([] : List (List Int)), ([] : List (S44)), 1)))
theorem impl_SimplifyPresentation.run (k : Nat) (a0_0 : Int) (A0_1 : Option Addr) (c0_1 : Nat) (l0_1 : List (List Int)) (r1 : Int) (r2 : List (List Int)) (r3 : List S44) (r4 : Int) (w : World) (hr0_1 : Kd.C (Kd.slice 2 (Kd.int .i64)) w A0_1 l0_1.length l0_1) (hc0_1 : l0_1.length ≤ c0_1) (h : impl_SimplifyPresentation.f k a0_0 l0_1 = some (r1, r2, r3, r4)) :
    Calls Try.prog 29 #[.agg #[.int .i64 a0_0, .slice A0_1 l0_1.length c0_1]] w fun e w' => ∃ v1_ v2_ : Value, e = .returned (.tuple #[.agg #[.int .i64 r1, v1_], v2_, .int .i64 r4]) ∧ Kd.S (Kd.slice 2 (Kd.int .i64)) 39 w' w.heap.size (fun _ => True) v1_ r2 ∧ Kd.S kmv 44 w' w.heap.size (fun _ => True) v2_ r3 ∧ Below w.heap.size w w' := by
  unfold impl_SimplifyPresentation.f at h
  obtain ⟨t380, hpr, h⟩ := Option.bind_eq_some_iff.mp h
  have HR0 := Aside0.mk hr0_1
  have HC0 := Aside0.mk hc0_1
  have HPR := Aside0.mk fun (W : World) (hW : Below w.heap.size w W) => impl_isPresentation.calls k a0_0 A0_1 c0_1 l0_1 t380 W (Kd.C_below HR0.out hW) HC0.out hpr
  clear hr0_1 hc0_1 hpr
  by_cases c3 : t380 = true
  · subst c3
    rw [if_pos rfl] at h
    obtain ⟨⟨g, rows, moves⟩, hsi, h⟩ := Option.bind_eq_some_iff.mp h
    simp only [Option.some.injEq, Prod.mk.injEq] at h
    obtain ⟨rfl, rfl, rfl, rfl⟩ := h
    have HSI := Aside0.mk fun (W : World) (hW : Below w.heap.size w W) => impl_simplified.run k a0_0 A0_1 c0_1 l0_1 g rows moves W (Kd.C_below HR0.out hW) HC0.out hsi
    clear hsi
    go_enter Try.func29, Try.ntmps29
    go_wp2_with (first
      | (refine be_ 1 28 #[.int .i64 a0_0, .slice A0_1 l0_1.length c0_1] ?_; intro b1 hg w2 hbox hb; have B1 := Aside0.mk hbox; have HB2 := Aside0.mk hb; clear hg hbox hb)
      | (refine be_ 2 28 #[.int .i64 0, .slice none 0 0] ?_; intro b2 hg w3 hbox hb; have B13 := Aside0.mk (blk_below B1.out hb); have B2 := Aside0.mk hbox; have G2 := Aside0.mk (show w.heap.size ≤ b2 from by rw [hg]; exact HB2.out.size); have N12 := Aside0.mk (show b1 ≠ b2 from by rw [hg]; exact Nat.ne_of_lt (blk_lt B1.out)); have HB3 := Aside0.mk (below_step HB2.out hb); clear hg hbox hb B1 HB2; have q10 : w3.cell? ⟨b1, 0, none⟩ = some (.int .i64 a0_0) := (blk_cell B13.out 0).trans rfl; have q11 : w3.cell? ⟨b1, 1, none⟩ = some (.slice A0_1 l0_1.length c0_1) := (blk_cell B13.out 1).trans rfl)
      | (go_at_call 59; refine (HPR.out _ HB3.out).mono ?_; rintro e w4 ⟨rfl, hb⟩; have B14 := Aside0.mk (blk_below B13.out hb); have B24 := Aside0.mk (blk_below B2.out hb); have HB4 := Aside0.mk (below_step HB3.out hb); clear hb q10 q11 B13 B2 HB3 HPR; have q10 : w4.cell? ⟨b1, 0, none⟩ = some (.int .i64 a0_0) := (blk_cell B14.out 0).trans rfl; have q11 : w4.cell? ⟨b1, 1, none⟩ = some (.slice A0_1 l0_1.length c0_1) := (blk_cell B14.out 1).trans rfl; skip)
      | (go_at_call 70; refine (HSI.out _ HB4.out).mono ?_; rintro e w5 ⟨v1, v2, rfl, ho1, ho2, hb⟩; obtain ⟨Au, cu, eu⟩ := Kd.S_slice ho1; subst eu; obtain ⟨Am, cm, em⟩ := Kd.S_slice ho2; subst em; have HS5 := Aside0.mk (Kd.S_lower ho1 HB4.out.size); have HM5 := Aside0.mk (Kd.S_lower ho2 HB4.out.size); have B25 := Aside0.mk (blk_below B24.out hb); have HB5 := Aside0.mk (below_step HB4.out hb); clear ho1 ho2 hb q10 q11 B14 B24 HB4 HSI)
      | (refine be_ 5 28 #[.int .i64 0, .slice none 0 0] ?_; intro b5 hg w6 hbox hb; have G5 := Aside0.mk (show w.heap.size ≤ b5 from by rw [hg]; exact HB5.out.size); have N25 := Aside0.mk (show b2 ≠ b5 from by rw [hg]; exact Nat.ne_of_lt (blk_lt B25.out)); have hn25 := N25.out; have hn52 := N25.out.symm; have B26 := Aside0.mk (blk_below B25.out hb); have B56 := Aside0.mk hbox; have HS6 := Aside0.mk (Kd.S_below HS5.out hb); have HM6 := Aside0.mk (Kd.S_below HM5.out hb); have HB6 := Aside0.mk (below_step HB5.out hb); clear hg hbox hb B25 HS5 HM5 HB5; have z0 : w6.cell? ⟨b5, 0, none⟩ = some (.int .i64 0) := (blk_cell B56.out 0).trans rfl; have zf0 := blk_frozen B56.out 0; have z1 : w6.cell? ⟨b5, 1, none⟩ = some (.slice none 0 0) := (blk_cell B56.out 1).trans rfl; have zf1 := blk_frozen B56.out 1; have y0 : w6.cell? ⟨b2, 0, none⟩ = some (.int .i64 0) := (blk_cell B26.out 0).trans rfl; have yf0 := blk_frozen B26.out 0; have y1 : w6.cell? ⟨b2, 1, none⟩ = some (.slice none 0 0) := (blk_cell B26.out 1).trans rfl; have yf1 := blk_frozen B26.out 1))
    have e1 : ((((w6.setCell ⟨b5, 0, none⟩ (.int .i64 g)).setCell ⟨b5, 1, none⟩ (.slice Au rows.length cu)).setCell ⟨b2, 0, none⟩ (.int .i64 g)).setCell ⟨b2, 1, none⟩ (.slice Au rows.length cu)).heap[b2]? = some (.cells #[.int .i64 g, .slice Au rows.length cu] 28 (0, 0)) := box_put2 (box_far2 B26.out N25.out)
    have e2 : Kd.S (Kd.slice 2 (Kd.int .i64)) 39 ((((w6.setCell ⟨b5, 0, none⟩ (.int .i64 g)).setCell ⟨b5, 1, none⟩ (.slice Au rows.length cu)).setCell ⟨b2, 0, none⟩ (.int .i64 g)).setCell ⟨b2, 1, none⟩ (.slice Au rows.length cu)) w.heap.size (fun _ => True) (.slice Au rows.length cu) rows := S_put2 (S_put2 HS6.out B56.out) (box_far2 B26.out N25.out)
    have e3 : Kd.S kmv 44 ((((w6.setCell ⟨b5, 0, none⟩ (.int .i64 g)).setCell ⟨b5, 1, none⟩ (.slice Au rows.length cu)).setCell ⟨b2, 0, none⟩ (.int .i64 g)).setCell ⟨b2, 1, none⟩ (.slice Au rows.length cu)) w.heap.size (fun _ => True) (.slice Am moves.length cm) moves := Kd.S_set (Kd.S_set (Kd.S_set (Kd.S_set HM6.out B56.out (by decide) 0 _) (blk_put B56.out 0 _ rfl) (by decide) 1 _) (box_far2 B26.out N25.out) (by decide) 0 _) (blk_put (box_far2 B26.out N25.out) 0 _ rfl) (by decide) 1 _
    have e4 : Below w.heap.size w ((((w6.setCell ⟨b5, 0, none⟩ (.int .i64 g)).setCell ⟨b5, 1, none⟩ (.slice Au rows.length cu)).setCell ⟨b2, 0, none⟩ (.int .i64 g)).setCell ⟨b2, 1, none⟩ (.slice Au rows.length cu)) := below_put2 (below_put2 HB6.out G5.out) G2.out
    refine bodyPost_ret (results_list (rs := [.cell 2 28, .tmp 3, .tmp 4]) rfl (by simp) (.cell b2 28 #[.int .i64 g, .slice Au rows.length cu] (0, 0) _ rfl e1 Try.underlying28 rfl (by kernel_rfl) (.tmp (.tmp .nil)))) rfl ?_
    exact ⟨_, _, by first | rfl | trivial, e2, e3, e4⟩
  · rw [if_neg c3] at h
    obtain rfl := Bool.eq_false_iff.mpr c3
    clear c3
    simp only [Option.some.injEq, Prod.mk.injEq] at h
    obtain ⟨rfl, rfl, rfl, rfl⟩ := h
    go_enter Try.func29, Try.ntmps29
    go_wp2_with (first
      | (refine be_ 1 28 #[.int .i64 a0_0, .slice A0_1 l0_1.length c0_1] ?_; intro b1 hg w2 hbox hb; have B1 := Aside0.mk hbox; have HB2 := Aside0.mk hb; clear hg hbox hb)
      | (refine be_ 2 28 #[.int .i64 0, .slice none 0 0] ?_; intro b2 hg w3 hbox hb; have B13 := Aside0.mk (blk_below B1.out hb); have B2 := Aside0.mk hbox; have G2 := Aside0.mk (show w.heap.size ≤ b2 from by rw [hg]; exact HB2.out.size); have N12 := Aside0.mk (show b1 ≠ b2 from by rw [hg]; exact Nat.ne_of_lt (blk_lt B1.out)); have HB3 := Aside0.mk (below_step HB2.out hb); clear hg hbox hb B1 HB2; have q10 : w3.cell? ⟨b1, 0, none⟩ = some (.int .i64 a0_0) := (blk_cell B13.out 0).trans rfl; have q11 : w3.cell? ⟨b1, 1, none⟩ = some (.slice A0_1 l0_1.length c0_1) := (blk_cell B13.out 1).trans rfl)
      | (go_at_call 59; refine (HPR.out _ HB3.out).mono ?_; rintro e w4 ⟨rfl, hb⟩; have B14 := Aside0.mk (blk_below B13.out hb); have B24 := Aside0.mk (blk_below B2.out hb); have HB4 := Aside0.mk (below_step HB3.out hb); clear hb q10 q11 B13 B2 HB3 HPR; have q10 : w4.cell? ⟨b1, 0, none⟩ = some (.int .i64 a0_0) := (blk_cell B14.out 0).trans rfl; have q11 : w4.cell? ⟨b1, 1, none⟩ = some (.slice A0_1 l0_1.length c0_1) := (blk_cell B14.out 1).trans rfl; have y0 : w4.cell? ⟨b2, 0, none⟩ = some (.int .i64 0) := (blk_cell B24.out 0).trans rfl; have yf0 := blk_frozen B24.out 0; have y1 : w4.cell? ⟨b2, 1, none⟩ = some (.slice none 0 0) := (blk_cell B24.out 1).trans rfl; have yf1 := blk_frozen B24.out 1))
    have e1 : ((w4.setCell ⟨b2, 0, none⟩ (.int .i64 0)).setCell ⟨b2, 1, none⟩ (.slice none 0 0)).heap[b2]? = some (.cells #[.int .i64 0, .slice none 0 0] 28 (0, 0)) := box_put2 B24.out
    have e2 : Kd.S (Kd.slice 2 (Kd.int .i64)) 39 ((w4.setCell ⟨b2, 0, none⟩ (.int .i64 0)).setCell ⟨b2, 1, none⟩ (.slice none 0 0)) w.heap.size (fun _ => True) (.slice none 0 0) [] := Kd.S_nil _ _ _ _ _
    have e3 : Kd.S kmv 44 ((w4.setCell ⟨b2, 0, none⟩ (.int .i64 0)).setCell ⟨b2, 1, none⟩ (.slice none 0 0)) w.heap.size (fun _ => True) (.slice none 0 0) [] := Kd.S_nil _ _ _ _ _
    have e4 : Below w.heap.size w ((w4.setCell ⟨b2, 0, none⟩ (.int .i64 0)).setCell ⟨b2, 1, none⟩ (.slice none 0 0)) := below_put2 HB4.out G2.out
    refine bodyPost_ret (results_list (rs := [.cell 2 28, .tmp 3, .tmp 4]) rfl (by simp) (.cell b2 28 #[.int .i64 0, .slice none 0 0] (0, 0) _ rfl e1 Try.underlying28 rfl (by kernel_rfl) (.tmp (.tmp .nil)))) rfl ?_
    exact ⟨_, _, by first | rfl | trivial, e2, e3, e4⟩

theorem impl_SimplifyPresentation.calls (k : Nat) (a0_0 : Int) (A0_1 : Option Addr) (c0_1 : Nat) (l0_1 : List (List Int)) (r1 : Int) (r2 : List (List Int)) (r3 : List (S44)) (r4 : Int) (w : World) (hr0_1 : Kd.C (Kd.slice 2 (Kd.int .i64)) w A0_1 l0_1.length l0_1) (hc0_1 : l0_1.length ≤ c0_1) (h : impl_SimplifyPresentation.f k a0_0 l0_1 = some (r1, r2, r3, r4)) :
    Calls Try.prog 29 #[.agg #[.int .i64 a0_0, .slice A0_1 l0_1.length c0_1]] w fun e w' => ∃ v1_ v2_ : Value, e = .returned (.tuple #[.agg #[.int .i64 r1, v1_], v2_, .int .i64 r4]) ∧ Kd.V (Kd.slice 2 (Kd.int .i64)) 39 w' w.heap.size (fun k_ => (w.heap.size ≤ k_) ∧ some k_ ≠ (v2_ : Value).ownBlock) v1_ r2 ∧ Kd.N k44 44 w' w.heap.size (fun k_ => (w.heap.size ≤ k_)) v2_ r3 ∧ Below w.heap.size w w' := by
 refine (impl_SimplifyPresentation.run k a0_0 A0_1 c0_1 l0_1 r1 r2 r3 r4 w hr0_1 hc0_1 h).mono ?_
 rintro e w' ⟨v1_, v2_, rfl, h1, h2, hb⟩
 exact ⟨v1_, v2_, rfl, Kd.S_V (Kd.S_mono (Kd.S_bound (Kd.S_apart' h1 (Kd.S_typed h2) (by decide))) (fun k_ hk => ⟨hk.2.1, hk.1.2⟩)), kmv_N (Kd.S_N (Kd.S_mono (Kd.S_bound h2) (fun k_ hk => hk.2.1))), hb⟩

/-! ### laws_big: function 33 -/
def laws_big.f (l0 : List Int) : Option (Bool) := some (decide ((l0.length : Int) > 4096))
theorem laws_big.calls (A0 : Option Addr) (c0 : Nat) (l0 : List Int) (r : Bool) (w : World) (hr0 : Kd.C (Kd.int .u8) w A0 l0.length l0) (hc0 : l0.length ≤ c0) (h : laws_big.f l0 = some r) :
    Calls Try.prog 33 #[.slice A0 l0.length c0] w fun e w' => e = .returned (.bool r) ∧ Drawn0 w w' := by
  have HR0 := Aside0.mk hr0
  have HC0 := Aside0.mk hc0
  clear hr0 hc0
  have H : (some (decide ((l0.length : Int) > 4096))) = some r := h
  clear h
  obtain rfl := Option.some.inj H
  go_enter Try.func33, Try.ntmps33
  go_wp2
  go_ret
  exact ⟨by first | rfl | (simp; done) | (simp [*]; done), by repeat (first | exact Drawn0.refl _ | apply Drawn0.step)⟩

/-- A state of type 103 at block g of W; what its slices lead to came in by w0. -/
def IsS103 (w0 W : World) (g : Nat) (f0 : List Int) (f1 : Int) (f2 : Int) : Prop := ∃ A0 c0, W.heap[g]? = some (.cells #[.slice A0 f0.length c0, .int .i64 f1, .int .i64 f2] 103 (0, 0)) ∧ w0.heap.size ≤ g ∧ Kd.C (Kd.int .u8) w0 A0 f0.length f0
theorem IsS103.grown {w0 W : World} {g : Nat} {f0 : List Int} {f1 : Int} {f2 : Int} {W1 : World} {row : Option Nat} (h : IsS103 w0 W g f0 f1 f2) (hw : W.grownBy W1 row) (hne : some g ≠ row) : IsS103 w0 W1 g f0 f1 f2 := by
 obtain ⟨A0, c0, hb, hg, hr0⟩ := h
 exact ⟨A0, c0, blk_grown hb hw hne, hg, hr0⟩
theorem IsS103.kept {w0 W : World} {g : Nat} {f0 : List Int} {f1 : Int} {f2 : Int} {W1 : World} {S : Nat → Prop} (h : IsS103 w0 W g f0 f1 f2) (hk : Kept W W1 S) (hne : ¬ S g) : IsS103 w0 W1 g f0 f1 f2 := by
 obtain ⟨A0, c0, hb, hg, hr0⟩ := h
 exact ⟨A0, c0, blk_kept hb hk hne, hg, hr0⟩
theorem IsS103.below {w0 W : World} {g : Nat} {f0 : List Int} {f1 : Int} {f2 : Int} {W1 : World} (h : IsS103 w0 W g f0 f1 f2) (hw : Below W.heap.size W W1) : IsS103 w0 W1 g f0 f1 f2 := h.grown (grown_of_below hw none) (by simp)
theorem IsS103.alloc {w0 W : World} {g : Nat} {f0 : List Int} {f1 : Int} {f2 : Int} (h : IsS103 w0 W g f0 f1 f2) (o : Obj) : IsS103 w0 (W.alloc o) g f0 f1 f2 := h.below (below_alloc (Below.refl _ _) o)
theorem IsS103.drewN {w0 W : World} {g : Nat} {f0 : List Int} {f1 : Int} {f2 : Int} (h : IsS103 w0 W g f0 f1 f2) (m : Nat) : IsS103 w0 (W.drewN m) g f0 f1 f2 := h
theorem IsS103.drew {w0 W : World} {g : Nat} {f0 : List Int} {f1 : Int} {f2 : Int} (h : IsS103 w0 W g f0 f1 f2) : IsS103 w0 W.drew g f0 f1 f2 := h
theorem IsS103.at_ {w0 W : World} {g : Nat} {f0 : List Int} {f1 : Int} {f2 : Int} {w' : World} {m : Nat} (hq : W.drewN m = w') (h : IsS103 w0 W g f0 f1 f2) : IsS103 w0 w' g f0 f1 f2 := by subst hq; exact IsS103.drewN h m
theorem IsS103.apart {w0 W : World} {g : Nat} {f0 : List Int} {f1 : Int} {f2 : Int} {α : Type} {d : Kd α} {e : Nat} {base : Nat} {ok : Nat → Prop} {v : Value} {xs : List α} (h : IsS103 w0 W g f0 f1 f2) (ho : d.R e W base ok v xs) (ht : ∀ q, q ∈ e :: d.E → q ≠ 103) : d.R e W base (fun k => ok k ∧ k ≠ g) v xs := by
 obtain ⟨A0, c0, hb, hg, hr0⟩ := h
 exact Kd.R_types ho hb ht
theorem IsS103.own_ne {w0 W : World} {g : Nat} {f0 : List Int} {f1 : Int} {f2 : Int} {α : Type} {d : Kd α} {e : Nat} {base : Nat} {ok : Nat → Prop} {v : Value} {xs : List α} (h : IsS103 w0 W g f0 f1 f2) (ho : d.R e W base ok v xs) (ht : e ≠ 103) : some g ≠ v.ownBlock := by
 obtain ⟨A0, c0, hb, hg, hr0⟩ := h
 exact Kd.R_ne ho hb ht
theorem IsS103.apartS {w0 W : World} {g : Nat} {f0 : List Int} {f1 : Int} {f2 : Int} {α : Type} {d : Kd α} {e : Nat} {base : Nat} {ok : Nat → Prop} {v : Value} {xs : List α} (h : IsS103 w0 W g f0 f1 f2) (ho : d.S e W base ok v xs) (ht : ∀ q, q ∈ e :: d.E → q ≠ 103) : d.S e W base (fun k => ok k ∧ k ≠ g) v xs := by
 obtain ⟨A0, c0, hb, hg, hr0⟩ := h
 exact Kd.S_types ho hb ht
theorem IsS103.own_neS {w0 W : World} {g : Nat} {f0 : List Int} {f1 : Int} {f2 : Int} {α : Type} {d : Kd α} {e : Nat} {base : Nat} {ok : Nat → Prop} {v : Value} {xs : List α} (h : IsS103 w0 W g f0 f1 f2) (ho : d.S e W base ok v xs) (ht : e ≠ 103) : some g ≠ v.ownBlock := by
 obtain ⟨A0, c0, hb, hg, hr0⟩ := h
 exact Kd.S_ne ho hb ht
theorem IsS103.lt {w0 W : World} {g : Nat} {f0 : List Int} {f1 : Int} {f2 : Int} (h : IsS103 w0 W g f0 f1 f2) : g < W.heap.size := by
 obtain ⟨A0, c0, hb, hg, hr0⟩ := h
 exact blk_lt hb
theorem IsS103.ge {w0 W : World} {g : Nat} {f0 : List Int} {f1 : Int} {f2 : Int} (h : IsS103 w0 W g f0 f1 f2) : w0.heap.size ≤ g := by
 obtain ⟨A0, c0, hb, hg, hr0⟩ := h
 exact hg
theorem IsS103.ne_blk {w0 W : World} {g : Nat} {f0 : List Int} {f1 : Int} {f2 : Int} {a : Nat} {cs : Array Value} {t : TypeId} {fr : Nat × Nat} (h : IsS103 w0 W g f0 f1 f2) (hb2 : W.heap[a]? = some (.cells cs t fr)) (ht : t ≠ 103) : g ≠ a := by
 obtain ⟨A0, c0, hb, hg, hr0⟩ := h
 rintro rfl
 rw [hb] at hb2
 injection hb2 with hb2
 injection hb2 with _ ht2
 exact ht ht2.symm
theorem IsS103.far {w0 W : World} {g : Nat} {f0 : List Int} {f1 : Int} {f2 : Int} {p : Addr} (h : IsS103 w0 W g f0 f1 f2) (hne : g ≠ p.block) (u : Value) : IsS103 w0 (W.setCell p u) g f0 f1 f2 := by
 obtain ⟨A0, c0, hb, hg, hr0⟩ := h
 exact ⟨A0, c0, blk_far hb hne u, hg, hr0⟩
theorem cellS103_0 {W : World} {g : Nat} {A0 : Option Addr} {c0 : Nat} {f0 : List Int} {f1 : Int} {f2 : Int} (h : W.heap[g]? = some (.cells #[.slice A0 f0.length c0, .int .i64 f1, .int .i64 f2] 103 (0, 0))) : W.cell? ⟨g, 0, none⟩ = some (.slice A0 f0.length c0) := (blk_cell h 0).trans rfl
theorem cellS103_1 {W : World} {g : Nat} {A0 : Option Addr} {c0 : Nat} {f0 : List Int} {f1 : Int} {f2 : Int} (h : W.heap[g]? = some (.cells #[.slice A0 f0.length c0, .int .i64 f1, .int .i64 f2] 103 (0, 0))) : W.cell? ⟨g, 1, none⟩ = some (.int .i64 f1) := (blk_cell h 1).trans rfl
theorem IsS103.set_1 {w0 W : World} {g : Nat} {f0 : List Int} {f1 : Int} {f2 : Int} (h : IsS103 w0 W g f0 f1 f2) (x : Int) : IsS103 w0 (W.setCell ⟨g, 1, none⟩ (.int .i64 x)) g f0 x f2 := by
 obtain ⟨A0, c0, hb, hg, hr0⟩ := h
 exact ⟨A0, c0, by simpa using blk_set hb 1 (.int .i64 x), hg, hr0⟩
theorem cellS103_2 {W : World} {g : Nat} {A0 : Option Addr} {c0 : Nat} {f0 : List Int} {f1 : Int} {f2 : Int} (h : W.heap[g]? = some (.cells #[.slice A0 f0.length c0, .int .i64 f1, .int .i64 f2] 103 (0, 0))) : W.cell? ⟨g, 2, none⟩ = some (.int .i64 f2) := (blk_cell h 2).trans rfl
theorem IsS103.set_2 {w0 W : World} {g : Nat} {f0 : List Int} {f1 : Int} {f2 : Int} (h : IsS103 w0 W g f0 f1 f2) (x : Int) : IsS103 w0 (W.setCell ⟨g, 2, none⟩ (.int .i64 x)) g f0 f1 x := by
 obtain ⟨A0, c0, hb, hg, hr0⟩ := h
 exact ⟨A0, c0, by simpa using blk_set hb 2 (.int .i64 x), hg, hr0⟩
theorem IsS103.new (w0 W : World) (A0 : Option Addr) (c0 : Nat) (f0 : List Int) (f1 : Int) (f2 : Int) (hB : Below w0.heap.size w0 W) (hr0 : Kd.C (Kd.int .u8) w0 A0 f0.length f0) : IsS103 w0 (W.alloc (.cells #[.slice A0 f0.length c0, .int .i64 f1, .int .i64 f2] 103)) W.heap.size f0 f1 f2 := ⟨A0, c0, by simpa using heap_alloc_new W _, hB.size, hr0⟩

theorem is103_ {w0 W W' : World} {g : Nat} {f0 : List Int} {f1 : Int} {f2 : Int} {e0 : List Int} {e1 : Int} {e2 : Int} (h : Aside0 (IsS103 w0 W g f0 f1 f2)) (t : IsS103 w0 W g f0 f1 f2 → IsS103 w0 W' g e0 e1 e2 := by intro h; repeat (first | (with_reducible first | exact h | apply IsS103.alloc | apply IsS103.drewN | apply IsS103.drew | apply IsS103.set_1 | apply IsS103.set_2) | refine IsS103.far ?_ (Aside0.out (by assumption)) _ | exact h)) : IsS103 w0 W' g e0 e1 e2 := t h.out
theorem bi103_ {P Q : Prop} (h : Q) (t : Q → P := by intro h; repeat (first | (with_reducible first | exact h | apply below_alloc | apply pw_below_drewN | apply below_drew1 | refine below_set ?_ (Aside0.out (by assumption)) | refine below_set ?_ (IsS103.ge (Aside0.out (by assumption)))) | exact h)) : P := t h

/-! ### spec_l01Next: function 107 -/
def spec_l01Next.f (s0_0 : List Int) (s0_1 : Int) (s0_2 : Int) (a1 : Int) : Option (Int × Int × Int) := if a1 ≤ 1 then (some (0, s0_1, s0_2)) else (if s0_1 < (s0_0.length : Int) then (if 0 ≤ s0_1 then (if a1 ≤ 256 then (if (Int.tmod (wrap64 (s0_1 + 1)) 2) = 0 then (if 0 ≤ (wrap64 ((wrap64 (s0_1 + 1)) - 1)) then (if (wrap64 ((wrap64 (s0_1 + 1)) - 1)) < (s0_0.length : Int) then (if a1 = 0 then (none) else (some (Int.tmod (wrap64 (rd s0_0 (wrap64 ((wrap64 (s0_1 + 1)) - 1)))) a1, wrap64 (s0_1 + 1), Int.tmod (wrap64 ((wrap64 (s0_2 * 48271)) + 11)) 2147483647))) else (none)) else (none)) else (if a1 = 0 then (none) else (some (Int.tmod (wrap64 ((wrap64 (Int.tdiv (Int.tmod (wrap64 ((wrap64 (s0_2 * 48271)) + 11)) 2147483647) 11)) + (wrap64 (rd s0_0 s0_1)))) a1, wrap64 (s0_1 + 1), Int.tmod (wrap64 ((wrap64 (s0_2 * 48271)) + 11)) 2147483647)))) else (if a1 = 0 then (none) else (some (Int.tmod (wrap64 ((wrap64 (Int.tdiv (Int.tmod (wrap64 ((wrap64 (s0_2 * 48271)) + 11)) 2147483647) 11)) + (wrap64 (rd s0_0 s0_1)))) a1, wrap64 (s0_1 + 1), Int.tmod (wrap64 ((wrap64 (s0_2 * 48271)) + 11)) 2147483647)))) else (none)) else (if a1 = 0 then (none) else (some (Int.tmod (wrap64 (Int.tdiv (Int.tmod (wrap64 ((wrap64 (s0_2 * 48271)) + 11)) 2147483647) 11)) a1, s0_1, Int.tmod (wrap64 ((wrap64 (s0_2 * 48271)) + 11)) 2147483647))))
theorem spec_l01Next.calls (g : Nat) (s0_0 : List Int) (s0_1 : Int) (s0_2 : Int) (a1 : Int) (r1 : Int) (r2 : Int) (r3 : Int) (w0 w : World) (hI : IsS103 w0 w g s0_0 s0_1 s0_2) (hB : Below w0.heap.size w0 w) (h : spec_l01Next.f s0_0 s0_1 s0_2 a1 = some (r1, r2, r3)) :
  Calls Try.prog 107 #[.pointer (some ⟨g, 0, none⟩), .int .i64 a1] w fun e w' => e = .returned (.int .i64 r1) ∧ IsS103 w0 w' g s0_0 r2 r3 ∧ Below w0.heap.size w0 w' ∧ KeepBut w w' g none := by
 have HI0 := am_ hI
 have HK := am_ (KeepBut.refl w g none)
 have HL := am_ hB.size
 clear hI
 have HW0 := am_ hB.size
 have HB := am_ hB
 clear hB
 have H : (if a1 ≤ 1 then (some (0, s0_1, s0_2)) else (if s0_1 < (s0_0.length : Int) then (if 0 ≤ s0_1 then (if a1 ≤ 256 then (if (Int.tmod (wrap64 (s0_1 + 1)) 2) = 0 then (if 0 ≤ (wrap64 ((wrap64 (s0_1 + 1)) - 1)) then (if (wrap64 ((wrap64 (s0_1 + 1)) - 1)) < (s0_0.length : Int) then (if a1 = 0 then (none) else (some (Int.tmod (wrap64 (rd s0_0 (wrap64 ((wrap64 (s0_1 + 1)) - 1)))) a1, wrap64 (s0_1 + 1), Int.tmod (wrap64 ((wrap64 (s0_2 * 48271)) + 11)) 2147483647))) else (none)) else (none)) else (if a1 = 0 then (none) else (some (Int.tmod (wrap64 ((wrap64 (Int.tdiv (Int.tmod (wrap64 ((wrap64 (s0_2 * 48271)) + 11)) 2147483647) 11)) + (wrap64 (rd s0_0 s0_1)))) a1, wrap64 (s0_1 + 1), Int.tmod (wrap64 ((wrap64 (s0_2 * 48271)) + 11)) 2147483647)))) else (if a1 = 0 then (none) else (some (Int.tmod (wrap64 ((wrap64 (Int.tdiv (Int.tmod (wrap64 ((wrap64 (s0_2 * 48271)) + 11)) 2147483647) 11)) + (wrap64 (rd s0_0 s0_1)))) a1, wrap64 (s0_1 + 1), Int.tmod (wrap64 ((wrap64 (s0_2 * 48271)) + 11)) 2147483647)))) else (none)) else (if a1 = 0 then (none) else (some (Int.tmod (wrap64 (Int.tdiv (Int.tmod (wrap64 ((wrap64 (s0_2 * 48271)) + 11)) 2147483647) 11)) a1, s0_1, Int.tmod (wrap64 ((wrap64 (s0_2 * 48271)) + 11)) 2147483647))))) = some (r1, r2, r3) := h
 clear h
 by_cases c3 : a1 ≤ 1
 ·rw [if_pos c3] at H
  have c3b0 : decide (a1 ≤ 1) = true := decide_eq_true c3
  clear c3
  simp only [Option.some.injEq, Prod.mk.injEq] at H
  obtain ⟨rfl, rfl, rfl⟩ := H
  go_enter Try.func107, Try.ntmps107
  go_wp2
  repeat (go_quiet (fail); try go_wp2)
  go_ret
  exact ⟨er_, is103_ HI0, bi103_ HB.out, kb_ HK.out⟩
 ·rw [if_neg c3] at H
  have c3b0 : decide (a1 ≤ 1) = false := decide_eq_false c3
  clear c3
  by_cases c4 : s0_1 < (s0_0.length : Int)
  ·rw [if_pos c4] at H
   have c4b0 : decide (s0_1 < (s0_0.length : Int)) = true := decide_eq_true c4
   clear c4
   by_cases c5 : 0 ≤ s0_1
   ·rw [if_pos c5] at H
    have c5b0 : decide (0 ≤ s0_1) = true := decide_eq_true c5
    clear c5
    by_cases c6 : a1 ≤ 256
    ·rw [if_pos c6] at H
     have c6b0 : decide (a1 ≤ 256) = true := decide_eq_true c6
     clear c6
     by_cases c7 : (Int.tmod (wrap64 (s0_1 + 1)) 2) = 0
     ·rw [if_pos c7] at H
      have c7b0 : ((Int.tmod (wrap64 (s0_1 + 1)) 2) == 0) = true := beq_iff_eq.mpr c7
      have c7b1 : ((Int.tmod (wrap64 (s0_1 + 1)) 2) != 0) = false := bne_eq_false_iff_eq.mpr c7
      clear c7
      obtain ⟨ji8, hji8⟩ : ∃ j_ : Int, (wrap64 ((wrap64 (s0_1 + 1)) - 1)) = j_ := ⟨_, rfl⟩
      replace H : (if 0 ≤ (ji8) then (if (ji8) < (s0_0.length : Int) then (if a1 = 0 then (none) else (some (Int.tmod (wrap64 (rd s0_0 (ji8))) a1, wrap64 (s0_1 + 1), Int.tmod (wrap64 ((wrap64 (s0_2 * 48271)) + 11)) 2147483647))) else (none)) else (none)) = some (r1, r2, r3) := by first | (rw [hji8] at H; exact H) | (simp only [hji8] at H ⊢; exact H)
      have hji8w : (IntKind.i64.wrap ((wrap64 (s0_1 + 1)) - 1)) = ji8 := (i64_w _).trans hji8
      by_cases c9 : 0 ≤ (ji8)
      ·rw [if_pos c9] at H
       have c9b0 : decide (0 ≤ (ji8)) = true := decide_eq_true c9
       clear c9
       by_cases c10 : (ji8) < (s0_0.length : Int)
       ·rw [if_pos c10] at H
        have c10b0 : decide ((ji8) < (s0_0.length : Int)) = true := decide_eq_true c10
        clear c10
        by_cases c11 : a1 = 0
        ·rw [if_pos c11] at H
         exact absurd H (by simp)
        ·rw [if_neg c11] at H
         have c11b0 : (a1 == 0) = false := beq_eq_false_iff_ne.mpr c11
         have c11b1 : (a1 != 0) = true := bne_iff_ne.mpr c11
         simp only [Option.some.injEq, Prod.mk.injEq] at H
         obtain ⟨rfl, rfl, rfl⟩ := H
         obtain ⟨ASz12_0, cSz12_0, HGz12, hgz12, HSz12_0⟩ := HI0.out
         have hcz12_0 := cellS103_0 HGz12
         have hcz12_1 := cellS103_1 HGz12
         have hcz12_2 := cellS103_2 HGz12
         have hfz12_1 := blk_frozen HGz12 1
         have hfz12_2 := blk_frozen HGz12 2
         clear HGz12 hgz12
         have p389 : 0 ≤ (s0_1 : Int) := da_
         have q389 : s0_1 < (s0_0.length : Int) := da_
         obtain ⟨ad389, e389, hx389_0⟩ := Kd.at_int HSz12_0 s0_1 p389 q389
         cases e389
         have hn389_0 : ad389.block ≠ g := Nat.ne_of_lt (Nat.lt_of_lt_of_le (by have := World.block_lt_of_cell? _ _ hx389_0; first | rwa [add_block] at this | exact this) (IsS103.ge HI0.out))
         replace hx389_0 := pw_cell_below HB.out hx389_0
         replace hx389_0 := (cell_far (p := ⟨g, 2, none⟩) (by first | (rw [add_block]; exact hn389_0) | (show (Addr.add _ _).block ≠ _; rw [add_block]; exact hn389_0) | exact hn389_0) (.int .i64 (Int.tmod (wrap64 ((wrap64 (s0_2 * 48271)) + 11)) 2147483647))).trans hx389_0
         (try have hy389_0 := fun (n_ : Nat) => (show (((w.drewN n_).setCell ⟨g, 2, none⟩ (.int .i64 (Int.tmod (wrap64 ((wrap64 (s0_2 * 48271)) + 11)) 2147483647)))).cell? _ = some _ from hx389_0))
         clear hn389_0
         replace p389 := eq_true p389
         replace q389 := eq_true q389
         have p390 : 0 ≤ ((ji8) : Int) := da_
         have q390 : (ji8) < (s0_0.length : Int) := da_
         obtain ⟨ad390, e390, hx390_0⟩ := Kd.at_int HSz12_0 (ji8) p390 q390
         obtain rfl : ad389 = ad390 := (by injection e390)
         have hn390_0 : ad389.block ≠ g := Nat.ne_of_lt (Nat.lt_of_lt_of_le (by have := World.block_lt_of_cell? _ _ hx390_0; first | rwa [add_block] at this | exact this) (IsS103.ge HI0.out))
         have hn390_1 : ad389.block ≠ g := Nat.ne_of_lt (Nat.lt_of_lt_of_le (by have := World.block_lt_of_cell? _ _ hx390_0; first | rwa [add_block] at this | exact this) (IsS103.ge HI0.out))
         replace hx390_0 := pw_cell_below HB.out hx390_0
         replace hx390_0 := (cell_far (p := ⟨g, 2, none⟩) (by first | (rw [add_block]; exact hn390_0) | (show (Addr.add _ _).block ≠ _; rw [add_block]; exact hn390_0) | exact hn390_0) (.int .i64 (Int.tmod (wrap64 ((wrap64 (s0_2 * 48271)) + 11)) 2147483647))).trans hx390_0
         replace hx390_0 := (cell_far (p := ⟨g, 1, none⟩) (by first | (rw [add_block]; exact hn390_1) | (show (Addr.add _ _).block ≠ _; rw [add_block]; exact hn390_1) | exact hn390_1) (.int .i64 (wrap64 (s0_1 + 1)))).trans hx390_0
         (try have hy390_0 := fun (n_ : Nat) => (show ((((w.drewN n_).setCell ⟨g, 2, none⟩ (.int .i64 (Int.tmod (wrap64 ((wrap64 (s0_2 * 48271)) + 11)) 2147483647))).setCell ⟨g, 1, none⟩ (.int .i64 (wrap64 (s0_1 + 1))))).cell? _ = some _ from hx390_0))
         (try have hz390_0 := fun (n_ : Nat) => (show ((((w.setCell ⟨g, 2, none⟩ (.int .i64 (Int.tmod (wrap64 ((wrap64 (s0_2 * 48271)) + 11)) 2147483647))).drewN n_).setCell ⟨g, 1, none⟩ (.int .i64 (wrap64 (s0_1 + 1))))).cell? _ = some _ from hx390_0))
         clear hn390_0
         clear hn390_1
         replace p390 := eq_true p390
         replace q390 := eq_true q390
         go_enter Try.func107, Try.ntmps107
         go_wp2
         repeat (go_quiet (fail); try go_wp2)
         go_ret
         exact ⟨by first | rfl | (simp [errW_none, errW_some] <;> rfl) | (simp only [← hji8]; first | rfl | (simp [errW_none, errW_some] <;> rfl)) | (simp [*, errW_none, errW_some] <;> rfl), is103_ HI0, bi103_ HB.out, kb_ HK.out⟩
       ·rw [if_neg c10] at H
        exact absurd H (by simp)
      ·rw [if_neg c9] at H
       exact absurd H (by simp)
     ·rw [if_neg c7] at H
      have c7b0 : ((Int.tmod (wrap64 (s0_1 + 1)) 2) == 0) = false := beq_eq_false_iff_ne.mpr c7
      have c7b1 : ((Int.tmod (wrap64 (s0_1 + 1)) 2) != 0) = true := bne_iff_ne.mpr c7
      by_cases c13 : a1 = 0
      ·rw [if_pos c13] at H
       exact absurd H (by simp)
      ·rw [if_neg c13] at H
       have c13b0 : (a1 == 0) = false := beq_eq_false_iff_ne.mpr c13
       have c13b1 : (a1 != 0) = true := bne_iff_ne.mpr c13
       simp only [Option.some.injEq, Prod.mk.injEq] at H
       obtain ⟨rfl, rfl, rfl⟩ := H
       obtain ⟨ASz14_0, cSz14_0, HGz14, hgz14, HSz14_0⟩ := HI0.out
       have hcz14_0 := cellS103_0 HGz14
       have hcz14_1 := cellS103_1 HGz14
       have hcz14_2 := cellS103_2 HGz14
       have hfz14_1 := blk_frozen HGz14 1
       have hfz14_2 := blk_frozen HGz14 2
       clear HGz14 hgz14
       have p389 : 0 ≤ (s0_1 : Int) := da_
       have q389 : s0_1 < (s0_0.length : Int) := da_
       obtain ⟨ad389, e389, hx389_0⟩ := Kd.at_int HSz14_0 s0_1 p389 q389
       cases e389
       have hn389_0 : ad389.block ≠ g := Nat.ne_of_lt (Nat.lt_of_lt_of_le (by have := World.block_lt_of_cell? _ _ hx389_0; first | rwa [add_block] at this | exact this) (IsS103.ge HI0.out))
       replace hx389_0 := pw_cell_below HB.out hx389_0
       replace hx389_0 := (cell_far (p := ⟨g, 2, none⟩) (by first | (rw [add_block]; exact hn389_0) | (show (Addr.add _ _).block ≠ _; rw [add_block]; exact hn389_0) | exact hn389_0) (.int .i64 (Int.tmod (wrap64 ((wrap64 (s0_2 * 48271)) + 11)) 2147483647))).trans hx389_0
       (try have hy389_0 := fun (n_ : Nat) => (show (((w.drewN n_).setCell ⟨g, 2, none⟩ (.int .i64 (Int.tmod (wrap64 ((wrap64 (s0_2 * 48271)) + 11)) 2147483647)))).cell? _ = some _ from hx389_0))
       clear hn389_0
       replace p389 := eq_true p389
       replace q389 := eq_true q389
       go_enter Try.func107, Try.ntmps107
       go_wp2
       repeat (go_quiet (fail); try go_wp2)
       go_ret
       exact ⟨er_, is103_ HI0, bi103_ HB.out, kb_ HK.out⟩
    ·rw [if_neg c6] at H
     have c6b0 : decide (a1 ≤ 256) = false := decide_eq_false c6
     clear c6
     by_cases c15 : a1 = 0
     ·rw [if_pos c15] at H
      exact absurd H (by simp)
     ·rw [if_neg c15] at H
      have c15b0 : (a1 == 0) = false := beq_eq_false_iff_ne.mpr c15
      have c15b1 : (a1 != 0) = true := bne_iff_ne.mpr c15
      simp only [Option.some.injEq, Prod.mk.injEq] at H
      obtain ⟨rfl, rfl, rfl⟩ := H
      obtain ⟨ASz16_0, cSz16_0, HGz16, hgz16, HSz16_0⟩ := HI0.out
      have hcz16_0 := cellS103_0 HGz16
      have hcz16_1 := cellS103_1 HGz16
      have hcz16_2 := cellS103_2 HGz16
      have hfz16_1 := blk_frozen HGz16 1
      have hfz16_2 := blk_frozen HGz16 2
      clear HGz16 hgz16
      have p389 : 0 ≤ (s0_1 : Int) := da_
      have q389 : s0_1 < (s0_0.length : Int) := da_
      obtain ⟨ad389, e389, hx389_0⟩ := Kd.at_int HSz16_0 s0_1 p389 q389
      cases e389
      have hn389_0 : ad389.block ≠ g := Nat.ne_of_lt (Nat.lt_of_lt_of_le (by have := World.block_lt_of_cell? _ _ hx389_0; first | rwa [add_block] at this | exact this) (IsS103.ge HI0.out))
      replace hx389_0 := pw_cell_below HB.out hx389_0
      replace hx389_0 := (cell_far (p := ⟨g, 2, none⟩) (by first | (rw [add_block]; exact hn389_0) | (show (Addr.add _ _).block ≠ _; rw [add_block]; exact hn389_0) | exact hn389_0) (.int .i64 (Int.tmod (wrap64 ((wrap64 (s0_2 * 48271)) + 11)) 2147483647))).trans hx389_0
      (try have hy389_0 := fun (n_ : Nat) => (show (((w.drewN n_).setCell ⟨g, 2, none⟩ (.int .i64 (Int.tmod (wrap64 ((wrap64 (s0_2 * 48271)) + 11)) 2147483647)))).cell? _ = some _ from hx389_0))
      clear hn389_0
      replace p389 := eq_true p389
      replace q389 := eq_true q389
      go_enter Try.func107, Try.ntmps107
      go_wp2
      repeat (go_quiet (fail); try go_wp2)
      go_ret
      exact ⟨er_, is103_ HI0, bi103_ HB.out, kb_ HK.out⟩
   ·rw [if_neg c5] at H
    exact absurd H (by simp)
  ·rw [if_neg c4] at H
   have c4b0 : decide (s0_1 < (s0_0.length : Int)) = false := decide_eq_false c4
   clear c4
   by_cases c17 : a1 = 0
   ·rw [if_pos c17] at H
    exact absurd H (by simp)
   ·rw [if_neg c17] at H
    have c17b0 : (a1 == 0) = false := beq_eq_false_iff_ne.mpr c17
    have c17b1 : (a1 != 0) = true := bne_iff_ne.mpr c17
    simp only [Option.some.injEq, Prod.mk.injEq] at H
    obtain ⟨rfl, rfl, rfl⟩ := H
    obtain ⟨ASz18_0, cSz18_0, HGz18, hgz18, HSz18_0⟩ := HI0.out
    have hcz18_0 := cellS103_0 HGz18
    have hcz18_1 := cellS103_1 HGz18
    have hcz18_2 := cellS103_2 HGz18
    have hfz18_1 := blk_frozen HGz18 1
    have hfz18_2 := blk_frozen HGz18 2
    clear HGz18 hgz18
    go_enter Try.func107, Try.ntmps107
    go_wp2
    repeat (go_quiet (fail); try go_wp2)
    go_ret
    exact ⟨er_, is103_ HI0, bi103_ HB.out, kb_ HK.out⟩

/-! ### spec_l04DrawWord: function 129 -/
mutual
def spec_l04DrawWord.l0 : Nat → Int → List Int → Int → List Int → Int → Int → Option (List Int × Int × Int)
 | 0, _, _, _, _, _, _ => none
 | k + 1, x1, x7, x8, x1000, x1001, x1002 => if x8 > 0 then (spec_l04DrawWord.j1 k x1 x7 x8 (decide (x1 > 0)) x1000 x1001 x1002) else (spec_l04DrawWord.j1 k x1 x7 x8 false x1000 x1001 x1002)
def spec_l04DrawWord.j1 : Nat → Int → List Int → Int → Bool → List Int → Int → Int → Option (List Int × Int × Int)
 | 0, _, _, _, _, _, _, _ => none
 | k + 1, x1, x7, x8, x20, x1000, x1001, x1002 => if x20 = true then ((spec_l01Next.f x1000 x1001 x1002 x1).bind fun bt397 => ((spec_l01Next.f x1000 bt397.2.1 bt397.2.2 2).bind fun bt400 => (if bt400.1 = 0 then (if x7.length < 17592186044416 then (spec_l04DrawWord.l0 k x1 (x7 ++ [wrap64 (-(wrap64 (1 + bt397.1)))]) (wrap64 (x8 - 1)) x1000 bt400.2.1 bt400.2.2) else (none)) else (if x7.length < 17592186044416 then (spec_l04DrawWord.l0 k x1 (x7 ++ [wrap64 (1 + bt397.1)]) (wrap64 (x8 - 1)) x1000 bt400.2.1 bt400.2.2) else (none))))) else (some (x7, x1001, x1002))
end
def spec_l04DrawWord.f (k : Nat) (s0_0 : List Int) (s0_1 : Int) (s0_2 : Int) (a1 : Int) (a2 : Int) : Option (List Int × Int × Int) := (spec_l01Next.f s0_0 s0_1 s0_2 (wrap64 (a2 + 1))).bind fun bt394 => (spec_l04DrawWord.l0 k a1 (([] : List Int)) bt394.1 s0_0 bt394.2.1 bt394.2.2)
theorem spec_l04DrawWord.calls (k : Nat) (g : Nat) (s0_0 : List Int) (s0_1 : Int) (s0_2 : Int) (a1 : Int) (a2 : Int) (r1 : List Int) (r2 : Int) (r3 : Int) (w0 w : World) (hI : IsS103 w0 w g s0_0 s0_1 s0_2) (hB : Below w0.heap.size w0 w) (h : spec_l04DrawWord.f k s0_0 s0_1 s0_2 a1 a2 = some (r1, r2, r3)) :
  Calls Try.prog 129 #[.pointer (some ⟨g, 0, none⟩), .int .i64 a1, .int .i64 a2] w fun e w' => ∃ v0_ : Value, e = .returned (v0_) ∧ Kd.R (Kd.int .i64) 2 w' w.heap.size (fun _ => True) v0_ r1 ∧ IsS103 w0 w' g s0_0 r2 r3 ∧ Below w0.heap.size w0 w' ∧ KeepBut w w' g none := by
 have HI0 := am_ hI
 have HK := am_ (KeepBut.refl w g none)
 have HL := am_ hB.size
 clear hI
 have HW0 := am_ hB.size
 have HB := am_ hB
 clear hB
 have H : ((spec_l01Next.f s0_0 s0_1 s0_2 (wrap64 (a2 + 1))).bind fun bt394 => (spec_l04DrawWord.l0 k a1 (([] : List Int)) bt394.1 s0_0 bt394.2.1 bt394.2.2)) = some (r1, r2, r3) := h
 clear h
 obtain ⟨y391, hy391⟩ : ∃ y_ : List Int, y_ = (([] : List Int)) := ⟨_, rfl⟩
 replace H : ((spec_l01Next.f s0_0 s0_1 s0_2 (wrap64 (a2 + 1))).bind fun bt394 => (spec_l04DrawWord.l0 k a1 y391 bt394.1 s0_0 bt394.2.1 bt394.2.2)) = some (r1, r2, r3) := hq_ hy391 H
 have Ny391 := am_ hy391
 clear hy391
 replace H := Option.bind_eq_some_iff.mp H
 obtain ⟨⟨t394, t395, t396⟩, A40, H⟩ := H
 replace H : (spec_l04DrawWord.l0 k a1 y391 t394 s0_0 t395 t396) = some (r1, r2, r3) := H
 have A4 := am_ A40
 clear A40
 have H' := am_ H
 clear H
 go_enter Try.func129, Try.ntmps129
 go_wp2_with (first | ((with_reducible refine gate_dst (N := 10) rfl ?_); refine Kd.R_lit (Kd.int .i64) _ 2 ?hg (N := 10) ?hd (xs := ([] : List Int)) (inner := []) (ok := fun _ => True) (okp := fun _ => True) ?hr ?hp (fun _ hk => hk) trivial (Below.refl _ _) (Nat.le_refl _) (by simp) ?_; (case hd => rfl); (case hg => rfl); (case hr => first | (go_simp; done) | (go_simp; rfl)); (case hp => exact (Reps.none _ _)); intro v392 w5 ho6 hb hg_ hnew_; clear hg_ hnew_; (first | rw [← Ny391.out] at ho6 | (simp only [Int.reduceToNat] at ho6; rw [← Ny391.out] at ho6)); have n0_ := am_ (Kd.R_lower ho6 (keep_size (w := w) (g := g) (row := none) (kb_ HK.out))); have n1_ := am_ (IsS103.below (is103_ HI0) hb); have n2_ := am_ (KeepBut.trans (kb_ HK.out) (KeepBut.of_below hb g none) (.inl rfl)); have n3_ := am_ (below_step (bi103_ HB.out) hb); clear HI0 HK HB; revert n0_ n1_ n2_ n3_; intro HO393 HI0 HK HB; clear hb ho6) | ((with_reducible refine gate_callee (f := 107) rfl ?_); refine goesL_ (some 14) rfl rfl Try.func107 (by kernel_rfl) rfl #[.pointer (some ⟨g, 0, none⟩), .int .i64 (wrap64 (a2 + 1))] rfl lm_ ?_; (with_reducible refine (spec_l01Next.calls g s0_0 s0_1 s0_2 (wrap64 (a2 + 1)) t394 t395 t396 w0 _ ?side1 ?side2 A4.out).mono ?_); (case side1 => exact is103_ HI0); (case side2 => exact bi103_ HB.out); rintro e w7 ⟨rfl, hi, hb, hk⟩; refine ⟨_, rfl, ?_⟩; have n0_ := am_ (Kd.R_mono (Kd.R_keep (IsS103.apart (show IsS103 w0 _ g s0_0 s0_1 s0_2 from is103_ HI0) (rk_ HO393.out) (by decide)) hk (fun _ h => h.2)) (fun _ h => h.1)); have n1_ := am_ (KeepBut.trans (kb_ HK.out) hk (.inl rfl)); have n2_ := am_ (hb); have n3_ := am_ (hi); clear HO393 HK HB HI0; revert n0_ n1_ n2_ n3_; intro HO393 HK HB HI0; (try clear hb); (try clear hb2); (try clear hk); (try clear hi)))
 go_loopg [7, 8] k (fun kq v7 v8 w' => ∃ (x7_1 : List Int) (x8_1 : Int) (x1001_1 : Int) (x1002_1 : Int), v8 = .int .i64 x8_1 ∧ Aside0 (spec_l04DrawWord.l0 kq a1 x7_1 x8_1 s0_0 x1001_1 x1002_1 = some (r1, r2, r3)) ∧ Aside0 (kq ≤ k) ∧ Aside0 (Kd.R (Kd.int .i64) 2 w' w.heap.size (fun _ => True) v7 x7_1) ∧ Aside0 (IsS103 w0 w' g s0_0 x1001_1 x1002_1) ∧ Aside0 (KeepBut w w' g none) ∧ Aside0 (Below w0.heap.size w0 w'))
 case atStart => exact ⟨(y391), (t394), (t395), (t396), (by first | rfl | (simp; done) | (simp [*]; done)), H', ⟨Nat.le_refl _⟩, ⟨rk_ HO393.out⟩, ⟨is103_ HI0⟩, ⟨kb_ HK.out⟩, ⟨bi103_ HB.out⟩⟩
 case round =>
  clear H'
  try clear c1
  try clear p2
  try clear p6
  obtain ⟨x7_1, x8_1, x1001_1, x1002_1, rfl, HA, HK1, HO_7, HI0, HK, HB⟩ := hrel
  cases gk with
  | zero => exact absurd HA.out (by simp [spec_l04DrawWord.l0])
  | succ k1 =>
   have H := HA.out
   clear HA
   simp only [spec_l04DrawWord.l0] at H
   have HC8 := am_ H
   clear H
   go_upto_region 3 with (fail)
   go_cut [20] (fun v20 wc => ∃ (kq : Nat) (x20_7 : Bool), v20 = .bool x20_7 ∧ Aside0 (spec_l04DrawWord.j1 kq a1 x7_1 x8_1 x20_7 s0_0 x1001_1 x1002_1 = some (r1, r2, r3)) ∧ Aside0 (kq ≤ k1) ∧ Aside0 (Kd.R (Kd.int .i64) 2 wc w.heap.size (fun _ => True) u7 x7_1) ∧ Aside0 (IsS103 w0 wc g s0_0 x1001_1 x1002_1) ∧ Aside0 (KeepBut w wc g none) ∧ Aside0 (Below w0.heap.size w0 wc))
   case first =>
    have H := HC8.out
    clear HC8
    by_cases c9 : x8_1 > 0
    ·rw [if_pos c9] at H
     have c9b0 : decide (0 < x8_1) = true := decide_eq_true c9
     clear c9
     (first | rw [c9b0] | (simp only [i64_w, i32_w]; rw [c9b0]) | skip)
     have H' := am_ H
     clear H
     go_wp2
     go_meet
     case rel => exact ⟨_, (decide (a1 > 0)), (by first | rfl | (simp; done) | (simp [*]; done)), H', ⟨by have := HK1.out; first | omega | exact Nat.le_refl _⟩, ⟨rk_ HO_7.out⟩, ⟨is103_ HI0⟩, ⟨kb_ HK.out⟩, ⟨bi103_ HB.out⟩⟩
    ·rw [if_neg c9] at H
     have c9b0 : decide (0 < x8_1) = false := decide_eq_false c9
     clear c9
     (first | rw [c9b0] | (simp only [i64_w, i32_w]; rw [c9b0]) | skip)
     have H' := am_ H
     clear H
     go_wp2
     go_meet
     case rel => exact ⟨_, (false), (by first | rfl | (simp; done) | (simp [*]; done)), H', ⟨by have := HK1.out; first | omega | exact Nat.le_refl _⟩, ⟨rk_ HO_7.out⟩, ⟨is103_ HI0⟩, ⟨kb_ HK.out⟩, ⟨bi103_ HB.out⟩⟩
   case rest =>
    clear HC8
    try clear c1
    try clear p2
    try clear p6
    try clear c9
    try clear c9b0
    try clear p2
    try clear p6
    obtain ⟨kq, x20_7, rfl, HA, HJ7, HO_7, HI0, HK, HB⟩ := hcut
    cases kq with
    | zero => exact absurd HA.out (by simp [spec_l04DrawWord.j1])
    | succ kj7 =>
     have H := HA.out
     clear HA
     simp only [spec_l04DrawWord.j1] at H
     by_cases c10 : x20_7 = true
     ·subst c10
      have H1 : ((spec_l01Next.f s0_0 x1001_1 x1002_1 a1).bind fun bt397 => ((spec_l01Next.f s0_0 bt397.2.1 bt397.2.2 2).bind fun bt400 => (if bt400.1 = 0 then (if x7_1.length < 17592186044416 then (spec_l04DrawWord.l0 kj7 a1 (x7_1 ++ [wrap64 (-(wrap64 (1 + bt397.1)))]) (wrap64 (x8_1 - 1)) s0_0 bt400.2.1 bt400.2.2) else (none)) else (if x7_1.length < 17592186044416 then (spec_l04DrawWord.l0 kj7 a1 (x7_1 ++ [wrap64 (1 + bt397.1)]) (wrap64 (x8_1 - 1)) s0_0 bt400.2.1 bt400.2.2) else (none))))) = some (r1, r2, r3) := by rw [if_pos rfl] at H; exact H
      clear H
      have H := H1
      clear H1
      replace H := Option.bind_eq_some_iff.mp H
      obtain ⟨⟨t397, t398, t399⟩, A110, H⟩ := H
      replace H : ((spec_l01Next.f s0_0 t398 t399 2).bind fun bt400 => (if bt400.1 = 0 then (if x7_1.length < 17592186044416 then (spec_l04DrawWord.l0 kj7 a1 (x7_1 ++ [wrap64 (-(wrap64 (1 + t397)))]) (wrap64 (x8_1 - 1)) s0_0 bt400.2.1 bt400.2.2) else (none)) else (if x7_1.length < 17592186044416 then (spec_l04DrawWord.l0 kj7 a1 (x7_1 ++ [wrap64 (1 + t397)]) (wrap64 (x8_1 - 1)) s0_0 bt400.2.1 bt400.2.2) else (none)))) = some (r1, r2, r3) := H
      have A11 := am_ A110
      clear A110
      replace H := Option.bind_eq_some_iff.mp H
      obtain ⟨⟨t400, t401, t402⟩, A120, H⟩ := H
      replace H : (if t400 = 0 then (if x7_1.length < 17592186044416 then (spec_l04DrawWord.l0 kj7 a1 (x7_1 ++ [wrap64 (-(wrap64 (1 + t397)))]) (wrap64 (x8_1 - 1)) s0_0 t401 t402) else (none)) else (if x7_1.length < 17592186044416 then (spec_l04DrawWord.l0 kj7 a1 (x7_1 ++ [wrap64 (1 + t397)]) (wrap64 (x8_1 - 1)) s0_0 t401 t402) else (none))) = some (r1, r2, r3) := H
      have A12 := am_ A120
      clear A120
      by_cases c13 : t400 = 0
      ·rw [if_pos c13] at H
       have c13b0 : (t400 == 0) = true := beq_iff_eq.mpr c13
       have c13b1 : (t400 != 0) = false := bne_eq_false_iff_eq.mpr c13
       clear c13
       by_cases c14 : x7_1.length < 17592186044416
       ·rw [if_pos c14] at H
        have LMc14 := am_ c14
        clear c14
        obtain ⟨y403, hy403⟩ : ∃ y_ : List Int, y_ = (x7_1 ++ [wrap64 (-(wrap64 (1 + t397)))]) := ⟨_, rfl⟩
        replace H : (spec_l04DrawWord.l0 kj7 a1 y403 (wrap64 (x8_1 - 1)) s0_0 t401 t402) = some (r1, r2, r3) := hq_ hy403 H
        have Ny403 := am_ hy403
        clear hy403
        have H' := am_ H
        clear H
        go_wp2_with (first | ((with_reducible refine gate_callee (f := 107) rfl ?_); refine goesL_ (some 25) rfl rfl Try.func107 (by kernel_rfl) rfl #[.pointer (some ⟨g, 0, none⟩), .int .i64 a1] rfl lm_ ?_; (with_reducible refine (spec_l01Next.calls g s0_0 x1001_1 x1002_1 a1 t397 t398 t399 w0 _ ?side1 ?side2 A11.out).mono ?_); (case side1 => exact is103_ HI0); (case side2 => exact bi103_ HB.out); rintro e w15 ⟨rfl, hi, hb, hk⟩; refine ⟨_, rfl, ?_⟩; have n0_ := am_ (Kd.R_mono (Kd.R_keep (IsS103.apart (show IsS103 w0 _ g s0_0 x1001_1 x1002_1 from is103_ HI0) (rk_ HO_7.out) (by decide)) hk (fun _ h => h.2)) (fun _ h => h.1)); have n1_ := am_ (KeepBut.trans (kb_ HK.out) hk (.inl rfl)); have n2_ := am_ (hb); have n3_ := am_ (hi); clear HO_7 HK HB HI0; revert n0_ n1_ n2_ n3_; intro HO_7 HK HB HI0; (try clear hb); (try clear hb2); (try clear hk); (try clear hi)) | ((with_reducible refine gate_callee (f := 107) rfl ?_); refine goesL_ (some 28) rfl rfl Try.func107 (by kernel_rfl) rfl #[.pointer (some ⟨g, 0, none⟩), .int .i64 2] rfl lm_ ?_; (with_reducible refine (spec_l01Next.calls g s0_0 t398 t399 2 t400 t401 t402 w0 _ ?side1 ?side2 A12.out).mono ?_); (case side1 => exact is103_ HI0); (case side2 => exact bi103_ HB.out); rintro e w16 ⟨rfl, hi, hb, hk⟩; refine ⟨_, rfl, ?_⟩; have n0_ := am_ (Kd.R_mono (Kd.R_keep (IsS103.apart (show IsS103 w0 _ g s0_0 t398 t399 from is103_ HI0) (rk_ HO_7.out) (by decide)) hk (fun _ h => h.2)) (fun _ h => h.1)); have n1_ := am_ (KeepBut.trans (kb_ HK.out) hk (.inl rfl)); have n2_ := am_ (hb); have n3_ := am_ (hi); clear HO_7 HK HB HI0; revert n0_ n1_ n2_ n3_; intro HO_7 HK HB HI0; (try clear hb); (try clear hb2); (try clear hk); (try clear hi)) | ((with_reducible refine gate_builtin (b := .append) (xs := #[.tmp 32, .tmp 34]) rfl ?_); at_builtin; refine Kd.R_append (Kd.int .i64) w.heap.size rfl (.tmp 32) (.tmp 34) 39 2 (.int .i64 0) 8 rfl Try.underlying39 info2 rfl (by decide) (by omega) u7 x7_1 (wrap64 (-(wrap64 (1 + t397)))) [.int .i64 (wrap64 (-(wrap64 (1 + t397))))] (fun _ => True) (fun _ => False) rfl rfl ?aP (fun _ hk => hk.elim) ?aF ?aO (Below.refl _ _) ?aS ?aL ?_; (case aP => exact rfl); (case aF => exact (fun _ _ => trivial)); (case aO => exact (rk_ HO_7.out)); (case aS => exact (keep_size (w := w) (g := g) (row := none) (kb_ HK.out))); (case aL => have := LMc14.out; omega); intro v404 w17 ho hb hg hat; rw [← Ny403.out] at ho; have n0_ := am_ (IsS103.grown (is103_ HI0) hg (IsS103.own_ne HI0.out HO_7.out (by decide))); have n1_ := am_ (below_weaken (bi103_ HB.out) HL.out hb); have n2_ := am_ (KeepBut.trans (kb_ HK.out) (KeepBut.of_grown hg g) (Kd.R_base2 HO_7.out)); have n3_ := am_ (ho); clear HI0 HB HK HO_7; revert n0_ n1_ n2_ n3_; intro HI0 HB HK HO405; clear ho hb hg hat))
        go_roundg kj7
        case measure => have := HK1.out; have := HJ7.out; omega
        case rel => exact ⟨(y403), (wrap64 (x8_1 - 1)), (t401), (t402), (by first | rfl | (simp; done) | (simp [*]; done)), H', ⟨by have := HK1.out; have := HJ7.out; omega⟩, ⟨rk_ HO405.out⟩, ⟨is103_ HI0⟩, ⟨kb_ HK.out⟩, ⟨bi103_ HB.out⟩⟩
       ·rw [if_neg c14] at H
        exact absurd H (by simp)
      ·rw [if_neg c13] at H
       have c13b0 : (t400 == 0) = false := beq_eq_false_iff_ne.mpr c13
       have c13b1 : (t400 != 0) = true := bne_iff_ne.mpr c13
       by_cases c18 : x7_1.length < 17592186044416
       ·rw [if_pos c18] at H
        have LMc18 := am_ c18
        clear c18
        obtain ⟨y406, hy406⟩ : ∃ y_ : List Int, y_ = (x7_1 ++ [wrap64 (1 + t397)]) := ⟨_, rfl⟩
        replace H : (spec_l04DrawWord.l0 kj7 a1 y406 (wrap64 (x8_1 - 1)) s0_0 t401 t402) = some (r1, r2, r3) := hq_ hy406 H
        have Ny406 := am_ hy406
        clear hy406
        have H' := am_ H
        clear H
        go_wp2_with (first | ((with_reducible refine gate_callee (f := 107) rfl ?_); refine goesL_ (some 25) rfl rfl Try.func107 (by kernel_rfl) rfl #[.pointer (some ⟨g, 0, none⟩), .int .i64 a1] rfl lm_ ?_; (with_reducible refine (spec_l01Next.calls g s0_0 x1001_1 x1002_1 a1 t397 t398 t399 w0 _ ?side1 ?side2 A11.out).mono ?_); (case side1 => exact is103_ HI0); (case side2 => exact bi103_ HB.out); rintro e w19 ⟨rfl, hi, hb, hk⟩; refine ⟨_, rfl, ?_⟩; have n0_ := am_ (Kd.R_mono (Kd.R_keep (IsS103.apart (show IsS103 w0 _ g s0_0 x1001_1 x1002_1 from is103_ HI0) (rk_ HO_7.out) (by decide)) hk (fun _ h => h.2)) (fun _ h => h.1)); have n1_ := am_ (KeepBut.trans (kb_ HK.out) hk (.inl rfl)); have n2_ := am_ (hb); have n3_ := am_ (hi); clear HO_7 HK HB HI0; revert n0_ n1_ n2_ n3_; intro HO_7 HK HB HI0; (try clear hb); (try clear hb2); (try clear hk); (try clear hi)) | ((with_reducible refine gate_callee (f := 107) rfl ?_); refine goesL_ (some 28) rfl rfl Try.func107 (by kernel_rfl) rfl #[.pointer (some ⟨g, 0, none⟩), .int .i64 2] rfl lm_ ?_; (with_reducible refine (spec_l01Next.calls g s0_0 t398 t399 2 t400 t401 t402 w0 _ ?side1 ?side2 A12.out).mono ?_); (case side1 => exact is103_ HI0); (case side2 => exact bi103_ HB.out); rintro e w20 ⟨rfl, hi, hb, hk⟩; refine ⟨_, rfl, ?_⟩; have n0_ := am_ (Kd.R_mono (Kd.R_keep (IsS103.apart (show IsS103 w0 _ g s0_0 t398 t399 from is103_ HI0) (rk_ HO_7.out) (by decide)) hk (fun _ h => h.2)) (fun _ h => h.1)); have n1_ := am_ (KeepBut.trans (kb_ HK.out) hk (.inl rfl)); have n2_ := am_ (hb); have n3_ := am_ (hi); clear HO_7 HK HB HI0; revert n0_ n1_ n2_ n3_; intro HO_7 HK HB HI0; (try clear hb); (try clear hb2); (try clear hk); (try clear hi)) | ((with_reducible refine gate_builtin (b := .append) (xs := #[.tmp 32, .tmp 34]) rfl ?_); at_builtin; refine Kd.R_append (Kd.int .i64) w.heap.size rfl (.tmp 32) (.tmp 34) 39 2 (.int .i64 0) 8 rfl Try.underlying39 info2 rfl (by decide) (by omega) u7 x7_1 (wrap64 (1 + t397)) [.int .i64 (wrap64 (1 + t397))] (fun _ => True) (fun _ => False) rfl rfl ?aP (fun _ hk => hk.elim) ?aF ?aO (Below.refl _ _) ?aS ?aL ?_; (case aP => exact rfl); (case aF => exact (fun _ _ => trivial)); (case aO => exact (rk_ HO_7.out)); (case aS => exact (keep_size (w := w) (g := g) (row := none) (kb_ HK.out))); (case aL => have := LMc18.out; omega); intro v407 w21 ho hb hg hat; rw [← Ny406.out] at ho; have n0_ := am_ (IsS103.grown (is103_ HI0) hg (IsS103.own_ne HI0.out HO_7.out (by decide))); have n1_ := am_ (below_weaken (bi103_ HB.out) HL.out hb); have n2_ := am_ (KeepBut.trans (kb_ HK.out) (KeepBut.of_grown hg g) (Kd.R_base2 HO_7.out)); have n3_ := am_ (ho); clear HI0 HB HK HO_7; revert n0_ n1_ n2_ n3_; intro HI0 HB HK HO408; clear ho hb hg hat))
        go_roundg kj7
        case measure => have := HK1.out; have := HJ7.out; omega
        case rel => exact ⟨(y406), (wrap64 (x8_1 - 1)), (t401), (t402), (by first | rfl | (simp; done) | (simp [*]; done)), H', ⟨by have := HK1.out; have := HJ7.out; omega⟩, ⟨rk_ HO408.out⟩, ⟨is103_ HI0⟩, ⟨kb_ HK.out⟩, ⟨bi103_ HB.out⟩⟩
       ·rw [if_neg c18] at H
        exact absurd H (by simp)
     ·replace c10 := Bool.eq_false_iff.mpr c10
      subst c10
      have H1 : (some (x7_1, x1001_1, x1002_1)) = some (r1, r2, r3) := by rw [if_neg (show ¬ (false = true) by decide)] at H; exact H
      clear H
      have H := H1
      clear H1
      simp only [Option.some.injEq, Prod.mk.injEq] at H
      obtain ⟨rfl, rfl, rfl⟩ := H
      go_wp2
      go_ret
      exact ⟨_, er_, Rx_ HO_7.out, is103_ HI0, bi103_ HB.out, kb_ HK.out⟩

end Go.Proofs.Ytbcdngjajjgmkaa.PFnSimplify
