/- Written by this session's program out of the kit's print and this session's contracts. -/
import Derived.Test.YtbcdngjajjgmkaaVFnExactSimplifyPresentationPx0
import Derived.Test.YtbcdngjajjgmkaaVFnExactSimplifyPresentationPx11
import Derived.Test.YtbcdngjajjgmkaaVFnExactSimplifyPresentationPx12
import Derived.Test.YtbcdngjajjgmkaaVFnExactSimplifyPresentationPx13
import Derived.Test.YtbcdngjajjgmkaaVFnExactSimplifyPresentationPx14
import Derived.Test.YtbcdngjajjgmkaaVFnExactSimplifyPresentationPx15
import Derived.Test.YtbcdngjajjgmkaaVFnExactSimplifyPresentationPx16
namespace Go.Proofs.Ytbcdngjajjgmkaa.PFnExactSimplifyPresentation
open Go.RowKit Go.Proofs.YtbcdngjajjgmkaaW.PrintWords Go.Proofs.YtbcdngjajjgmkaaW.PrintLast Go.Proofs.YtbcdngjajjgmkaaW.PrintMore
set_option linter.unusedVariables false
set_option linter.unusedSimpArgs false

/-! ### impl_simplifying: function 105 -/
mutual
def impl_simplifying.l0 : Nat → Int → Int → Int → List (List Int) → Option (Int × Int × Int × List Int × Int × (List (List Int)) × Bool)
 | 0, _, _, _, _ => none
 | k + 1, x24, x25, x421000, x421001 => if x25 < x24 then (impl_simplifying.l1 k x25 1 x24 x25 x421000 x421001) else (some (0, 0, 0, ([] : List Int), x421000, x421001, false))
def impl_simplifying.l1 : Nat → Int → Int → Int → Int → Int → List (List Int) → Option (Int × Int × Int × List Int × Int × (List (List Int)) × Bool)
 | 0, _, _, _, _, _, _ => none
 | k + 1, x7, x8, x24, x25, x421000, x421001 => if x8 ≤ x421000 then ((impl_isPossible.f k x421000 x421001 5 x7 x8 ([] : List Int)).bind fun t430 => (if t430 = true then ((impl_moved.f k x421000 x421001 5 x7 x8 ([] : List Int)).bind fun bt431 => ((impl_isPresentation.f k bt431.1 bt431.2).bind fun t436 => (if t436 = true then (some (5, x7, x8, ([] : List Int), bt431.1, bt431.2, true)) else (impl_simplifying.l1 k x7 (wrap64 (x8 + 1)) x24 x25 x421000 x421001)))) else (impl_simplifying.l1 k x7 (wrap64 (x8 + 1)) x24 x25 x421000 x421001))) else (impl_simplifying.l0 k x24 (wrap64 (x25 + 1)) x421000 x421001)
end
def impl_simplifying.f (k : Nat) (a0_0 : Int) (l0_1 : List (List Int)) : Option (Int × Int × Int × List Int × Int × (List (List Int)) × Bool) := (indexEmpty.f l0_1).bind fun t423 => (if t423 ≥ 0 then ((impl_moved.f k a0_0 l0_1 4 t423 0 ([] : List Int)).bind fun bt425 => (some (4, t423, 0, ([] : List Int), bt425.1, bt425.2, true))) else (impl_simplifying.l0 k (l0_1.length : Int) 0 a0_0 l0_1))
theorem impl_moved.calls_in (k : Nat) (a0_0 : Int) (A0_1 : Option Addr) (c0_1 : Nat) (l0_1 : List (List Int)) (a1_0 : Int) (a1_1 : Int) (a1_2 : Int) (A1_3 : Option Addr) (c1_3 : Nat) (l1_3 : List Int) (r1 : Int) (r2 : List (List Int)) (w : World) (hr0_1 : Kd.C (Kd.slice 2 (Kd.int .i64)) w A0_1 l0_1.length l0_1) (hc0_1 : l0_1.length ≤ c0_1) (hr1_3 : Kd.C (Kd.int .i64) w A1_3 l1_3.length l1_3) (hc1_3 : l1_3.length ≤ c1_3) (hk : a1_0 = 4 ∨ a1_0 = 5) (h : impl_moved.f k a0_0 l0_1 a1_0 a1_1 a1_2 l1_3 = some (r1, r2)) :
  Calls Try.prog 68 #[.agg #[.int .i64 a0_0, .slice A0_1 l0_1.length c0_1], .agg #[.int .i64 a1_0, .int .i64 a1_1, .int .i64 a1_2, .slice A1_3 l1_3.length c1_3]] w fun e w' => ∃ v0_ : Value, e = .returned (.agg #[.int .i64 r1, v0_]) ∧ Kd.S (Kd.slice 2 (Kd.int .i64)) 39 w' w.heap.size (fun _ => True) v0_ r2 ∧ Below w.heap.size w w' := by
 unfold impl_moved.f at h
 by_cases hT : l0_1.length ≤ 1000 ∧ (∀ x ∈ l0_1, x.length ≤ 1000) ∧ l1_3.length ≤ 2000000
 case neg => rw [if_neg hT] at h; cases h
 rw [if_pos hT] at h
 obtain ⟨cp, hcp, h⟩ := Option.bind_eq_some_iff.mp h
 by_cases hcl : cp.length = l0_1.length
 case neg => rw [if_neg hcl] at h; cases h
 rw [if_pos hcl] at h
 obtain ⟨⟨g2, rows⟩, hq, h⟩ := Option.bind_eq_some_iff.mp h
 obtain ⟨r, hr, h⟩ := Option.bind_eq_some_iff.mp h
 have h1 := congrArg Prod.fst (Option.some.inj h)
 have h2 := congrArg Prod.snd (Option.some.inj h)
 simp only at h1 h2 hr
 subst h1 h2
 obtain ⟨hlen, hrl, hwl⟩ := hT
 unfold mvRows at hq
 rcases hk with rfl | rfl
 ·rw [if_neg (by decide), if_neg (by decide), if_neg (by decide), if_pos rfl] at hq
  split at hq
  ·rename_i hc
   have e1 := congrArg Prod.fst (Option.some.inj hq)
   have e2 := congrArg Prod.snd (Option.some.inj hq)
   simp only at e1 e2
   subst e1
   exact impl_moved.calls_4 k a0_0 A0_1 c0_1 l0_1 a1_1 a1_2 A1_3 c1_3 l1_3 cp rows r w hr0_1 hc0_1 hr1_3 hc1_3 hlen hrl hwl hcp hcl hc e2.symm hr
  ·cases hq
 ·rw [if_neg (by decide), if_neg (by decide), if_neg (by decide), if_neg (by decide), if_pos rfl] at hq
  obtain ⟨⟨g3, rows3⟩, hq1, hq⟩ := Option.bind_eq_some_iff.mp hq
  split at hq
  ·rename_i hc
   have e1 := congrArg Prod.fst (Option.some.inj hq)
   have e2 := congrArg Prod.snd (Option.some.inj hq)
   simp only at e1 e2 hc
   subst e1 e2
   exact impl_moved.calls_5 k a0_0 A0_1 c0_1 l0_1 a1_1 a1_2 A1_3 c1_3 l1_3 cp rows3 r g3 w hr0_1 hc0_1 hr1_3 hc1_3 hlen hrl hwl hcp hcl ⟨hq1, hc⟩ rfl hr
  ·cases hq
def SQ (w : World) (b1 b2 b3 : Nat) (cs ms os : Array Value) (W : World) : Prop :=
 W.heap[b1]? = some (.cells cs 28 (0, 0)) ∧ W.heap[b2]? = some (.cells ms 44 (0, 0)) ∧ W.heap[b3]? = some (.cells os 28 (0, 0)) ∧ Below w.heap.size w W
def SD (w : World) (b1 b2 b3 : Nat) : Prop := b1 ≠ b2 ∧ b1 ≠ b3 ∧ b2 ≠ b3 ∧ w.heap.size ≤ b2 ∧ w.heap.size ≤ b3
def SX (w : World) (b1 b2 b3 b : Nat) : Prop := b1 ≠ b ∧ b2 ≠ b ∧ b3 ≠ b ∧ w.heap.size ≤ b
theorem box_put4 {W : World} {b t : Nat} {x0 x1 x2 x3 y0 y1 y2 y3 : Value} (h : W.heap[b]? = some (.cells #[y0, y1, y2, y3] t (0, 0))) : ((((W.setCell ⟨b, 0, none⟩ x0).setCell ⟨b, 1, none⟩ x1).setCell ⟨b, 2, none⟩ x2).setCell ⟨b, 3, none⟩ x3).heap[b]? = some (.cells #[x0, x1, x2, x3] t (0, 0)) :=
 blk_put (blk_put (blk_put (blk_put h 0 x0 rfl) 1 x1 rfl) 2 x2 rfl) 3 x3 rfl
theorem box_put2 {W : World} {b t : Nat} {x0 x1 y0 y1 : Value} (h : W.heap[b]? = some (.cells #[y0, y1] t (0, 0))) : ((W.setCell ⟨b, 0, none⟩ x0).setCell ⟨b, 1, none⟩ x1).heap[b]? = some (.cells #[x0, x1] t (0, 0)) := blk_put (blk_put h 0 x0 rfl) 1 x1 rfl
theorem box_far4 {W : World} {b c : Nat} {x0 x1 x2 x3 : Value} {v : Array Value} {t : Nat} (h : W.heap[c]? = some (.cells v t (0, 0))) (hne : c ≠ b) : ((((W.setCell ⟨b, 0, none⟩ x0).setCell ⟨b, 1, none⟩ x1).setCell ⟨b, 2, none⟩ x2).setCell ⟨b, 3, none⟩ x3).heap[c]? = some (.cells v t (0, 0)) := blk_far (blk_far (blk_far (blk_far h hne _) hne _) hne _) hne _
theorem box_far2 {W : World} {b c : Nat} {x0 x1 : Value} {v : Array Value} {t : Nat} (h : W.heap[c]? = some (.cells v t (0, 0))) (hne : c ≠ b) : ((W.setCell ⟨b, 0, none⟩ x0).setCell ⟨b, 1, none⟩ x1).heap[c]? = some (.cells v t (0, 0)) := blk_far (blk_far h hne _) hne _
theorem below_put4 {w W : World} {b : Nat} {x0 x1 x2 x3 : Value} (h : Below w.heap.size w W) (hb : w.heap.size ≤ b) : Below w.heap.size w ((((W.setCell ⟨b, 0, none⟩ x0).setCell ⟨b, 1, none⟩ x1).setCell ⟨b, 2, none⟩ x2).setCell ⟨b, 3, none⟩ x3) := below_set (below_set (below_set (below_set h hb) hb) hb) hb
theorem below_put2 {w W : World} {b : Nat} {x0 x1 : Value} (h : Below w.heap.size w W) (hb : w.heap.size ≤ b) : Below w.heap.size w ((W.setCell ⟨b, 0, none⟩ x0).setCell ⟨b, 1, none⟩ x1) := below_set (below_set h hb) hb
theorem S_put4 {W : World} {base b : Nat} {ok : Nat → Prop} {u : Value} {rows : List (List Int)} {x0 x1 x2 x3 y0 y1 y2 y3 : Value} (hs : Kd.S (Kd.slice 2 (Kd.int .i64)) 39 W base ok u rows) (h : W.heap[b]? = some (.cells #[y0, y1, y2, y3] 44 (0, 0))) : Kd.S (Kd.slice 2 (Kd.int .i64)) 39 ((((W.setCell ⟨b, 0, none⟩ x0).setCell ⟨b, 1, none⟩ x1).setCell ⟨b, 2, none⟩ x2).setCell ⟨b, 3, none⟩ x3) base ok u rows :=
 Kd.S_set (Kd.S_set (Kd.S_set (Kd.S_set hs h (by decide) 0 x0) (blk_put h 0 x0 rfl) (by decide) 1 x1) (blk_put (blk_put h 0 x0 rfl) 1 x1 rfl) (by decide) 2 x2) (blk_put (blk_put (blk_put h 0 x0 rfl) 1 x1 rfl) 2 x2 rfl) (by decide) 3 x3
theorem S_put2 {W : World} {base b : Nat} {ok : Nat → Prop} {u : Value} {rows : List (List Int)} {x0 x1 y0 y1 : Value} (hs : Kd.S (Kd.slice 2 (Kd.int .i64)) 39 W base ok u rows) (h : W.heap[b]? = some (.cells #[y0, y1] 28 (0, 0))) : Kd.S (Kd.slice 2 (Kd.int .i64)) 39 ((W.setCell ⟨b, 0, none⟩ x0).setCell ⟨b, 1, none⟩ x1) base ok u rows :=
 Kd.S_set (Kd.S_set hs h (by decide) 0 x0) (blk_put h 0 x0 rfl) (by decide) 1 x1
section
variable {w W W1 : World} {b1 b2 b3 bx : Nat} {cs ms os : Array Value}
theorem SQ.p (h : SQ w b1 b2 b3 cs ms os W) : W.heap[b1]? = some (.cells cs 28 (0, 0)) := h.1
theorem SQ.m (h : SQ w b1 b2 b3 cs ms os W) : W.heap[b2]? = some (.cells ms 44 (0, 0)) := h.2.1
theorem SQ.o (h : SQ w b1 b2 b3 cs ms os W) : W.heap[b3]? = some (.cells os 28 (0, 0)) := h.2.2.1
theorem SQ.b (h : SQ w b1 b2 b3 cs ms os W) : Below w.heap.size w W := h.2.2.2
theorem SQ.below (h : SQ w b1 b2 b3 cs ms os W) (hb : Below W.heap.size W W1) : SQ w b1 b2 b3 cs ms os W1 := ⟨blk_below h.p hb, blk_below h.m hb, blk_below h.o hb, below_step h.b hb⟩
theorem SQ.put4 (h : SQ w b1 b2 b3 cs ms os W) (hx : SX w b1 b2 b3 bx) {x0 x1 x2 x3 : Value} : SQ w b1 b2 b3 cs ms os ((((W.setCell ⟨bx, 0, none⟩ x0).setCell ⟨bx, 1, none⟩ x1).setCell ⟨bx, 2, none⟩ x2).setCell ⟨bx, 3, none⟩ x3) := ⟨box_far4 h.p hx.1, box_far4 h.m hx.2.1, box_far4 h.o hx.2.2.1, below_put4 h.b hx.2.2.2⟩
theorem SQ.put2 (h : SQ w b1 b2 b3 cs ms os W) (hx : SX w b1 b2 b3 bx) {x0 x1 : Value} : SQ w b1 b2 b3 cs ms os ((W.setCell ⟨bx, 0, none⟩ x0).setCell ⟨bx, 1, none⟩ x1) := ⟨box_far2 h.p hx.1, box_far2 h.m hx.2.1, box_far2 h.o hx.2.2.1, below_put2 h.b hx.2.2.2⟩
theorem SQ.m4 {x0 x1 x2 x3 y0 y1 y2 y3 : Value} (h : SQ w b1 b2 b3 cs #[y0, y1, y2, y3] os W) (hd : SD w b1 b2 b3) : SQ w b1 b2 b3 cs #[x0, x1, x2, x3] os ((((W.setCell ⟨b2, 0, none⟩ x0).setCell ⟨b2, 1, none⟩ x1).setCell ⟨b2, 2, none⟩ x2).setCell ⟨b2, 3, none⟩ x3) := ⟨box_far4 h.p hd.1, box_put4 h.m, box_far4 h.o hd.2.2.1.symm, below_put4 h.b hd.2.2.2.1⟩
theorem SQ.o2 {x0 x1 y0 y1 : Value} (h : SQ w b1 b2 b3 cs ms #[y0, y1] W) (hd : SD w b1 b2 b3) : SQ w b1 b2 b3 cs ms #[x0, x1] ((W.setCell ⟨b3, 0, none⟩ x0).setCell ⟨b3, 1, none⟩ x1) := ⟨box_far2 h.p hd.2.1, box_far2 h.m hd.2.2.1, box_put2 h.o, below_put2 h.b hd.2.2.2.2⟩
end
set_option maxHeartbeats 16000000 in
set_option maxRecDepth 100000 in
theorem impl_simplifying.run (k : Nat) (a0_0 : Int) (A0_1 : Option Addr) (c0_1 : Nat) (l0_1 : List (List Int)) (r1 r2 r3 : Int) (r4 : List Int) (r5 : Int) (r6 : List (List Int)) (r7 : Bool) (w : World) (hr0_1 : Kd.C (Kd.slice 2 (Kd.int .i64)) w A0_1 l0_1.length l0_1) (hc0_1 : l0_1.length ≤ c0_1) (h : impl_simplifying.f k a0_0 l0_1 = some (r1, r2, r3, r4, r5, r6, r7)) :
  Calls Try.prog 105 #[.agg #[.int .i64 a0_0, .slice A0_1 l0_1.length c0_1]] w fun e w' => ∃ (A5 : Option Addr) (n5 c5 : Nat), e = .returned (.tuple #[.agg #[.int .i64 r1, .int .i64 r2, .int .i64 r3, .slice none 0 0], .agg #[.int .i64 r5, .slice A5 n5 c5], .bool r7]) ∧ r4 = [] ∧ (r7 = true → Kd.S (Kd.slice 2 (Kd.int .i64)) 39 w' w.heap.size (fun _ => True) (.slice A5 n5 c5) r6) ∧ Below w.heap.size w w' := by
 unfold impl_simplifying.f at h
 obtain ⟨t343, hix, h⟩ := Option.bind_eq_some_iff.mp h
 have HR0 := Aside0.mk hr0_1
 have HC0 := Aside0.mk hc0_1
 have HIX := Aside0.mk fun (W : World) (hW : Below w.heap.size w W) => indexEmpty.calls A0_1 c0_1 l0_1 t343 W (Kd.C_below HR0.out hW) HC0.out hix
 clear hr0_1 hc0_1 hix
 by_cases c3 : t343 ≥ 0
 ·rw [if_pos c3] at h
  have c3b0 : decide (0 ≤ t343) = true := decide_eq_true c3
  clear c3
  obtain ⟨⟨g, rows⟩, hmv, h⟩ := Option.bind_eq_some_iff.mp h
  simp only [Option.some.injEq, Prod.mk.injEq] at h
  obtain ⟨rfl, rfl, rfl, rfl, rfl, rfl, rfl⟩ := h
  have HMV := Aside0.mk fun (W : World) (hW : Below w.heap.size w W) => impl_moved.calls_in k a0_0 A0_1 c0_1 l0_1 4 t343 0 none 0 [] g rows W (Kd.C_below HR0.out hW) HC0.out (Kd.C_nil _ _) (Nat.le_refl _) (.inl rfl) hmv
  clear hmv
  go_enter Try.func105, Try.ntmps105
  go_wp2_with (first
   | (refine be_ 1 28 #[.int .i64 a0_0, .slice A0_1 l0_1.length c0_1] ?_; intro b1 hg w2 hbox hb; have B1 := Aside0.mk hbox; have HB2 := Aside0.mk hb; clear hg hbox hb)
   | (refine be_ 2 44 #[.int .i64 0, .int .i64 0, .int .i64 0, .slice none 0 0] ?_; intro b2 hg w3 hbox hb; have B13 := Aside0.mk (blk_below B1.out hb); have G2 := Aside0.mk (show w.heap.size ≤ b2 by rw [hg]; exact HB2.out.size); have B2 := Aside0.mk hbox; have N12 := Aside0.mk (show b1 ≠ b2 by rw [hg]; exact Nat.ne_of_lt (blk_lt B1.out)); have HB3 := Aside0.mk (below_step HB2.out hb); clear hg hbox hb B1 HB2)
   | (refine be_ 3 28 #[.int .i64 0, .slice none 0 0] ?_; intro b3 hg w4 hbox hb; have HQ := Aside0.mk (show SQ w b1 b2 b3 #[.int .i64 a0_0, .slice A0_1 l0_1.length c0_1] #[.int .i64 0, .int .i64 0, .int .i64 0, .slice none 0 0] #[.int .i64 0, .slice none 0 0] w4 from ⟨blk_below B13.out hb, blk_below B2.out hb, hbox, below_step HB3.out hb⟩); have HD := Aside0.mk (show SD w b1 b2 b3 from ⟨N12.out, by rw [hg]; exact Nat.ne_of_lt (blk_lt B13.out), by rw [hg]; exact Nat.ne_of_lt (blk_lt B2.out), G2.out, by rw [hg]; exact HB3.out.size⟩); clear hg hbox hb B13 B2 HB3 N12 G2; have q11 : w4.cell? ⟨b1, 1, none⟩ = some (.slice A0_1 l0_1.length c0_1) := (blk_cell HQ.out.p 1).trans rfl)
   | (go_at_call 111; refine (HIX.out _ HQ.out.b).mono ?_; rintro e w5 ⟨rfl, hb⟩; have HQ5 := Aside0.mk (HQ.out.below hb); clear hb q11 HQ HIX; have q11 : w5.cell? ⟨b1, 1, none⟩ = some (.slice A0_1 l0_1.length c0_1) := (blk_cell HQ5.out.p 1).trans rfl)
   | (refine be_ 6 44 #[.int .i64 0, .int .i64 0, .int .i64 0, .slice none 0 0] ?_; intro b6 hg w6 hbox hb; have HX6 := Aside0.mk (show SX w b1 b2 b3 b6 from ⟨by rw [hg]; exact Nat.ne_of_lt (blk_lt HQ5.out.p), by rw [hg]; exact Nat.ne_of_lt (blk_lt HQ5.out.m), by rw [hg]; exact Nat.ne_of_lt (blk_lt HQ5.out.o), by rw [hg]; exact HQ5.out.b.size⟩); have HQ6 := Aside0.mk (HQ5.out.below hb); have BM := Aside0.mk hbox; clear hg hbox hb q11 HQ5; have z0 : w6.cell? ⟨b6, 0, none⟩ = some (.int .i64 0) := (blk_cell BM.out 0).trans rfl; have z1 : w6.cell? ⟨b6, 1, none⟩ = some (.int .i64 0) := (blk_cell BM.out 1).trans rfl; have z2 : w6.cell? ⟨b6, 2, none⟩ = some (.int .i64 0) := (blk_cell BM.out 2).trans rfl; have z3 : w6.cell? ⟨b6, 3, none⟩ = some (.slice none 0 0) := (blk_cell BM.out 3).trans rfl; have zf0 := blk_frozen BM.out 0; have zf1 := blk_frozen BM.out 1; have zf2 := blk_frozen BM.out 2; have zf3 := blk_frozen BM.out 3))
  clear z0 z1 z2 z3 zf0 zf1 zf2 zf3
  have HQ7 := Aside0.mk (show SQ w b1 b2 b3 #[.int .i64 a0_0, .slice A0_1 l0_1.length c0_1] #[.int .i64 0, .int .i64 0, .int .i64 0, .slice none 0 0] #[.int .i64 0, .slice none 0 0] ((((w6.setCell ⟨b6, 0, none⟩ (.int .i64 4)).setCell ⟨b6, 1, none⟩ (.int .i64 t343)).setCell ⟨b6, 2, none⟩ (.int .i64 0)).setCell ⟨b6, 3, none⟩ (.slice none 0 0)) from HQ6.out.put4 HX6.out)
  have BM7 := Aside0.mk (show ((((w6.setCell ⟨b6, 0, none⟩ (.int .i64 4)).setCell ⟨b6, 1, none⟩ (.int .i64 t343)).setCell ⟨b6, 2, none⟩ (.int .i64 0)).setCell ⟨b6, 3, none⟩ (.slice none 0 0)).heap[b6]? = some (.cells #[.int .i64 4, .int .i64 t343, .int .i64 0, .slice none 0 0] 44 (0, 0)) from box_put4 BM.out)
  clear HQ6 BM
  generalize ((((w6.setCell ⟨b6, 0, none⟩ (.int .i64 4)).setCell ⟨b6, 1, none⟩ (.int .i64 t343)).setCell ⟨b6, 2, none⟩ (.int .i64 0)).setCell ⟨b6, 3, none⟩ (.slice none 0 0)) = w7 at HQ7 BM7 ⊢
  have hb1 := below_drew1 (Below.refl w7.heap.size w7)
  have HQ8 := Aside0.mk (HQ7.out.below hb1)
  have BM8 := Aside0.mk (blk_below BM7.out hb1)
  refine start_ (n := 7) (S := fun w' => w'.cell? ⟨b6, 0, none⟩ = some (.int .i64 4) ∧ w'.cell? ⟨b6, 1, none⟩ = some (.int .i64 t343) ∧ w'.cell? ⟨b6, 2, none⟩ = some (.int .i64 0) ∧ w'.cell? ⟨b6, 3, none⟩ = some (.slice none 0 0) ∧ w'.cell? ⟨b1, 0, none⟩ = some (.int .i64 a0_0) ∧ w'.cell? ⟨b1, 1, none⟩ = some (.slice A0_1 l0_1.length c0_1)) (ds := []) (kA_ 7 0) (by kernel_rfl) rfl (by kernel_rfl) ⟨(blk_cell BM8.out 0).trans rfl, (blk_cell BM8.out 1).trans rfl, (blk_cell BM8.out 2).trans rfl, (blk_cell BM8.out 3).trans rfl, (blk_cell HQ8.out.p 0).trans rfl, (blk_cell HQ8.out.p 1).trans rfl⟩ (fun hHeld => ?_)
  clear HQ7 BM7 hb1
  generalize w7.drew = w8 at HQ8 BM8 hHeld ⊢
  refine kt_ 0 18 (kA_ 7 1) hHeld ?_
  refine kt_ 1 19 (kA_ 7 3) hHeld ?_
  refine kt_ 2 20 (kA_ 7 7) hHeld ?_
  refine oa_ 3 21 (kA_ 7 15) (fun K hK => ?_)
  go_simp
  go_at_call 68
  refine (HMV.out _ HQ8.out.b).mono ?_
  rintro e w9 ⟨u, rfl, ho, hb⟩
  obtain ⟨Au, cu, eu⟩ := Kd.S_slice ho
  subst eu
  have HS9 := Aside0.mk (Kd.S_lower ho HQ8.out.b.size)
  have HQ9 := Aside0.mk (HQ8.out.below hb)
  have BM9 := Aside0.mk (blk_below BM8.out hb)
  clear ho hb HQ8 BM8 HMV hHeld
  refine hK.out _ _ ⟨(blk_cell BM9.out 0).trans rfl, (blk_cell BM9.out 1).trans rfl, (blk_cell BM9.out 2).trans rfl, (blk_cell BM9.out 3).trans rfl, (blk_cell HQ9.out.p 0).trans rfl, (blk_cell HQ9.out.p 1).trans rfl⟩ (fun hHeld => ?_)
  clear hK K
  have y0 : w9.cell? ⟨b2, 0, none⟩ = some (.int .i64 0) := (blk_cell HQ9.out.m 0).trans rfl
  have yf0 := blk_frozen HQ9.out.m 0
  have y1 : w9.cell? ⟨b2, 1, none⟩ = some (.int .i64 0) := (blk_cell HQ9.out.m 1).trans rfl
  have yf1 := blk_frozen HQ9.out.m 1
  have y2 : w9.cell? ⟨b2, 2, none⟩ = some (.int .i64 0) := (blk_cell HQ9.out.m 2).trans rfl
  have yf2 := blk_frozen HQ9.out.m 2
  have y3 : w9.cell? ⟨b2, 3, none⟩ = some (.slice none 0 0) := (blk_cell HQ9.out.m 3).trans rfl
  have yf3 := blk_frozen HQ9.out.m 3
  refine one_ (i := 4) (N := none) (kA_ 7 31) rfl rfl (by kernel_rfl) (by decide) (fun K hK => ?_)
  refine skip_ (w1 := ?_) (by rfl) rfl ?_ ?_
  rotate_left
  ·go_simp
   rfl
  have HQ9a := Aside0.mk (show SQ w b1 b2 b3 #[.int .i64 a0_0, .slice A0_1 l0_1.length c0_1] #[.int .i64 4, .int .i64 t343, .int .i64 0, .slice none 0 0] #[.int .i64 0, .slice none 0 0] ((((w9.setCell ⟨b2, 0, none⟩ (.int .i64 4)).setCell ⟨b2, 1, none⟩ (.int .i64 t343)).setCell ⟨b2, 2, none⟩ (.int .i64 0)).setCell ⟨b2, 3, none⟩ (.slice none 0 0)) from HQ9.out.m4 HD.out)
  have BM9a := Aside0.mk (show ((((w9.setCell ⟨b2, 0, none⟩ (.int .i64 4)).setCell ⟨b2, 1, none⟩ (.int .i64 t343)).setCell ⟨b2, 2, none⟩ (.int .i64 0)).setCell ⟨b2, 3, none⟩ (.slice none 0 0)).heap[b6]? = _ from box_far4 BM9.out (Ne.symm HX6.out.2.1))
  have HS9a := Aside0.mk (show Kd.S (Kd.slice 2 (Kd.int .i64)) 39 ((((w9.setCell ⟨b2, 0, none⟩ (.int .i64 4)).setCell ⟨b2, 1, none⟩ (.int .i64 t343)).setCell ⟨b2, 2, none⟩ (.int .i64 0)).setCell ⟨b2, 3, none⟩ (.slice none 0 0)) w.heap.size (fun _ => True) (.slice Au rows.length cu) _ from S_put4 HS9.out HQ9.out.m)
  clear y0 y1 y2 y3 yf0 yf1 yf2 yf3 hHeld HQ9 HS9 BM9
  refine hK.out _ _ ⟨(blk_cell BM9a.out 0).trans rfl, (blk_cell BM9a.out 1).trans rfl, (blk_cell BM9a.out 2).trans rfl, (blk_cell BM9a.out 3).trans rfl, (blk_cell HQ9a.out.p 0).trans rfl, (blk_cell HQ9a.out.p 1).trans rfl⟩ (fun hHeld => ?_)
  clear hK K
  generalize ((((w9.setCell ⟨b2, 0, none⟩ (.int .i64 4)).setCell ⟨b2, 1, none⟩ (.int .i64 t343)).setCell ⟨b2, 2, none⟩ (.int .i64 0)).setCell ⟨b2, 3, none⟩ (.slice none 0 0)) = w9a at HQ9a HS9a BM9a hHeld ⊢
  have y0 : w9a.cell? ⟨b3, 0, none⟩ = some (.int .i64 0) := (blk_cell HQ9a.out.o 0).trans rfl
  have yf0 := blk_frozen HQ9a.out.o 0
  have y1 : w9a.cell? ⟨b3, 1, none⟩ = some (.slice none 0 0) := (blk_cell HQ9a.out.o 1).trans rfl
  have yf1 := blk_frozen HQ9a.out.o 1
  refine one_ (i := 5) (N := none) (kA_ 7 63) rfl rfl (by kernel_rfl) (by decide) (fun K hK => ?_)
  refine skip_ (w1 := ?_) (by rfl) rfl ?_ ?_
  rotate_left
  ·go_simp
   rfl
  have HQ9b := Aside0.mk (show SQ w b1 b2 b3 #[.int .i64 a0_0, .slice A0_1 l0_1.length c0_1] #[.int .i64 4, .int .i64 t343, .int .i64 0, .slice none 0 0] #[.int .i64 g, .slice Au rows.length cu] ((w9a.setCell ⟨b3, 0, none⟩ (.int .i64 g)).setCell ⟨b3, 1, none⟩ (.slice Au rows.length cu)) from HQ9a.out.o2 HD.out)
  have BM9b := Aside0.mk (show ((w9a.setCell ⟨b3, 0, none⟩ (.int .i64 g)).setCell ⟨b3, 1, none⟩ (.slice Au rows.length cu)).heap[b6]? = _ from box_far2 BM9a.out (Ne.symm HX6.out.2.2.1))
  have HS9b := Aside0.mk (show Kd.S (Kd.slice 2 (Kd.int .i64)) 39 ((w9a.setCell ⟨b3, 0, none⟩ (.int .i64 g)).setCell ⟨b3, 1, none⟩ (.slice Au rows.length cu)) w.heap.size (fun _ => True) (.slice Au rows.length cu) _ from S_put2 HS9a.out HQ9a.out.o)
  clear y0 y1 yf0 yf1 hHeld HQ9a HS9a BM9a
  refine hK.out _ _ ⟨(blk_cell BM9b.out 0).trans rfl, (blk_cell BM9b.out 1).trans rfl, (blk_cell BM9b.out 2).trans rfl, (blk_cell BM9b.out 3).trans rfl, (blk_cell HQ9b.out.p 0).trans rfl, (blk_cell HQ9b.out.p 1).trans rfl⟩ (fun hHeld => ?_)
  clear hK K
  generalize ((w9a.setCell ⟨b3, 0, none⟩ (.int .i64 g)).setCell ⟨b3, 1, none⟩ (.slice Au rows.length cu)) = w9b at HQ9b HS9b BM9b hHeld ⊢
  refine kz_ 6 4 (kA_ 7 127) ?_
  refine done_ (by kernel_rfl) ?_
  try go_wp2
  refine bodyPost_ret (results_list (rs := [.cell 2 44, .cell 3 28, .tmp 4]) rfl (by simp) (.cell b2 44 #[.int .i64 4, .int .i64 t343, .int .i64 0, .slice none 0 0] (0, 0) _ rfl HQ9b.out.m Try.underlying44 rfl (by kernel_rfl) (.cell b3 28 #[.int .i64 g, .slice Au rows.length cu] (0, 0) _ rfl HQ9b.out.o Try.underlying28 rfl (by kernel_rfl) (.tmp .nil)))) rfl ?_
  (try refine ⟨_, _, _, by first | rfl | trivial, ?_⟩)
  first | exact ⟨rfl, fun _ => HS9b.out, HQ9b.out.b⟩ | exact ⟨trivial, fun _ => HS9b.out, HQ9b.out.b⟩ | exact ⟨fun _ => HS9b.out, HQ9b.out.b⟩ | exact ⟨rfl, HS9b.out, HQ9b.out.b⟩ | exact ⟨HS9b.out, HQ9b.out.b⟩ | exact ⟨⟨_, _, _, rfl⟩, HQ9b.out.b⟩ | exact HQ9b.out.b
 ·rw [if_neg c3] at h
  have c3b0 : decide (0 ≤ t343) = false := decide_eq_false c3
  clear c3
  have H' := Aside0.mk h
  clear h
  go_enter Try.func105, Try.ntmps105
  go_wp2_with (first
   | (refine be_ 1 28 #[.int .i64 a0_0, .slice A0_1 l0_1.length c0_1] ?_; intro b1 hg w2 hbox hb; have B1 := Aside0.mk hbox; have HB2 := Aside0.mk hb; clear hg hbox hb)
   | (refine be_ 2 44 #[.int .i64 0, .int .i64 0, .int .i64 0, .slice none 0 0] ?_; intro b2 hg w3 hbox hb; have B13 := Aside0.mk (blk_below B1.out hb); have G2 := Aside0.mk (show w.heap.size ≤ b2 by rw [hg]; exact HB2.out.size); have B2 := Aside0.mk hbox; have N12 := Aside0.mk (show b1 ≠ b2 by rw [hg]; exact Nat.ne_of_lt (blk_lt B1.out)); have HB3 := Aside0.mk (below_step HB2.out hb); clear hg hbox hb B1 HB2)
   | (refine be_ 3 28 #[.int .i64 0, .slice none 0 0] ?_; intro b3 hg w4 hbox hb; have HQ := Aside0.mk (show SQ w b1 b2 b3 #[.int .i64 a0_0, .slice A0_1 l0_1.length c0_1] #[.int .i64 0, .int .i64 0, .int .i64 0, .slice none 0 0] #[.int .i64 0, .slice none 0 0] w4 from ⟨blk_below B13.out hb, blk_below B2.out hb, hbox, below_step HB3.out hb⟩); have HD := Aside0.mk (show SD w b1 b2 b3 from ⟨N12.out, by rw [hg]; exact Nat.ne_of_lt (blk_lt B13.out), by rw [hg]; exact Nat.ne_of_lt (blk_lt B2.out), G2.out, by rw [hg]; exact HB3.out.size⟩); clear hg hbox hb B13 B2 HB3 N12 G2; have q11 : w4.cell? ⟨b1, 1, none⟩ = some (.slice A0_1 l0_1.length c0_1) := (blk_cell HQ.out.p 1).trans rfl)
   | (go_at_call 111; refine (HIX.out _ HQ.out.b).mono ?_; rintro e w5 ⟨rfl, hb⟩; have HQ5 := Aside0.mk (HQ.out.below hb); clear hb q11 HQ HIX; have q11 : w5.cell? ⟨b1, 1, none⟩ = some (.slice A0_1 l0_1.length c0_1) := (blk_cell HQ5.out.p 1).trans rfl))
  go_loopg [25] k (fun kq v25 w' => ∃ x25 : Int, v25 = .int .i64 x25 ∧ Aside0 (impl_simplifying.l0 kq (l0_1.length : Int) x25 a0_0 l0_1 = some (r1, r2, r3, r4, r5, r6, r7)) ∧ Aside0 (kq ≤ k) ∧ Aside0 (SQ w b1 b2 b3 #[.int .i64 a0_0, .slice A0_1 l0_1.length c0_1] #[.int .i64 0, .int .i64 0, .int .i64 0, .slice none 0 0] #[.int .i64 0, .slice none 0 0] w'))
  case atStart => exact ⟨0, rfl, H', ⟨Nat.le_refl _⟩, HQ5⟩
  case round =>
   clear H' HQ5 q11
   obtain ⟨x25, rfl, HA, HK1, HQ⟩ := hrel
   cases gk with
   | zero => exact absurd HA.out (by simp [impl_simplifying.l0])
   | succ k1 =>
    have H := HA.out
    clear HA
    simp only [impl_simplifying.l0] at H
    have q10 : wr.cell? ⟨b1, 0, none⟩ = some (.int .i64 a0_0) := (blk_cell HQ.out.p 0).trans rfl
    have q11 : wr.cell? ⟨b1, 1, none⟩ = some (.slice A0_1 l0_1.length c0_1) := (blk_cell HQ.out.p 1).trans rfl
    by_cases c35 : x25 < (l0_1.length : Int)
    ·rw [if_pos c35] at H
     have c35b0 : decide (x25 < (l0_1.length : Int)) = true := decide_eq_true c35
     clear c35
     have H' := Aside0.mk H
     clear H
     go_wp2
     clear q10 q11
     go_loopg [8] k1 (fun kq v8 w' => ∃ x8 : Int, v8 = .int .i64 x8 ∧ Aside0 (impl_simplifying.l1 kq x25 x8 (l0_1.length : Int) x25 a0_0 l0_1 = some (r1, r2, r3, r4, r5, r6, r7)) ∧ Aside0 (kq ≤ k1) ∧ Aside0 (SQ w b1 b2 b3 #[.int .i64 a0_0, .slice A0_1 l0_1.length c0_1] #[.int .i64 0, .int .i64 0, .int .i64 0, .slice none 0 0] #[.int .i64 0, .slice none 0 0] w'))
     case atStart => exact ⟨1, rfl, H', ⟨Nat.le_refl _⟩, HQ⟩
     case round =>
      clear H' HQ
      obtain ⟨x8, rfl, HA, HK2, HQ⟩ := hrel
      cases gk with
      | zero => exact absurd HA.out (by simp [impl_simplifying.l1])
      | succ k2 =>
       have H := HA.out
       clear HA
       simp only [impl_simplifying.l1] at H
       have q10 : wr.cell? ⟨b1, 0, none⟩ = some (.int .i64 a0_0) := (blk_cell HQ.out.p 0).trans rfl
       have q11 : wr.cell? ⟨b1, 1, none⟩ = some (.slice A0_1 l0_1.length c0_1) := (blk_cell HQ.out.p 1).trans rfl
       by_cases c36 : x8 ≤ a0_0
       ·rw [if_pos c36] at H
        have c36b0 : decide (x8 ≤ a0_0) = true := decide_eq_true c36
        clear c36
        obtain ⟨t350, hpo, H⟩ := Option.bind_eq_some_iff.mp H
        have HPO := Aside0.mk fun (W : World) (hW : Below w.heap.size w W) => impl_isPossible.calls k2 a0_0 A0_1 c0_1 l0_1 5 x25 x8 none 0 [] t350 W (Kd.C_below HR0.out hW) HC0.out (Kd.C_nil _ _) (Nat.le_refl _) hpo
        clear hpo
        by_cases c38 : t350 = true
        ·subst c38
         rw [if_pos rfl] at H
         obtain ⟨⟨g, rows⟩, hmv, H⟩ := Option.bind_eq_some_iff.mp H
         obtain ⟨t356, hpr, H⟩ := Option.bind_eq_some_iff.mp H
         simp only at hpr H
         have HMV := Aside0.mk fun (W : World) (hW : Below w.heap.size w W) => impl_moved.calls_in k2 a0_0 A0_1 c0_1 l0_1 5 x25 x8 none 0 [] g rows W (Kd.C_below HR0.out hW) HC0.out (Kd.C_nil _ _) (Nat.le_refl _) (.inr rfl) hmv
         have HPR := Aside0.mk fun (W : World) (A : Option Addr) (c : Nat) (hC : Kd.C (Kd.slice 2 (Kd.int .i64)) W A rows.length rows) (hc : rows.length ≤ c) => impl_isPresentation.calls k2 g A c rows t356 W hC hc hpr
         clear hmv hpr
         by_cases c41 : t356 = true
         ·subst c41
          rw [if_pos rfl] at H
          simp only [Option.some.injEq, Prod.mk.injEq] at H
          obtain ⟨rfl, rfl, rfl, rfl, rfl, rfl, rfl⟩ := H
          go_wp2_with (first
           | (refine be_ 9 44 #[.int .i64 0, .int .i64 0, .int .i64 0, .slice none 0 0] ?_; intro b9 hg w9 hbox hb; have HX9 := Aside0.mk (show SX w b1 b2 b3 b9 from ⟨by rw [hg]; exact Nat.ne_of_lt (blk_lt HQ.out.p), by rw [hg]; exact Nat.ne_of_lt (blk_lt HQ.out.m), by rw [hg]; exact Nat.ne_of_lt (blk_lt HQ.out.o), by rw [hg]; exact HQ.out.b.size⟩); have HQ9 := Aside0.mk (HQ.out.below hb); have BM := Aside0.mk hbox; have hn91 := HX9.out.1; have hn19 := HX9.out.1.symm; have q10 : w9.cell? ⟨b1, 0, none⟩ = some (.int .i64 a0_0) := (blk_cell HQ9.out.p 0).trans rfl; have q11 : w9.cell? ⟨b1, 1, none⟩ = some (.slice A0_1 l0_1.length c0_1) := (blk_cell HQ9.out.p 1).trans rfl; clear hg hbox hb HQ; have z0 : w9.cell? ⟨b9, 0, none⟩ = some (.int .i64 0) := (blk_cell BM.out 0).trans rfl; have zf0 := blk_frozen BM.out 0; have z1 : w9.cell? ⟨b9, 1, none⟩ = some (.int .i64 0) := (blk_cell BM.out 1).trans rfl; have zf1 := blk_frozen BM.out 1; have z2 : w9.cell? ⟨b9, 2, none⟩ = some (.int .i64 0) := (blk_cell BM.out 2).trans rfl; have zf2 := blk_frozen BM.out 2; have z3 : w9.cell? ⟨b9, 3, none⟩ = some (.slice none 0 0) := (blk_cell BM.out 3).trans rfl; have zf3 := blk_frozen BM.out 3)
           | (go_at_call 67; refine (HPO.out _ (below_put4 HQ9.out.b HX9.out.2.2.2)).mono ?_; rintro e w10 ⟨rfl, hb⟩; have HQ10 := Aside0.mk ((show SQ w b1 b2 b3 #[.int .i64 a0_0, .slice A0_1 l0_1.length c0_1] #[.int .i64 0, .int .i64 0, .int .i64 0, .slice none 0 0] #[.int .i64 0, .slice none 0 0] ((((w9.setCell ⟨b9, 0, none⟩ (.int .i64 5)).setCell ⟨b9, 1, none⟩ (.int .i64 x25)).setCell ⟨b9, 2, none⟩ (.int .i64 x8)).setCell ⟨b9, 3, none⟩ (.slice none 0 0)) from HQ9.out.put4 HX9.out).below hb); have BM10 := Aside0.mk (blk_below (show ((((w9.setCell ⟨b9, 0, none⟩ (.int .i64 5)).setCell ⟨b9, 1, none⟩ (.int .i64 x25)).setCell ⟨b9, 2, none⟩ (.int .i64 x8)).setCell ⟨b9, 3, none⟩ (.slice none 0 0)).heap[b9]? = some (.cells #[.int .i64 5, .int .i64 x25, .int .i64 x8, .slice none 0 0] 44 (0, 0)) from box_put4 BM.out) hb); clear hb z0 z1 z2 z3 zf0 zf1 zf2 zf3 q10 q11 HQ9 BM HPO; have p0 : w10.cell? ⟨b1, 0, none⟩ = some (.int .i64 a0_0) := (blk_cell HQ10.out.p 0).trans rfl; have p1 : w10.cell? ⟨b1, 1, none⟩ = some (.slice A0_1 l0_1.length c0_1) := (blk_cell HQ10.out.p 1).trans rfl; have z0 : w10.cell? ⟨b9, 0, none⟩ = some (.int .i64 5) := (blk_cell BM10.out 0).trans rfl; have z1 : w10.cell? ⟨b9, 1, none⟩ = some (.int .i64 x25) := (blk_cell BM10.out 1).trans rfl; have z2 : w10.cell? ⟨b9, 2, none⟩ = some (.int .i64 x8) := (blk_cell BM10.out 2).trans rfl; have z3 : w10.cell? ⟨b9, 3, none⟩ = some (.slice none 0 0) := (blk_cell BM10.out 3).trans rfl)
           | (go_at_call 68; refine (HMV.out _ HQ10.out.b).mono ?_; rintro e w11 ⟨u, rfl, ho, hb⟩; obtain ⟨Au, cu, eu⟩ := Kd.S_slice ho; subst eu; have HS11 := Aside0.mk (Kd.S_lower ho HQ10.out.b.size); have HQ11 := Aside0.mk (HQ10.out.below hb); have BM11 := Aside0.mk (blk_below BM10.out hb); clear ho hb p0 p1 z0 z1 z2 z3 HQ10 BM10 HMV)
           | (refine be_ 10 28 #[.int .i64 0, .slice none 0 0] ?_; intro b10 hg w12 hbox hb; have HX10 := Aside0.mk (show SX w b1 b2 b3 b10 ∧ b9 ≠ b10 from ⟨⟨by rw [hg]; exact Nat.ne_of_lt (blk_lt HQ11.out.p), by rw [hg]; exact Nat.ne_of_lt (blk_lt HQ11.out.m), by rw [hg]; exact Nat.ne_of_lt (blk_lt HQ11.out.o), by rw [hg]; exact HQ11.out.b.size⟩, by rw [hg]; exact Nat.ne_of_lt (blk_lt BM11.out)⟩); have HQ12 := Aside0.mk (HQ11.out.below hb); have BM12 := Aside0.mk (blk_below BM11.out hb); have HS12 := Aside0.mk (Kd.S_below HS11.out hb); have BO := Aside0.mk hbox; clear hg hbox hb HQ11 BM11 HS11; have z0 : w12.cell? ⟨b10, 0, none⟩ = some (.int .i64 0) := (blk_cell BO.out 0).trans rfl; have z1 : w12.cell? ⟨b10, 1, none⟩ = some (.slice none 0 0) := (blk_cell BO.out 1).trans rfl; have zf0 := blk_frozen BO.out 0; have zf1 := blk_frozen BO.out 1)
           | (go_at_call 59; have HS13 := Aside0.mk (show Kd.S (Kd.slice 2 (Kd.int .i64)) 39 ((w12.setCell ⟨b10, 0, none⟩ (.int .i64 g)).setCell ⟨b10, 1, none⟩ (.slice Au rows.length cu)) w.heap.size (fun _ => True) (.slice Au rows.length cu) rows from S_put2 HS12.out BO.out); refine (HPR.out _ Au cu (Kd.S_reads' HS13.out).2.2 (Kd.S_reads' HS13.out).2.1).mono ?_; rintro e w13 ⟨rfl, hb⟩; have HS14 := Aside0.mk (Kd.S_below HS13.out hb); have HQ14 := Aside0.mk ((show SQ w b1 b2 b3 #[.int .i64 a0_0, .slice A0_1 l0_1.length c0_1] #[.int .i64 0, .int .i64 0, .int .i64 0, .slice none 0 0] #[.int .i64 0, .slice none 0 0] ((w12.setCell ⟨b10, 0, none⟩ (.int .i64 g)).setCell ⟨b10, 1, none⟩ (.slice Au rows.length cu)) from HQ12.out.put2 HX10.out.1).below hb); have BM14 := Aside0.mk (blk_below (show ((w12.setCell ⟨b10, 0, none⟩ (.int .i64 g)).setCell ⟨b10, 1, none⟩ (.slice Au rows.length cu)).heap[b9]? = _ from box_far2 BM12.out HX10.out.2) hb); have BO14 := Aside0.mk (blk_below (show ((w12.setCell ⟨b10, 0, none⟩ (.int .i64 g)).setCell ⟨b10, 1, none⟩ (.slice Au rows.length cu)).heap[b10]? = some (.cells #[.int .i64 g, .slice Au rows.length cu] 28 (0, 0)) from box_put2 BO.out) hb); clear hb z0 z1 zf0 zf1 HS13 HS12 HQ12 BM12 BO HPR))
          have hb1 := below_drew1 (Below.refl w13.heap.size w13)
          have HQ15 := Aside0.mk (HQ14.out.below hb1)
          have BM15 := Aside0.mk (blk_below BM14.out hb1)
          have BO15 := Aside0.mk (blk_below BO14.out hb1)
          have HS15 := Aside0.mk (Kd.S_below HS14.out hb1)
          refine start_ (n := 5) (S := fun w' => w'.cell? ⟨b9, 0, none⟩ = some (.int .i64 5) ∧ w'.cell? ⟨b9, 1, none⟩ = some (.int .i64 x25) ∧ w'.cell? ⟨b9, 2, none⟩ = some (.int .i64 x8) ∧ w'.cell? ⟨b9, 3, none⟩ = some (.slice none 0 0) ∧ w'.cell? ⟨b10, 0, none⟩ = some (.int .i64 g) ∧ w'.cell? ⟨b10, 1, none⟩ = some (.slice Au rows.length cu)) (ds := []) (kA_ 5 0) (by kernel_rfl) rfl (by kernel_rfl) ⟨(blk_cell BM15.out 0).trans rfl, (blk_cell BM15.out 1).trans rfl, (blk_cell BM15.out 2).trans rfl, (blk_cell BM15.out 3).trans rfl, (blk_cell BO15.out 0).trans rfl, (blk_cell BO15.out 1).trans rfl⟩ (fun hHeld => ?_)
          clear HQ14 BM14 BO14 HS14 hb1
          generalize w13.drew = w15 at HQ15 BM15 BO15 HS15 hHeld ⊢
          refine kt_ 0 46 (kA_ 5 1) hHeld ?_
          refine kt_ 1 47 (kA_ 5 3) hHeld ?_
          have y0 : w15.cell? ⟨b2, 0, none⟩ = some (.int .i64 0) := (blk_cell HQ15.out.m 0).trans rfl
          have yf0 := blk_frozen HQ15.out.m 0
          have y1 : w15.cell? ⟨b2, 1, none⟩ = some (.int .i64 0) := (blk_cell HQ15.out.m 1).trans rfl
          have yf1 := blk_frozen HQ15.out.m 1
          have y2 : w15.cell? ⟨b2, 2, none⟩ = some (.int .i64 0) := (blk_cell HQ15.out.m 2).trans rfl
          have yf2 := blk_frozen HQ15.out.m 2
          have y3 : w15.cell? ⟨b2, 3, none⟩ = some (.slice none 0 0) := (blk_cell HQ15.out.m 3).trans rfl
          have yf3 := blk_frozen HQ15.out.m 3
          refine one_ (i := 2) (N := none) (kA_ 5 7) rfl rfl (by kernel_rfl) (by decide) (fun K hK => ?_)
          refine skip_ (w1 := ?_) (by rfl) rfl ?_ ?_
          rotate_left
          ·go_simp
           rfl
          have HQ15a := Aside0.mk (show SQ w b1 b2 b3 #[.int .i64 a0_0, .slice A0_1 l0_1.length c0_1] #[.int .i64 5, .int .i64 x25, .int .i64 x8, .slice none 0 0] #[.int .i64 0, .slice none 0 0] ((((w15.setCell ⟨b2, 0, none⟩ (.int .i64 5)).setCell ⟨b2, 1, none⟩ (.int .i64 x25)).setCell ⟨b2, 2, none⟩ (.int .i64 x8)).setCell ⟨b2, 3, none⟩ (.slice none 0 0)) from HQ15.out.m4 HD.out)
          have BM15a := Aside0.mk (show ((((w15.setCell ⟨b2, 0, none⟩ (.int .i64 5)).setCell ⟨b2, 1, none⟩ (.int .i64 x25)).setCell ⟨b2, 2, none⟩ (.int .i64 x8)).setCell ⟨b2, 3, none⟩ (.slice none 0 0)).heap[b9]? = _ from box_far4 BM15.out (Ne.symm HX9.out.2.1))
          have BO15a := Aside0.mk (show ((((w15.setCell ⟨b2, 0, none⟩ (.int .i64 5)).setCell ⟨b2, 1, none⟩ (.int .i64 x25)).setCell ⟨b2, 2, none⟩ (.int .i64 x8)).setCell ⟨b2, 3, none⟩ (.slice none 0 0)).heap[b10]? = _ from box_far4 BO15.out (Ne.symm HX10.out.1.2.1))
          have HS15a := Aside0.mk (show Kd.S (Kd.slice 2 (Kd.int .i64)) 39 ((((w15.setCell ⟨b2, 0, none⟩ (.int .i64 5)).setCell ⟨b2, 1, none⟩ (.int .i64 x25)).setCell ⟨b2, 2, none⟩ (.int .i64 x8)).setCell ⟨b2, 3, none⟩ (.slice none 0 0)) w.heap.size (fun _ => True) (.slice Au rows.length cu) _ from S_put4 HS15.out HQ15.out.m)
          clear y0 y1 y2 y3 yf0 yf1 yf2 yf3 hHeld HQ15 HS15 BM15 BO15
          refine hK.out _ _ ⟨(blk_cell BM15a.out 0).trans rfl, (blk_cell BM15a.out 1).trans rfl, (blk_cell BM15a.out 2).trans rfl, (blk_cell BM15a.out 3).trans rfl, (blk_cell BO15a.out 0).trans rfl, (blk_cell BO15a.out 1).trans rfl⟩ (fun hHeld => ?_)
          clear hK K
          generalize ((((w15.setCell ⟨b2, 0, none⟩ (.int .i64 5)).setCell ⟨b2, 1, none⟩ (.int .i64 x25)).setCell ⟨b2, 2, none⟩ (.int .i64 x8)).setCell ⟨b2, 3, none⟩ (.slice none 0 0)) = w15a at HQ15a HS15a BM15a BO15a hHeld ⊢
          have y0 : w15a.cell? ⟨b3, 0, none⟩ = some (.int .i64 0) := (blk_cell HQ15a.out.o 0).trans rfl
          have yf0 := blk_frozen HQ15a.out.o 0
          have y1 : w15a.cell? ⟨b3, 1, none⟩ = some (.slice none 0 0) := (blk_cell HQ15a.out.o 1).trans rfl
          have yf1 := blk_frozen HQ15a.out.o 1
          refine one_ (i := 3) (N := none) (kA_ 5 15) rfl rfl (by kernel_rfl) (by decide) (fun K hK => ?_)
          refine skip_ (w1 := ?_) (by rfl) rfl ?_ ?_
          rotate_left
          ·go_simp
           rfl
          have HQ15b := Aside0.mk (show SQ w b1 b2 b3 #[.int .i64 a0_0, .slice A0_1 l0_1.length c0_1] #[.int .i64 5, .int .i64 x25, .int .i64 x8, .slice none 0 0] #[.int .i64 g, .slice Au rows.length cu] ((w15a.setCell ⟨b3, 0, none⟩ (.int .i64 g)).setCell ⟨b3, 1, none⟩ (.slice Au rows.length cu)) from HQ15a.out.o2 HD.out)
          have BM15b := Aside0.mk (show ((w15a.setCell ⟨b3, 0, none⟩ (.int .i64 g)).setCell ⟨b3, 1, none⟩ (.slice Au rows.length cu)).heap[b9]? = _ from box_far2 BM15a.out (Ne.symm HX9.out.2.2.1))
          have BO15b := Aside0.mk (show ((w15a.setCell ⟨b3, 0, none⟩ (.int .i64 g)).setCell ⟨b3, 1, none⟩ (.slice Au rows.length cu)).heap[b10]? = _ from box_far2 BO15a.out (Ne.symm HX10.out.1.2.2.1))
          have HS15b := Aside0.mk (show Kd.S (Kd.slice 2 (Kd.int .i64)) 39 ((w15a.setCell ⟨b3, 0, none⟩ (.int .i64 g)).setCell ⟨b3, 1, none⟩ (.slice Au rows.length cu)) w.heap.size (fun _ => True) (.slice Au rows.length cu) _ from S_put2 HS15a.out HQ15a.out.o)
          clear y0 y1 yf0 yf1 hHeld HQ15a HS15a BM15a BO15a
          refine hK.out _ _ ⟨(blk_cell BM15b.out 0).trans rfl, (blk_cell BM15b.out 1).trans rfl, (blk_cell BM15b.out 2).trans rfl, (blk_cell BM15b.out 3).trans rfl, (blk_cell BO15b.out 0).trans rfl, (blk_cell BO15b.out 1).trans rfl⟩ (fun hHeld => ?_)
          clear hK K
          generalize ((w15a.setCell ⟨b3, 0, none⟩ (.int .i64 g)).setCell ⟨b3, 1, none⟩ (.slice Au rows.length cu)) = w15b at HQ15b HS15b BM15b BO15b hHeld ⊢
          refine kz_ 4 4 (kA_ 5 31) ?_
          refine done_ (by kernel_rfl) ?_
          try go_wp2
          refine bodyPost_ret (results_list (rs := [.cell 2 44, .cell 3 28, .tmp 4]) rfl (by simp) (.cell b2 44 #[.int .i64 5, .int .i64 x25, .int .i64 x8, .slice none 0 0] (0, 0) _ rfl HQ15b.out.m Try.underlying44 rfl (by kernel_rfl) (.cell b3 28 #[.int .i64 g, .slice Au rows.length cu] (0, 0) _ rfl HQ15b.out.o Try.underlying28 rfl (by kernel_rfl) (.tmp .nil)))) rfl ?_
          (try refine ⟨_, _, _, by first | rfl | trivial, ?_⟩)
          first | exact ⟨rfl, fun _ => HS15b.out, HQ15b.out.b⟩ | exact ⟨trivial, fun _ => HS15b.out, HQ15b.out.b⟩ | exact ⟨fun _ => HS15b.out, HQ15b.out.b⟩ | exact ⟨rfl, HS15b.out, HQ15b.out.b⟩ | exact ⟨HS15b.out, HQ15b.out.b⟩ | exact ⟨⟨_, _, _, rfl⟩, HQ15b.out.b⟩ | exact HQ15b.out.b
         ·have H' := Aside0.mk (show impl_simplifying.l1 k2 x25 (wrap64 (x8 + 1)) (l0_1.length : Int) x25 a0_0 l0_1 = some (r1, r2, r3, r4, r5, r6, r7) by rw [if_neg c41] at H; exact H)
          obtain rfl := Bool.eq_false_iff.mpr c41
          clear H c41
          go_wp2_with (first
           | (refine be_ 9 44 #[.int .i64 0, .int .i64 0, .int .i64 0, .slice none 0 0] ?_; intro b9 hg w9 hbox hb; have HX9 := Aside0.mk (show SX w b1 b2 b3 b9 from ⟨by rw [hg]; exact Nat.ne_of_lt (blk_lt HQ.out.p), by rw [hg]; exact Nat.ne_of_lt (blk_lt HQ.out.m), by rw [hg]; exact Nat.ne_of_lt (blk_lt HQ.out.o), by rw [hg]; exact HQ.out.b.size⟩); have HQ9 := Aside0.mk (HQ.out.below hb); have BM := Aside0.mk hbox; have hn91 := HX9.out.1; have hn19 := HX9.out.1.symm; have q10 : w9.cell? ⟨b1, 0, none⟩ = some (.int .i64 a0_0) := (blk_cell HQ9.out.p 0).trans rfl; have q11 : w9.cell? ⟨b1, 1, none⟩ = some (.slice A0_1 l0_1.length c0_1) := (blk_cell HQ9.out.p 1).trans rfl; clear hg hbox hb HQ; have z0 : w9.cell? ⟨b9, 0, none⟩ = some (.int .i64 0) := (blk_cell BM.out 0).trans rfl; have zf0 := blk_frozen BM.out 0; have z1 : w9.cell? ⟨b9, 1, none⟩ = some (.int .i64 0) := (blk_cell BM.out 1).trans rfl; have zf1 := blk_frozen BM.out 1; have z2 : w9.cell? ⟨b9, 2, none⟩ = some (.int .i64 0) := (blk_cell BM.out 2).trans rfl; have zf2 := blk_frozen BM.out 2; have z3 : w9.cell? ⟨b9, 3, none⟩ = some (.slice none 0 0) := (blk_cell BM.out 3).trans rfl; have zf3 := blk_frozen BM.out 3)
           | (go_at_call 67; refine (HPO.out _ (below_put4 HQ9.out.b HX9.out.2.2.2)).mono ?_; rintro e w10 ⟨rfl, hb⟩; have HQ10 := Aside0.mk ((show SQ w b1 b2 b3 #[.int .i64 a0_0, .slice A0_1 l0_1.length c0_1] #[.int .i64 0, .int .i64 0, .int .i64 0, .slice none 0 0] #[.int .i64 0, .slice none 0 0] ((((w9.setCell ⟨b9, 0, none⟩ (.int .i64 5)).setCell ⟨b9, 1, none⟩ (.int .i64 x25)).setCell ⟨b9, 2, none⟩ (.int .i64 x8)).setCell ⟨b9, 3, none⟩ (.slice none 0 0)) from HQ9.out.put4 HX9.out).below hb); have BM10 := Aside0.mk (blk_below (show ((((w9.setCell ⟨b9, 0, none⟩ (.int .i64 5)).setCell ⟨b9, 1, none⟩ (.int .i64 x25)).setCell ⟨b9, 2, none⟩ (.int .i64 x8)).setCell ⟨b9, 3, none⟩ (.slice none 0 0)).heap[b9]? = some (.cells #[.int .i64 5, .int .i64 x25, .int .i64 x8, .slice none 0 0] 44 (0, 0)) from box_put4 BM.out) hb); clear hb z0 z1 z2 z3 zf0 zf1 zf2 zf3 q10 q11 HQ9 BM HPO; have p0 : w10.cell? ⟨b1, 0, none⟩ = some (.int .i64 a0_0) := (blk_cell HQ10.out.p 0).trans rfl; have p1 : w10.cell? ⟨b1, 1, none⟩ = some (.slice A0_1 l0_1.length c0_1) := (blk_cell HQ10.out.p 1).trans rfl; have z0 : w10.cell? ⟨b9, 0, none⟩ = some (.int .i64 5) := (blk_cell BM10.out 0).trans rfl; have z1 : w10.cell? ⟨b9, 1, none⟩ = some (.int .i64 x25) := (blk_cell BM10.out 1).trans rfl; have z2 : w10.cell? ⟨b9, 2, none⟩ = some (.int .i64 x8) := (blk_cell BM10.out 2).trans rfl; have z3 : w10.cell? ⟨b9, 3, none⟩ = some (.slice none 0 0) := (blk_cell BM10.out 3).trans rfl)
           | (go_at_call 68; refine (HMV.out _ HQ10.out.b).mono ?_; rintro e w11 ⟨u, rfl, ho, hb⟩; obtain ⟨Au, cu, eu⟩ := Kd.S_slice ho; subst eu; have HS11 := Aside0.mk (Kd.S_lower ho HQ10.out.b.size); have HQ11 := Aside0.mk (HQ10.out.below hb); have BM11 := Aside0.mk (blk_below BM10.out hb); clear ho hb p0 p1 z0 z1 z2 z3 HQ10 BM10 HMV)
           | (refine be_ 10 28 #[.int .i64 0, .slice none 0 0] ?_; intro b10 hg w12 hbox hb; have HX10 := Aside0.mk (show SX w b1 b2 b3 b10 ∧ b9 ≠ b10 from ⟨⟨by rw [hg]; exact Nat.ne_of_lt (blk_lt HQ11.out.p), by rw [hg]; exact Nat.ne_of_lt (blk_lt HQ11.out.m), by rw [hg]; exact Nat.ne_of_lt (blk_lt HQ11.out.o), by rw [hg]; exact HQ11.out.b.size⟩, by rw [hg]; exact Nat.ne_of_lt (blk_lt BM11.out)⟩); have HQ12 := Aside0.mk (HQ11.out.below hb); have BM12 := Aside0.mk (blk_below BM11.out hb); have HS12 := Aside0.mk (Kd.S_below HS11.out hb); have BO := Aside0.mk hbox; clear hg hbox hb HQ11 BM11 HS11; have z0 : w12.cell? ⟨b10, 0, none⟩ = some (.int .i64 0) := (blk_cell BO.out 0).trans rfl; have z1 : w12.cell? ⟨b10, 1, none⟩ = some (.slice none 0 0) := (blk_cell BO.out 1).trans rfl; have zf0 := blk_frozen BO.out 0; have zf1 := blk_frozen BO.out 1)
           | (go_at_call 59; have HS13 := Aside0.mk (show Kd.S (Kd.slice 2 (Kd.int .i64)) 39 ((w12.setCell ⟨b10, 0, none⟩ (.int .i64 g)).setCell ⟨b10, 1, none⟩ (.slice Au rows.length cu)) w.heap.size (fun _ => True) (.slice Au rows.length cu) rows from S_put2 HS12.out BO.out); refine (HPR.out _ Au cu (Kd.S_reads' HS13.out).2.2 (Kd.S_reads' HS13.out).2.1).mono ?_; rintro e w13 ⟨rfl, hb⟩; have HS14 := Aside0.mk (Kd.S_below HS13.out hb); have HQ14 := Aside0.mk ((show SQ w b1 b2 b3 #[.int .i64 a0_0, .slice A0_1 l0_1.length c0_1] #[.int .i64 0, .int .i64 0, .int .i64 0, .slice none 0 0] #[.int .i64 0, .slice none 0 0] ((w12.setCell ⟨b10, 0, none⟩ (.int .i64 g)).setCell ⟨b10, 1, none⟩ (.slice Au rows.length cu)) from HQ12.out.put2 HX10.out.1).below hb); have BM14 := Aside0.mk (blk_below (show ((w12.setCell ⟨b10, 0, none⟩ (.int .i64 g)).setCell ⟨b10, 1, none⟩ (.slice Au rows.length cu)).heap[b9]? = _ from box_far2 BM12.out HX10.out.2) hb); have BO14 := Aside0.mk (blk_below (show ((w12.setCell ⟨b10, 0, none⟩ (.int .i64 g)).setCell ⟨b10, 1, none⟩ (.slice Au rows.length cu)).heap[b10]? = some (.cells #[.int .i64 g, .slice Au rows.length cu] 28 (0, 0)) from box_put2 BO.out) hb); clear hb z0 z1 zf0 zf1 HS13 HS12 HQ12 BM12 BO HPR))
          go_roundg k2
          case measure => have := HK1.out; have := HK2.out; omega
          case rel => exact ⟨wrap64 (x8 + 1), rfl, H', ⟨by have := HK1.out; have := HK2.out; omega⟩, HQ14⟩
        ·have H' := Aside0.mk (show impl_simplifying.l1 k2 x25 (wrap64 (x8 + 1)) (l0_1.length : Int) x25 a0_0 l0_1 = some (r1, r2, r3, r4, r5, r6, r7) by rw [if_neg c38] at H; exact H)
         obtain rfl := Bool.eq_false_iff.mpr c38
         clear H c38
         go_wp2_with (first
          | (refine be_ 9 44 #[.int .i64 0, .int .i64 0, .int .i64 0, .slice none 0 0] ?_; intro b9 hg w9 hbox hb; have HX9 := Aside0.mk (show SX w b1 b2 b3 b9 from ⟨by rw [hg]; exact Nat.ne_of_lt (blk_lt HQ.out.p), by rw [hg]; exact Nat.ne_of_lt (blk_lt HQ.out.m), by rw [hg]; exact Nat.ne_of_lt (blk_lt HQ.out.o), by rw [hg]; exact HQ.out.b.size⟩); have HQ9 := Aside0.mk (HQ.out.below hb); have BM := Aside0.mk hbox; have hn91 := HX9.out.1; have hn19 := HX9.out.1.symm; have q10 : w9.cell? ⟨b1, 0, none⟩ = some (.int .i64 a0_0) := (blk_cell HQ9.out.p 0).trans rfl; have q11 : w9.cell? ⟨b1, 1, none⟩ = some (.slice A0_1 l0_1.length c0_1) := (blk_cell HQ9.out.p 1).trans rfl; clear hg hbox hb HQ; have z0 : w9.cell? ⟨b9, 0, none⟩ = some (.int .i64 0) := (blk_cell BM.out 0).trans rfl; have zf0 := blk_frozen BM.out 0; have z1 : w9.cell? ⟨b9, 1, none⟩ = some (.int .i64 0) := (blk_cell BM.out 1).trans rfl; have zf1 := blk_frozen BM.out 1; have z2 : w9.cell? ⟨b9, 2, none⟩ = some (.int .i64 0) := (blk_cell BM.out 2).trans rfl; have zf2 := blk_frozen BM.out 2; have z3 : w9.cell? ⟨b9, 3, none⟩ = some (.slice none 0 0) := (blk_cell BM.out 3).trans rfl; have zf3 := blk_frozen BM.out 3)
          | (go_at_call 67; refine (HPO.out _ (below_put4 HQ9.out.b HX9.out.2.2.2)).mono ?_; rintro e w10 ⟨rfl, hb⟩; have HQ10 := Aside0.mk ((show SQ w b1 b2 b3 #[.int .i64 a0_0, .slice A0_1 l0_1.length c0_1] #[.int .i64 0, .int .i64 0, .int .i64 0, .slice none 0 0] #[.int .i64 0, .slice none 0 0] ((((w9.setCell ⟨b9, 0, none⟩ (.int .i64 5)).setCell ⟨b9, 1, none⟩ (.int .i64 x25)).setCell ⟨b9, 2, none⟩ (.int .i64 x8)).setCell ⟨b9, 3, none⟩ (.slice none 0 0)) from HQ9.out.put4 HX9.out).below hb); have BM10 := Aside0.mk (blk_below (show ((((w9.setCell ⟨b9, 0, none⟩ (.int .i64 5)).setCell ⟨b9, 1, none⟩ (.int .i64 x25)).setCell ⟨b9, 2, none⟩ (.int .i64 x8)).setCell ⟨b9, 3, none⟩ (.slice none 0 0)).heap[b9]? = some (.cells #[.int .i64 5, .int .i64 x25, .int .i64 x8, .slice none 0 0] 44 (0, 0)) from box_put4 BM.out) hb); clear hb z0 z1 z2 z3 zf0 zf1 zf2 zf3 q10 q11 HQ9 BM HPO; have p0 : w10.cell? ⟨b1, 0, none⟩ = some (.int .i64 a0_0) := (blk_cell HQ10.out.p 0).trans rfl; have p1 : w10.cell? ⟨b1, 1, none⟩ = some (.slice A0_1 l0_1.length c0_1) := (blk_cell HQ10.out.p 1).trans rfl; have z0 : w10.cell? ⟨b9, 0, none⟩ = some (.int .i64 5) := (blk_cell BM10.out 0).trans rfl; have z1 : w10.cell? ⟨b9, 1, none⟩ = some (.int .i64 x25) := (blk_cell BM10.out 1).trans rfl; have z2 : w10.cell? ⟨b9, 2, none⟩ = some (.int .i64 x8) := (blk_cell BM10.out 2).trans rfl; have z3 : w10.cell? ⟨b9, 3, none⟩ = some (.slice none 0 0) := (blk_cell BM10.out 3).trans rfl))
         go_roundg k2
         case measure => have := HK1.out; have := HK2.out; omega
         case rel => exact ⟨wrap64 (x8 + 1), rfl, H', ⟨by have := HK1.out; have := HK2.out; omega⟩, HQ10⟩
       ·rw [if_neg c36] at H
        have c36b0 : decide (x8 ≤ a0_0) = false := decide_eq_false c36
        clear c36
        have H' := Aside0.mk H
        clear H
        go_wp2
        go_roundg k2
        case measure => have := HK1.out; have := HK2.out; omega
        case rel => exact ⟨wrap64 (x25 + 1), rfl, H', ⟨by have := HK1.out; have := HK2.out; omega⟩, HQ⟩
    ·rw [if_neg c35] at H
     have c35b0 : decide (x25 < (l0_1.length : Int)) = false := decide_eq_false c35
     clear c35
     simp only [Option.some.injEq, Prod.mk.injEq] at H
     obtain ⟨rfl, rfl, rfl, rfl, rfl, rfl, rfl⟩ := H
     go_wp2
     clear q10 q11
     have hb1 := below_drew1 (Below.refl wr.heap.size wr)
     have HQ15 := Aside0.mk (HQ.out.below hb1)
     refine start_ (n := 5) (S := fun w' => w'.cell? ⟨b1, 0, none⟩ = some (.int .i64 a0_0) ∧ w'.cell? ⟨b1, 1, none⟩ = some (.slice A0_1 l0_1.length c0_1)) (ds := []) (kA_ 5 0) (by kernel_rfl) rfl (by kernel_rfl) ⟨(blk_cell HQ15.out.p 0).trans rfl, (blk_cell HQ15.out.p 1).trans rfl⟩ (fun hHeld => ?_)
     clear HQ hb1
     generalize wr.drew = w15 at HQ15 hHeld ⊢
     refine kz_ 0 49 (kA_ 5 1) ?_
     refine kt_ 1 50 (kA_ 5 3) hHeld ?_
     have y0 : w15.cell? ⟨b2, 0, none⟩ = some (.int .i64 0) := (blk_cell HQ15.out.m 0).trans rfl
     have yf0 := blk_frozen HQ15.out.m 0
     have y1 : w15.cell? ⟨b2, 1, none⟩ = some (.int .i64 0) := (blk_cell HQ15.out.m 1).trans rfl
     have yf1 := blk_frozen HQ15.out.m 1
     have y2 : w15.cell? ⟨b2, 2, none⟩ = some (.int .i64 0) := (blk_cell HQ15.out.m 2).trans rfl
     have yf2 := blk_frozen HQ15.out.m 2
     have y3 : w15.cell? ⟨b2, 3, none⟩ = some (.slice none 0 0) := (blk_cell HQ15.out.m 3).trans rfl
     have yf3 := blk_frozen HQ15.out.m 3
     refine one_ (i := 2) (N := none) (kA_ 5 7) rfl rfl (by kernel_rfl) (by decide) (fun K hK => ?_)
     refine skip_ (w1 := ?_) (by rfl) rfl ?_ ?_
     rotate_left
     ·go_simp
      rfl
     have HQ15a := Aside0.mk (show SQ w b1 b2 b3 #[.int .i64 a0_0, .slice A0_1 l0_1.length c0_1] #[.int .i64 0, .int .i64 0, .int .i64 0, .slice none 0 0] #[.int .i64 0, .slice none 0 0] ((((w15.setCell ⟨b2, 0, none⟩ (.int .i64 0)).setCell ⟨b2, 1, none⟩ (.int .i64 0)).setCell ⟨b2, 2, none⟩ (.int .i64 0)).setCell ⟨b2, 3, none⟩ (.slice none 0 0)) from HQ15.out.m4 HD.out)
     clear y0 y1 y2 y3 yf0 yf1 yf2 yf3 hHeld HQ15
     refine hK.out _ _ ⟨(blk_cell HQ15a.out.p 0).trans rfl, (blk_cell HQ15a.out.p 1).trans rfl⟩ (fun hHeld => ?_)
     clear hK K
     generalize ((((w15.setCell ⟨b2, 0, none⟩ (.int .i64 0)).setCell ⟨b2, 1, none⟩ (.int .i64 0)).setCell ⟨b2, 2, none⟩ (.int .i64 0)).setCell ⟨b2, 3, none⟩ (.slice none 0 0)) = w15a at HQ15a hHeld ⊢
     have y0 : w15a.cell? ⟨b3, 0, none⟩ = some (.int .i64 0) := (blk_cell HQ15a.out.o 0).trans rfl
     have yf0 := blk_frozen HQ15a.out.o 0
     have y1 : w15a.cell? ⟨b3, 1, none⟩ = some (.slice none 0 0) := (blk_cell HQ15a.out.o 1).trans rfl
     have yf1 := blk_frozen HQ15a.out.o 1
     refine one_ (i := 3) (N := none) (kA_ 5 15) rfl rfl (by kernel_rfl) (by decide) (fun K hK => ?_)
     refine skip_ (w1 := ?_) (by rfl) rfl ?_ ?_
     rotate_left
     ·go_simp
      rfl
     have HQ15b := Aside0.mk (show SQ w b1 b2 b3 #[.int .i64 a0_0, .slice A0_1 l0_1.length c0_1] #[.int .i64 0, .int .i64 0, .int .i64 0, .slice none 0 0] #[.int .i64 a0_0, .slice A0_1 l0_1.length c0_1] ((w15a.setCell ⟨b3, 0, none⟩ (.int .i64 a0_0)).setCell ⟨b3, 1, none⟩ (.slice A0_1 l0_1.length c0_1)) from HQ15a.out.o2 HD.out)
     clear y0 y1 yf0 yf1 hHeld HQ15a
     refine hK.out _ _ ⟨(blk_cell HQ15b.out.p 0).trans rfl, (blk_cell HQ15b.out.p 1).trans rfl⟩ (fun hHeld => ?_)
     clear hK K
     generalize ((w15a.setCell ⟨b3, 0, none⟩ (.int .i64 a0_0)).setCell ⟨b3, 1, none⟩ (.slice A0_1 l0_1.length c0_1)) = w15b at HQ15b hHeld ⊢
     refine kz_ 4 4 (kA_ 5 31) ?_
     refine done_ (by kernel_rfl) ?_
     try go_wp2
     refine bodyPost_ret (results_list (rs := [.cell 2 44, .cell 3 28, .tmp 4]) rfl (by simp) (.cell b2 44 #[.int .i64 0, .int .i64 0, .int .i64 0, .slice none 0 0] (0, 0) _ rfl HQ15b.out.m Try.underlying44 rfl (by kernel_rfl) (.cell b3 28 #[.int .i64 a0_0, .slice A0_1 l0_1.length c0_1] (0, 0) _ rfl HQ15b.out.o Try.underlying28 rfl (by kernel_rfl) (.tmp .nil)))) rfl ?_
     (try refine ⟨_, _, _, by first | rfl | trivial, ?_⟩)
     first | exact ⟨rfl, fun h_ => Bool.noConfusion h_, HQ15b.out.b⟩ | exact ⟨trivial, fun h_ => Bool.noConfusion h_, HQ15b.out.b⟩ | exact ⟨fun h_ => Bool.noConfusion h_, HQ15b.out.b⟩ | exact ⟨rfl, trivial, HQ15b.out.b⟩ | exact ⟨trivial, HQ15b.out.b⟩ | exact ⟨⟨_, _, _, rfl⟩, HQ15b.out.b⟩ | exact HQ15b.out.b

end Go.Proofs.Ytbcdngjajjgmkaa.PFnExactSimplifyPresentation
