/- Written by this session's program out of the kit's print and this session's contracts. -/
import Derived.Test.YtbcdngjajjgmkaaVFnExactApplyTietzePx0
import Derived.Test.YtbcdngjajjgmkaaVFnExactApplyTietzePx1
import Derived.Test.YtbcdngjajjgmkaaVFnExactApplyTietzePx2
import Derived.Test.YtbcdngjajjgmkaaVFnExactApplyTietzePx10
import Derived.Test.YtbcdngjajjgmkaaVFnExactApplyTietzePx12
import Derived.Test.YtbcdngjajjgmkaaVFnExactApplyTietzePx16
import Derived.Test.YtbcdngjajjgmkaaVFnExactApplyTietzePx17
namespace Go.Proofs.Ytbcdngjajjgmkaa.PFnExactApplyTietze
open Go.RowKit Go.Proofs.YtbcdngjajjgmkaaW.PrintWords Go.Proofs.YtbcdngjajjgmkaaW.PrintLast Go.Proofs.YtbcdngjajjgmkaaW.PrintMore
set_option linter.unusedVariables false
set_option linter.unusedSimpArgs false

/-! ### laws_FnExactApplyTietze: function 5 -/
def laws_FnExactApplyTietze.f (k : Nat) (a0_0 : Int) (l0_1 : List (List Int)) (a1_0 a1_1 a1_2 : Int) (l1_3 : List Int) : Option Bool :=
 (laws_szPresentation.f k a0_0 l0_1 1048576).bind fun z => if z < 0 then some true else
 (laws_szTietzeMove.f a1_0 a1_1 a1_2 l1_3 z).bind fun y => if y < 0 then some true else
 (laws_toPresentation.f k a0_0 l0_1).bind fun p => (laws_toTietzeMove.f k a1_0 a1_1 a1_2 l1_3).bind fun m => (spec_ApplyTietze.f k p.1 p.2 m.1 m.2.1 m.2.2.1 m.2.2.2).bind fun s => (impl_ApplyTietze.f k p.1 p.2 m.1 m.2.1 m.2.2.1 m.2.2.2).bind fun r =>
 (laws_eqPresentation.f k r.1 r.2.1 s.1 s.2.1).bind fun e1 => if e1 = true then (if r.2.2 = s.2.2 then
 (laws_eqPresentation.f k p.1 p.2 p.1 p.2).bind fun e2 => if e2 = true then
 (laws_eqTietzeMove.f k m.1 m.2.1 m.2.2.1 m.2.2.2 m.1 m.2.1 m.2.2.1 m.2.2.2).bind fun e3 => if e3 = true then
 (laws_markPresentation.f k p.1 p.2 1).bind fun m1 => (laws_markTietzeMove.f k m.1 m.2.1 m.2.2.1 m.2.2.2 m1.1).bind fun m2 => if 0 ≤ m2.1 then
 (laws_markPresentation.f k r.1 r.2.1 1).bind fun m3 => (laws_heldPresentation.f k r.1 m3.2 1).bind fun h => if 0 ≤ h then (if h = m3.1 then some true
 else some false) else some false else some false else some false else some false else some false) else some false
theorem takeL {P : Program} {ops : Array Oper} {Q : Exit → Act → World → Prop} {md : Region.Mode} {S : World → Prop} {i : Nat} {oi : Oper} (d : Option Tmp) {v : Value} {fuel : Nat} {listed : Array Bool} {a : Act} {w : World} (hi : ops[i]? = some oi) (hd : oi.dst = d)
  (hs : Region.noSelect ops = true) (hf : Region.free md ops listed i = true) (hr : (Region.ready md ops listed).contains i = true)
  (hQ : ∀ c a w, Q (.panic c) (a.put d v) w → Q (.panic c) a w) (hy : YieldsIf P ops S oi v a) (hS : S w)
  (h : wpAnyH P md ops Q S fuel (listed.setIfInBounds i true) (a.put d v) w) : wpAnyH P md ops Q S (fuel + 1) listed a w := by
 subst hd
 exact wpAnyH_take hi hs hf hr hQ hy hS h
theorem if_true_ {c : Prop} [Decidable c] {x : Option Bool} (h : (if c then x else some false) = some true) : c ∧ x = some true := by
 by_cases hc : c
 ·rw [if_pos hc] at h
  exact ⟨hc, h⟩
 ·rw [if_neg hc] at h
  exact absurd h (by simp)
/-- Rows whose blocks all lie in a part of the heap. -/
def Seg (w W : World) (lo hi : Nat) (v : Value) (xs : List (List Int)) : Prop := Kd.S (Kd.slice 2 (Kd.int .i64)) 39 W w.heap.size (fun k_ => lo ≤ k_ ∧ k_ < hi) v xs
theorem Seg.new {w W W' : World} {v : Value} {xs : List (List Int)} (h : Kd.S (Kd.slice 2 (Kd.int .i64)) 39 W' W.heap.size (fun _ => True) v xs) (hw : w.heap.size ≤ W.heap.size) : Seg w W' W.heap.size W'.heap.size v xs :=
 Kd.S_mono (Kd.S_lower (Kd.S_bound h) hw) fun _ hk => ⟨hk.2.1, hk.2.2.1⟩
theorem Seg.below {w W W' : World} {lo hi : Nat} {v : Value} {xs : List (List Int)} (h : Seg w W lo hi v xs) (hb : Below W.heap.size W W') : Seg w W' lo hi v xs := Kd.S_below h hb
theorem Seg.kept {w W W' : World} {lo hi lo' hi' : Nat} {v : Value} {xs : List (List Int)} (h : Seg w W lo hi v xs) (hk : Kept W W' fun k_ => lo' ≤ k_ ∧ k_ < hi') (hd : hi ≤ lo' ∨ hi' ≤ lo) : Seg w W' lo hi v xs := Kd.S_kept h hk fun k h1 h2 => by omega
theorem Seg.reads {w W : World} {lo hi : Nat} {A : Option Addr} {n c : Nat} {xs : List (List Int)} (h : Seg w W lo hi (.slice A n c) xs) : n = xs.length ∧ n ≤ c ∧ (Kd.slice 2 (Kd.int .i64)).C W A xs.length xs := Kd.S_reads' h
/-- Rows whose blocks all lie in a part of the heap. -/
def SegR (w W : World) (lo hi : Nat) (v : Value) (xs : List Int) : Prop := Kd.R (Kd.int .i64) 2 W w.heap.size (fun k_ => lo ≤ k_ ∧ k_ < hi) v xs
theorem SegR.new {w W W' : World} {v : Value} {xs : List Int} (h : Kd.R (Kd.int .i64) 2 W' W.heap.size (fun _ => True) v xs) (hw : w.heap.size ≤ W.heap.size) : SegR w W' W.heap.size W'.heap.size v xs :=
 Kd.R_mono (Kd.R_lower (Kd.R_bound h) hw) fun _ hk => ⟨hk.2.1, hk.2.2.1⟩
theorem SegR.below {w W W' : World} {lo hi : Nat} {v : Value} {xs : List Int} (h : SegR w W lo hi v xs) (hb : Below W.heap.size W W') : SegR w W' lo hi v xs := Kd.R_below h hb
theorem SegR.kept {w W W' : World} {lo hi lo' hi' : Nat} {v : Value} {xs : List Int} (h : SegR w W lo hi v xs) (hk : Kept W W' fun k_ => lo' ≤ k_ ∧ k_ < hi') (hd : hi ≤ lo' ∨ hi' ≤ lo) : SegR w W' lo hi v xs := Kd.R_kept h hk fun k h1 h2 => by omega
theorem SegR.reads {w W : World} {lo hi : Nat} {A : Option Addr} {n c : Nat} {xs : List Int} (h : SegR w W lo hi (.slice A n c) xs) : n = xs.length ∧ n ≤ c ∧ (Kd.int .i64).C W A xs.length xs := Kd.R_reads' h
theorem am2_ {P : Prop} (h : P) : Aside0 P := ⟨h⟩
theorem heldAtP {f : FuncId} {W : World} {base n c : Nat} {ok : Nat → Prop} {A : Option Addr} {xs : List (List Int)} {a g : Int} {Q : Ending → World → Prop} (hS : Kd.S (Kd.slice 2 (Kd.int .i64)) 39 W base ok (.slice A n c) xs)
  (h : (Kd.slice 2 (Kd.int .i64)).C W A xs.length xs → xs.length ≤ c → Calls Try.prog f #[.agg #[.int .i64 g, .slice A xs.length c], .int .i64 a] W Q) : Calls Try.prog f #[.agg #[.int .i64 g, .slice A n c], .int .i64 a] W Q := by
 obtain ⟨h1, h2, h3⟩ := Kd.S_reads' hS
 subst h1
 exact h h3 h2
/-- Rows whose blocks all lie in a part of the heap, and may be shared. -/
def SegN (w W : World) (lo hi : Nat) (v : Value) (xs : List (List Int)) : Prop := Kd.N (Kd.slice 2 (Kd.int .i64)) 39 W w.heap.size (fun k_ => lo ≤ k_ ∧ k_ < hi) v xs
theorem SegN.new {w W W' : World} {v : Value} {xs : List (List Int)} (h : Kd.N (Kd.slice 2 (Kd.int .i64)) 39 W' W.heap.size (fun k_ => W.heap.size ≤ k_) v xs) (hw : w.heap.size ≤ W.heap.size) : SegN w W' W.heap.size W'.heap.size v xs :=
 Kd.N_mono (Kd.N_lower (Kd.N_bound h) hw) fun _ hk => hk
theorem SegN.below {w W W' : World} {lo hi : Nat} {v : Value} {xs : List (List Int)} (h : SegN w W lo hi v xs) (hb : Below W.heap.size W W') : SegN w W' lo hi v xs := Kd.N_below h hb
theorem SegN.kept {w W W' : World} {lo hi lo' hi' : Nat} {v : Value} {xs : List (List Int)} (h : SegN w W lo hi v xs) (hk : Kept W W' fun k_ => lo' ≤ k_ ∧ k_ < hi') (hd : hi ≤ lo' ∨ hi' ≤ lo) : SegN w W' lo hi v xs := Kd.N_kept h hk fun k h1 h2 => by omega
theorem SegN.reads {w W : World} {lo hi : Nat} {A : Option Addr} {n c : Nat} {xs : List (List Int)} (h : SegN w W lo hi (.slice A n c) xs) : n = xs.length ∧ n ≤ c ∧ (Kd.slice 2 (Kd.int .i64)).C W A xs.length xs := Kd.N_reads' h
theorem lw_ {W W' : World} {b : Nat} {o : Obj} (H : Aside0 (W.heap[b]? = some o)) (hb : Below W.heap.size W W') : Aside0 (W'.heap[b]? = some o) := ⟨(hb.block _ (blk_lt H.out)).trans H.out⟩
theorem lc2_ {W : World} {b t : Nat} {v0 v1 : Value} (H : Aside0 (W.heap[b]? = some (.cells #[v0, v1] t (0, 0)))) : W.cell? ⟨b, 0, none⟩ = some v0 ∧ W.cell? ⟨b, 1, none⟩ = some v1 := ⟨(blk_cell H.out 0).trans rfl, (blk_cell H.out 1).trans rfl⟩
theorem lc4_ {W : World} {b t : Nat} {v0 v1 v2 v3 : Value} (H : Aside0 (W.heap[b]? = some (.cells #[v0, v1, v2, v3] t (0, 0)))) : W.cell? ⟨b, 0, none⟩ = some v0 ∧ W.cell? ⟨b, 1, none⟩ = some v1 ∧ W.cell? ⟨b, 2, none⟩ = some v2 ∧ W.cell? ⟨b, 3, none⟩ = some v3 := ⟨(blk_cell H.out 0).trans rfl, (blk_cell H.out 1).trans rfl, (blk_cell H.out 2).trans rfl, (blk_cell H.out 3).trans rfl⟩
theorem hd6_ {W U : World} {b b' t t' : Nat} {v0 v1 u0 u1 u2 u3 : Value} (H : Aside0 (W.heap[b]? = some (.cells #[v0, v1] t (0, 0)))) (H' : Aside0 (W.heap[b']? = some (.cells #[u0, u1, u2, u3] t' (0, 0)))) (hb : Below W.heap.size W U) :
  U.cell? ⟨b, 0, none⟩ = some v0 ∧ U.cell? ⟨b, 1, none⟩ = some v1 ∧ U.cell? ⟨b', 0, none⟩ = some u0 ∧ U.cell? ⟨b', 1, none⟩ = some u1 ∧ U.cell? ⟨b', 2, none⟩ = some u2 ∧ U.cell? ⟨b', 3, none⟩ = some u3 :=
 ⟨(lc2_ (lw_ H hb)).1, (lc2_ (lw_ H hb)).2, (lc4_ (lw_ H' hb)).1, (lc4_ (lw_ H' hb)).2.1, (lc4_ (lw_ H' hb)).2.2.1, (lc4_ (lw_ H' hb)).2.2.2⟩
set_option maxHeartbeats 32000000 in
set_option maxRecDepth 100000 in
theorem laws_FnExactApplyTietze.calls (k : Nat) (a0_0 : Int) (A1 : Option Addr) (c1 : Nat) (l1 : List (List Int)) (a1_0 a1_1 a1_2 : Int) (A2 : Option Addr) (c2 : Nat) (l2 : List Int) (r : Bool) (w : World) (hr1 : Kd.C (Kd.slice 2 (Kd.int .i64)) w A1 l1.length l1) (hc1 : l1.length ≤ c1) (hr2 : Kd.C (Kd.int .i64) w A2 l2.length l2) (hc2 : l2.length ≤ c2) (h : laws_FnExactApplyTietze.f k a0_0 l1 a1_0 a1_1 a1_2 l2 = some r) (HTRUE_ : Aside0 (r = true)) :
  Calls Try.prog 5 #[.agg #[.int .i64 a0_0, .slice A1 l1.length c1], .agg #[.int .i64 a1_0, .int .i64 a1_1, .int .i64 a1_2, .slice A2 l2.length c2]] w fun e w' => e = .returned (.bool r) ∧ Below w.heap.size w w' := by
 obtain rfl := HTRUE_.out
 clear HTRUE_
 have HR1 := Aside0.mk hr1
 have HC1 := Aside0.mk hc1
 have HR2 := Aside0.mk hr2
 have HC2 := Aside0.mk hc2
 clear hr1 hc1 hr2 hc2
 unfold laws_FnExactApplyTietze.f at h
 obtain ⟨z, Z, h⟩ := Option.bind_eq_some_iff.mp h
 by_cases c0 : z < 0
 ·have c0b : decide (z < 0) = true := decide_eq_true c0
  have F1 := Aside0.mk fun W (hW : Below w.heap.size w W) => laws_szPresentation.calls k a0_0 A1 c1 l1 1048576 z W (Kd.C_below HR1.out hW) HC1.out Z
  clear c0 h Z
  go_enter Try.func5, Try.ntmps5
  go_wp2_with (go_at_call 8; refine (F1.out _ (by repeat (first | exact Below.refl _ _ | apply below_alloc | apply pw_below_drewN))).mono ?_; rintro e w' ⟨rfl, hb⟩)
  go_ret
  exact ⟨rfl, below_then (below_alloc (below_alloc (Below.refl _ _) _) _) (below_size (below_alloc (below_alloc (Below.refl _ _) _) _)) hb⟩
 ·have c0b : decide (z < 0) = false := decide_eq_false c0
  rw [if_neg c0] at h
  obtain ⟨y, Y, h⟩ := Option.bind_eq_some_iff.mp h
  by_cases c9 : y < 0
  ·have c9b : decide (y < 0) = true := decide_eq_true c9
   have F1 := Aside0.mk fun W (hW : Below w.heap.size w W) => laws_szPresentation.calls k a0_0 A1 _ l1 1048576 z W (Kd.C_below HR1.out hW) HC1.out Z
   have F2 := Aside0.mk fun W (hW : Below w.heap.size w W) => laws_szTietzeMove.calls a1_0 a1_1 a1_2 A2 c2 l2 z y W (Kd.C_below HR2.out hW) HC2.out Y
   clear c0 c9 h Z Y
   go_enter Try.func5, Try.ntmps5
   go_upto_region 1 with (fail)
   obtain ⟨W1, hW0_⟩ : ∃ W_, W_ = w.alloc (.cells #[.int .i64 a0_0, .slice A1 l1.length c1] 24) := ⟨_, rfl⟩
   have hb : Below w.heap.size w W1 := by rw [hW0_]; exact below_alloc (Below.refl _ _) _
   have hnew_ : W1.heap[w.heap.size]? = some (.cells #[.int .i64 a0_0, .slice A1 l1.length c1] 24 (0, 0)) := by rw [hW0_]; exact heap_alloc_new w _
   have bpLT := am2_ (show w.heap.size < W1.heap.size by rw [hW0_]; simp)
   have hsz0_ : w.heap.size + 1 = W1.heap.size := by rw [hW0_]; simp
   have HB1 := am2_ hb
   have HL1 := am2_ (below_size hb)
   have bp := am2_ hnew_
   obtain ⟨qbp_0, qbp_1⟩ := lc2_ bp
   clear hnew_ hb
   obtain ⟨W2, hW1_⟩ : ∃ W_, W_ = W1.alloc (.cells #[.int .i64 a1_0, .int .i64 a1_1, .int .i64 a1_2, .slice A2 l2.length c2] 41) := ⟨_, rfl⟩
   have hb : Below W1.heap.size W1 W2 := by rw [hW1_]; exact below_alloc (Below.refl _ _) _
   have hnew_ : W2.heap[W1.heap.size]? = some (.cells #[.int .i64 a1_0, .int .i64 a1_1, .int .i64 a1_2, .slice A2 l2.length c2] 41 (0, 0)) := by rw [hW1_]; exact heap_alloc_new W1 _
   have bmLT := am2_ (show W1.heap.size < W2.heap.size by rw [hW1_]; simp)
   have hsz1_ : W1.heap.size + 1 = W2.heap.size := by rw [hW1_]; simp
   have HB2 := am2_ (below_then HB1.out (below_size HB1.out) hb)
   have HL2 := am2_ (below_size hb)
   replace bp := lw_ bp hb
   clear qbp_0 qbp_1
   obtain ⟨qbp_0, qbp_1⟩ := lc2_ bp
   have bm := am2_ hnew_
   obtain ⟨qbm_0, qbm_1, qbm_2, qbm_3⟩ := lc4_ bm
   clear hnew_ hb
   change Code.wp Try.prog _ _ _ ((w.alloc (.cells #[.int .i64 a0_0, .slice A1 l1.length c1] 24)).alloc (.cells #[.int .i64 a1_0, .int .i64 a1_1, .int .i64 a1_2, .slice A2 l2.length c2] 41))
   rw [← hW0_, ← hW1_]
   simp only [hsz0_]
   clear hW0_ hW1_ hsz0_ hsz1_
   go_wp2_with (first
    | (go_at_call 8; refine (F1.out  _ HB2.out ).mono ?_; rintro e W3 ⟨rfl, hb⟩; have HB3 := am2_ (below_then HB2.out (below_size HB2.out) hb); have HL3 := am2_ (below_size hb); replace bp := lw_ bp hb; clear qbp_0 qbp_1; obtain ⟨qbp_0, qbp_1⟩ := lc2_ bp; replace bm := lw_ bm hb; clear qbm_0 qbm_1 qbm_2 qbm_3; obtain ⟨qbm_0, qbm_1, qbm_2, qbm_3⟩ := lc4_ bm; clear F1  hb  )
    | (go_at_call 22; refine (F2.out  _ HB3.out ).mono ?_; rintro e W4 ⟨rfl, hb⟩; have HB4 := am2_ (below_then HB3.out (below_size HB3.out) hb); have HL4 := am2_ (below_size hb); replace bp := lw_ bp hb; clear qbp_0 qbp_1; obtain ⟨qbp_0, qbp_1⟩ := lc2_ bp; replace bm := lw_ bm hb; clear qbm_0 qbm_1 qbm_2 qbm_3; obtain ⟨qbm_0, qbm_1, qbm_2, qbm_3⟩ := lc4_ bm; clear F2  hb  ))
   go_ret
   exact ⟨rfl, HB4.out⟩
  ·have c9b : decide (y < 0) = false := decide_eq_false c9
   rw [if_neg c9] at h
   have hx_ := Option.bind_eq_some_iff.mp h
   clear h
   obtain ⟨⟨p1, p2⟩, B, h⟩ := hx_
   have hx_ := Option.bind_eq_some_iff.mp h
   clear h
   obtain ⟨⟨m1, m2, m3, m4⟩, I, h⟩ := hx_
   have hx_ := Option.bind_eq_some_iff.mp h
   clear h
   obtain ⟨⟨s1, s2, s3⟩, S, h⟩ := hx_
   have hx_ := Option.bind_eq_some_iff.mp h
   clear h
   obtain ⟨⟨r1, r2, r3⟩, R, h⟩ := hx_
   have hx_ := Option.bind_eq_some_iff.mp h
   clear h
   obtain ⟨e1, E1, h⟩ := hx_
   have hx_ := if_true_ h
   clear h
   obtain ⟨rfl, h⟩ := hx_
   have hx_ := if_true_ h
   clear h
   obtain ⟨hrs, h⟩ := hx_
   simp only at E1 hrs
   subst hrs
   have hx_ := Option.bind_eq_some_iff.mp h
   clear h
   obtain ⟨e2, E2, h⟩ := hx_
   have hx_ := if_true_ h
   clear h
   obtain ⟨rfl, h⟩ := hx_
   have hx_ := Option.bind_eq_some_iff.mp h
   clear h
   obtain ⟨e3, E3, h⟩ := hx_
   have hx_ := if_true_ h
   clear h
   obtain ⟨rfl, h⟩ := hx_
   have hx_ := Option.bind_eq_some_iff.mp h
   clear h
   obtain ⟨⟨n1, b'⟩, M1, h⟩ := hx_
   have hx_ := Option.bind_eq_some_iff.mp h
   clear h
   obtain ⟨⟨n2, m'⟩, M2, h⟩ := hx_
   have hx_ := if_true_ h
   clear h
   obtain ⟨hn1, h⟩ := hx_
   have hx_ := Option.bind_eq_some_iff.mp h
   clear h
   obtain ⟨⟨m3_, r'⟩, M3, h⟩ := hx_
   have hx_ := Option.bind_eq_some_iff.mp h
   clear h
   obtain ⟨h1, G, h⟩ := hx_
   have hx_ := if_true_ h
   clear h
   obtain ⟨hh, h⟩ := hx_
   have hx_ := if_true_ h
   clear h
   obtain ⟨hz_, h⟩ := hx_
   simp only at S R E2 E3 M1 M2 hn1 M3 G hz_
   subst hz_
   have c1b : decide (n2 < 0) = false := decide_eq_false (by simpa using hn1)
   have c2b : decide (h1 < 0) = false := decide_eq_false (by simpa using hh)
   have F1 := Aside0.mk fun  (W : World) (hW : Below w.heap.size w W)  => laws_szPresentation.calls k a0_0 A1 c1 l1 1048576 z W (Kd.C_below HR1.out hW) HC1.out Z
   have F2 := Aside0.mk fun  (W : World) (hW : Below w.heap.size w W)  => laws_szTietzeMove.calls a1_0 a1_1 a1_2 A2 c2 l2 z y W (Kd.C_below HR2.out hW) HC2.out Y
   have F3 := Aside0.mk fun (W : World) (hW : Below w.heap.size w W) => laws_toPresentation.calls k a0_0 A1 c1 l1 p1 p2 W (Kd.C_below HR1.out hW) HC1.out B
   have F4 := Aside0.mk fun (W : World) (hW : Below w.heap.size w W) => laws_toTietzeMove.calls k a1_0 a1_1 a1_2 A2 c2 l2 m1 m2 m3 m4 W (Kd.C_below HR2.out hW) HC2.out I
   have F5 := Aside0.mk fun A0_ c0_ A3_ c3_ (W : World) (hW : Below w.heap.size w W) h0_ g0_ h3_ g3_ => spec_ApplyTietze.calls k p1 A0_ c0_ p2 m1 m2 m3 A3_ c3_ m4 s1 s2 r3 W h0_ g0_ h3_ g3_ S
   have F6 := Aside0.mk fun  (W : World) (hW : Below w.heap.size w W)  => laws_toPresentation.calls k a0_0 A1 c1 l1 p1 p2 W (Kd.C_below HR1.out hW) HC1.out B
   have F7 := Aside0.mk fun  (W : World) (hW : Below w.heap.size w W)  => laws_toTietzeMove.calls k a1_0 a1_1 a1_2 A2 c2 l2 m1 m2 m3 m4 W (Kd.C_below HR2.out hW) HC2.out I
   have F8 := Aside0.mk fun A1_ c1_ A5_ c5_ (W : World) (hW : Below w.heap.size w W) h1_ g1_ h5_ g5_ => impl_ApplyTietze.calls k p1 A1_ c1_ p2 m1 m2 m3 A5_ c5_ m4 r1 r2 r3 W h1_ g1_ h5_ g5_ R
   have F9 := Aside0.mk fun A1_ c1_ A3_ c3_ (W : World) (hW : Below w.heap.size w W) h1_ g1_ h3_ g3_ => laws_eqPresentation.calls k r1 A1_ c1_ r2 s1 A3_ c3_ s2 true W h1_ g1_ h3_ g3_ E1
   have F10 := Aside0.mk fun  (W : World) (hW : Below w.heap.size w W)  => laws_toPresentation.calls k a0_0 A1 c1 l1 p1 p2 W (Kd.C_below HR1.out hW) HC1.out B
   have F11 := Aside0.mk fun A1_ c1_ A3_ c3_ (W : World) (hW : Below w.heap.size w W) h1_ g1_ h3_ g3_ => laws_eqPresentation.calls k p1 A1_ c1_ p2 p1 A3_ c3_ p2 true W h1_ g1_ h3_ g3_ E2
   have F12 := Aside0.mk fun  (W : World) (hW : Below w.heap.size w W)  => laws_toTietzeMove.calls k a1_0 a1_1 a1_2 A2 c2 l2 m1 m2 m3 m4 W (Kd.C_below HR2.out hW) HC2.out I
   have F13 := Aside0.mk fun A3_ c3_ A7_ c7_ (W : World) (hW : Below w.heap.size w W) h3_ g3_ h7_ g7_ => laws_eqTietzeMove.calls k m1 m2 m3 A3_ c3_ m4 m1 m2 m3 A7_ c7_ m4 true W h3_ g3_ h7_ g7_ E3
   have F14 := Aside0.mk fun P0_ u W hB ho => laws_markPresentation.calls k P0_ u p1 p2 1 n1 b' w W hB ho M1
   have F15 := Aside0.mk fun P0_ u W hB ho => laws_markTietzeMove.calls k m1 m2 m3 P0_ u m4 n1 n2 m' w W hB ho M2
   have F16 := Aside0.mk fun A1_ c1_ A3_ c3_ (W : World) (hW : Below w.heap.size w W) h1_ g1_ h3_ g3_ => laws_eqPresentation.calls k r1 A1_ c1_ r2 s1 A3_ c3_ s2 true W h1_ g1_ h3_ g3_ E1
   have F17 := Aside0.mk fun P0_ u W hB ho => laws_markPresentation.calls k P0_ u r1 r2 1 h1 r' w W hB ho M3
   have F18 := Aside0.mk fun A1_ c1_ (W : World) (hW : Below w.heap.size w W) h1_ g1_ => laws_heldPresentation.calls k r1 A1_ c1_ r' 1 h1 W h1_ g1_ G
   have F19 := Aside0.mk fun (W : World) (hW : Below w.heap.size w W) => laws_toPresentation.calls k a0_0 A1 c1 l1 p1 p2 W (Kd.C_below HR1.out hW) HC1.out B
   have F20 := Aside0.mk fun (W : World) (hW : Below w.heap.size w W) => laws_toTietzeMove.calls k a1_0 a1_1 a1_2 A2 c2 l2 m1 m2 m3 m4 W (Kd.C_below HR2.out hW) HC2.out I
   have F21 := Aside0.mk fun A0_ c0_ A3_ c3_ (W : World) (hW : Below w.heap.size w W) h0_ g0_ h3_ g3_ => impl_ApplyTietze.calls k p1 A0_ c0_ p2 m1 m2 m3 A3_ c3_ m4 r1 r2 r3 W h0_ g0_ h3_ g3_ R
   have F22 := Aside0.mk fun A1_ c1_ A3_ c3_ (W : World) (hW : Below w.heap.size w W) h1_ g1_ h3_ g3_ => laws_eqPresentation.calls k r1 A1_ c1_ r2 s1 A3_ c3_ s2 true W h1_ g1_ h3_ g3_ E1
   have F23 := Aside0.mk fun A1_ c1_ (W : World) (hW : Below w.heap.size w W) h1_ g1_ => laws_heldPresentation.calls k r1 A1_ c1_ r' 1 h1 W h1_ g1_ G
   clear c0 c9 Z Y B I S R E1 E2 E3 M1 M2 M3 G hn1 hh
   go_enter Try.func5, Try.ntmps5
   go_upto_region 1 with (fail)
   obtain ⟨W1, hW0_⟩ : ∃ W_, W_ = w.alloc (.cells #[.int .i64 a0_0, .slice A1 l1.length c1] 24) := ⟨_, rfl⟩
   have hb : Below w.heap.size w W1 := by rw [hW0_]; exact below_alloc (Below.refl _ _) _
   have hnew_ : W1.heap[w.heap.size]? = some (.cells #[.int .i64 a0_0, .slice A1 l1.length c1] 24 (0, 0)) := by rw [hW0_]; exact heap_alloc_new w _
   have bpLT := am2_ (show w.heap.size < W1.heap.size by rw [hW0_]; simp)
   have hsz0_ : w.heap.size + 1 = W1.heap.size := by rw [hW0_]; simp
   have HB1 := am2_ hb
   have HL1 := am2_ (below_size hb)
   have bp := am2_ hnew_
   obtain ⟨qbp_0, qbp_1⟩ := lc2_ bp
   clear hnew_ hb
   obtain ⟨W2, hW1_⟩ : ∃ W_, W_ = W1.alloc (.cells #[.int .i64 a1_0, .int .i64 a1_1, .int .i64 a1_2, .slice A2 l2.length c2] 41) := ⟨_, rfl⟩
   have hb : Below W1.heap.size W1 W2 := by rw [hW1_]; exact below_alloc (Below.refl _ _) _
   have hnew_ : W2.heap[W1.heap.size]? = some (.cells #[.int .i64 a1_0, .int .i64 a1_1, .int .i64 a1_2, .slice A2 l2.length c2] 41 (0, 0)) := by rw [hW1_]; exact heap_alloc_new W1 _
   have bmLT := am2_ (show W1.heap.size < W2.heap.size by rw [hW1_]; simp)
   have hsz1_ : W1.heap.size + 1 = W2.heap.size := by rw [hW1_]; simp
   have HB2 := am2_ (below_then HB1.out (below_size HB1.out) hb)
   have HL2 := am2_ (below_size hb)
   replace bp := lw_ bp hb
   clear qbp_0 qbp_1
   obtain ⟨qbp_0, qbp_1⟩ := lc2_ bp
   have bm := am2_ hnew_
   obtain ⟨qbm_0, qbm_1, qbm_2, qbm_3⟩ := lc4_ bm
   clear hnew_ hb
   change Code.wp Try.prog _ _ _ ((w.alloc (.cells #[.int .i64 a0_0, .slice A1 l1.length c1] 24)).alloc (.cells #[.int .i64 a1_0, .int .i64 a1_1, .int .i64 a1_2, .slice A2 l2.length c2] 41))
   rw [← hW0_, ← hW1_]
   simp only [hsz0_]
   clear hW0_ hW1_ hsz0_ hsz1_
   go_upto_region 8 with (first
    | (go_at_call 8; refine (F1.out  _ HB2.out ).mono ?_; rintro e W3 ⟨rfl, hb⟩; have HB3 := am2_ (below_then HB2.out (below_size HB2.out) hb); have HL3 := am2_ (below_size hb); replace bp := lw_ bp hb; clear qbp_0 qbp_1; obtain ⟨qbp_0, qbp_1⟩ := lc2_ bp; replace bm := lw_ bm hb; clear qbm_0 qbm_1 qbm_2 qbm_3; obtain ⟨qbm_0, qbm_1, qbm_2, qbm_3⟩ := lc4_ bm; clear F1  hb  )
    | (go_at_call 22; refine (F2.out  _ HB3.out ).mono ?_; rintro e W4 ⟨rfl, hb⟩; have HB4 := am2_ (below_then HB3.out (below_size HB3.out) hb); have HL4 := am2_ (below_size hb); replace bp := lw_ bp hb; clear qbp_0 qbp_1; obtain ⟨qbp_0, qbp_1⟩ := lc2_ bp; replace bm := lw_ bm hb; clear qbm_0 qbm_1 qbm_2 qbm_3; obtain ⟨qbm_0, qbm_1, qbm_2, qbm_3⟩ := lc4_ bm; clear F2  hb  ))
   have HU := am2_ (below_drew1 (Below.refl W4.heap.size W4))
   refine start_ (n := 11) (S := (fun w' => w'.cell? ⟨w.heap.size, 0, none⟩ = some (.int .i64 a0_0) ∧ w'.cell? ⟨w.heap.size, 1, none⟩ = some (.slice A1 l1.length c1) ∧ w'.cell? ⟨W1.heap.size, 0, none⟩ = some (.int .i64 a1_0) ∧ w'.cell? ⟨W1.heap.size, 1, none⟩ = some (.int .i64 a1_1) ∧ w'.cell? ⟨W1.heap.size, 2, none⟩ = some (.int .i64 a1_2) ∧ w'.cell? ⟨W1.heap.size, 3, none⟩ = some (.slice A2 l2.length c2))) (ds := []) (kA_ 11 0) (by kernel_rfl) rfl (by kernel_rfl) (hd6_ bp bm HU.out) (fun hHeld => ?_)
   generalize W4.drew = U at HU hHeld ⊢
   refine kt_ 0 28 (kA_ 11 1) hHeld ?_
   refine kt_ 2 30 (kA_ 11 5) hHeld ?_
   clear hHeld
   refine join_ (σ := (Value × Value) × (Value × Nat)) 2 (kA_ 11 511) (fun s_ => [(29, .agg #[.int .i64 p1, s_.1.1]), (31, .agg #[.int .i64 m1, .int .i64 m2, .int .i64 m3, s_.1.2]), (32, .tuple #[.agg #[.int .i64 s1, s_.2.1], .int .i64 r3]), (6, .pointer (some ⟨s_.2.2, 0, none⟩)), (27, .tuple #[.agg #[.int .i64 s1, s_.2.1], .int .i64 r3]), (33, .agg #[.int .i64 s1, s_.2.1]), (34, .int .i64 r3)]) (fun s_ w' => (∃ A c, s_.2.1 = .slice A s2.length c) ∧ Below W4.heap.size W4 w' ∧ (w'.heap[s_.2.2]? = some (.cells #[.int .i64 0, .slice none 0 0] 28 (0, 0)) ∧ W4.heap.size ≤ s_.2.2) ∧ ∃ lo hi, (W4.heap.size ≤ lo ∧ hi ≤ w'.heap.size ∧ (hi ≤ s_.2.2 ∨ s_.2.2 + 1 ≤ lo)) ∧ SegN w w' lo hi s_.2.1 s2) ?_ ?_
   rotate_left
   ·intro hCont
    refine two_ (i := 1) (j := 8) (Ni := some 29) (Nj := some 6) (kA_ 11 7) (kA_ 11 261) rfl rfl rfl rfl (by kernel_rfl) (by decide) (by decide) (fun K hK => ?_) (fun K hK => ?_)
    ·go_simp
     go_at_call 10
     refine (F3.out _ (below_step HB4.out HU.out)).mono ?_
     rintro e U1 ⟨u0, rfl, hS, hb⟩
     obtain ⟨A0_, c0_, eu⟩ := Kd.S_slice hS
     subst eu
     replace HU := am2_ (below_step HU.out hb)
     have HC0 := am2_ (And.intro (Kd.S_reads' hS).2.2 (Kd.S_reads' hS).2.1)
     refine hK.out _ _ (hd6_ bp bm HU.out) (fun _ => ?_)
     clear hK K hS hb
     clear F3
     refine two_ (i := 3) (j := 8) (Ni := some 31) (Nj := some 6) (kA_ 11 15) (kA_ 11 263) rfl rfl rfl rfl (by kernel_rfl) (by decide) (by decide) (fun K hK => ?_) (fun K hK => ?_)
     ·go_simp
      go_at_call 24
      refine (F4.out _ (below_step HB4.out HU.out)).mono ?_
      rintro e U2 ⟨u1, rfl, hS, hb⟩
      obtain ⟨A1_, c1_, eu⟩ := Kd.R_slice hS
      subst eu
      replace HU := am2_ (below_step HU.out hb)
      replace HC0 := am2_ (And.intro (Kd.C_below HC0.out.1 hb) HC0.out.2)
      have HC1 := am2_ (And.intro (Kd.R_reads' hS).2.2 (Kd.R_reads' hS).2.1)
      refine hK.out _ _ (hd6_ bp bm HU.out) (fun _ => ?_)
      clear hK K hS hb
      refine two_ (i := 4) (j := 8) (Ni := some 32) (Nj := some 6) (kA_ 11 31) (kA_ 11 271) rfl rfl rfl rfl (by kernel_rfl) (by decide) (by decide) (fun K hK => ?_) (fun K hK => ?_)
      ·have HUo := am2_ HU.out.size
       go_simp
       go_at_call 23
       refine (F5.out _ _ _ _ _ (below_step HB4.out HU.out) HC0.out.1 HC0.out.2 HC1.out.1 HC1.out.2).mono ?_
       rintro e U3 ⟨u2, rfl, hS, hb⟩
       obtain ⟨A2_, c2_, eu⟩ := Kd.N_slice hS
       subst eu
       replace HU := am2_ (below_step HU.out hb)
       replace HC0 := am2_ (And.intro (Kd.C_below HC0.out.1 hb) HC0.out.2)
       replace HC1 := am2_ (And.intro (Kd.C_below HC1.out.1 hb) HC1.out.2)
       have HX := am2_ (And.intro (SegN.new hS (Nat.le_trans (below_size HB4.out) HUo.out)) (And.intro HUo.out (Nat.le_refl U3.heap.size)))
       refine hK.out _ _ (hd6_ bp bm HU.out) (fun _ => ?_)
       clear hK K hS hb
       refine kz_ 5 27 (kA_ 11 63) ?_
       refine kz_ 6 33 (kA_ 11 127) ?_
       refine kz_ 7 34 (kA_ 11 255) ?_
       refine oa_ 8 6 (kA_ 11 511) (fun K hK => ?_)
       refine box_step ?hg (N := 6) ?hd (cs := #[.int .i64 0, .slice none 0 0]) (t := 28) ?hr ?_; (case hd => rfl); (case hg => rfl); (case hr => first | (go_simp; done) | (go_simp; rfl))
       intro b hg U4 hbox hb
       have HDJ := am2_ (show U3.heap.size ≤ b ∨ b + 1 ≤ U2.heap.size from Or.inl (by rw [hg]; exact Nat.le_refl _))
       have HUo2 := am2_ HU.out.size
       replace HU := am2_ (below_step HU.out hb)
       replace HC0 := am2_ (And.intro (Kd.C_below HC0.out.1 hb) HC0.out.2)
       replace HC1 := am2_ (And.intro (Kd.C_below HC1.out.1 hb) HC1.out.2)
       replace HX := am2_ (And.intro (SegN.below HX.out.1 hb) (And.intro HX.out.2.1 (Nat.le_trans HX.out.2.2 hb.size)))
       have HBK := am2_ (And.intro hbox (show W4.heap.size ≤ b by rw [hg]; exact HUo2.out))
       refine hK.out _ _ (hd6_ bp bm HU.out) (fun _ => ?_)
       clear hK K hbox hb hg HUo2
       refine kn_ 6 ?_
       exact norm_ (by simp only [putAll, Act.put, List.setIfInBounds_toArray, List.set_cons_zero, List.set_cons_succ]) (hCont ((.slice A0_ p2.length c0_, .slice A1_ m4.length c1_), .slice A2_ s2.length c2_, b) _ ⟨⟨_, _, rfl⟩, HU.out, HBK.out, _, _, ⟨HX.out.2.1, HX.out.2.2, HDJ.out⟩, HX.out.1⟩)
      ·refine box_step ?hg (N := 6) ?hd (cs := #[.int .i64 0, .slice none 0 0]) (t := 28) ?hr ?_; (case hd => rfl); (case hg => rfl); (case hr => first | (go_simp; done) | (go_simp; rfl))
       intro b hg U3 hbox hb
       have HUo2 := am2_ HU.out.size
       replace HU := am2_ (below_step HU.out hb)
       replace HC0 := am2_ (And.intro (Kd.C_below HC0.out.1 hb) HC0.out.2)
       replace HC1 := am2_ (And.intro (Kd.C_below HC1.out.1 hb) HC1.out.2)
       have HBK := am2_ (And.intro hbox (show W4.heap.size ≤ b by rw [hg]; exact HUo2.out))
       refine hK.out _ _ (hd6_ bp bm HU.out) (fun _ => ?_)
       clear hK K hbox hb hg HUo2
       refine kn_ 6 ?_
       refine oa_ 4 32 (kA_ 11 287) (fun K hK => ?_)
       have HBL := am2_ (blk_lt HBK.out.1)
       have HUo := am2_ HU.out.size
       go_simp
       go_at_call 23
       refine (F5.out _ _ _ _ _ (below_step HB4.out HU.out) HC0.out.1 HC0.out.2 HC1.out.1 HC1.out.2).mono ?_
       rintro e U4 ⟨u2, rfl, hS, hb⟩
       obtain ⟨A2_, c2_, eu⟩ := Kd.N_slice hS
       subst eu
       replace HU := am2_ (below_step HU.out hb)
       replace HC0 := am2_ (And.intro (Kd.C_below HC0.out.1 hb) HC0.out.2)
       replace HC1 := am2_ (And.intro (Kd.C_below HC1.out.1 hb) HC1.out.2)
       replace HBK := am2_ (And.intro (blk_below HBK.out.1 hb) HBK.out.2)
       have HX := am2_ (And.intro (SegN.new hS (Nat.le_trans (below_size HB4.out) HUo.out)) (And.intro HUo.out (Nat.le_refl U4.heap.size)))
       have HDJ := am2_ (Or.inr HBL.out : (U4.heap.size ≤ b ∨ b + 1 ≤ U3.heap.size))
       refine hK.out _ _ (hd6_ bp bm HU.out) (fun _ => ?_)
       clear hK K hS hb
       refine kz_ 5 27 (kA_ 11 319) ?_
       refine kz_ 6 33 (kA_ 11 383) ?_
       refine kz_ 7 34 (kA_ 11 511) ?_
       exact norm_ (by simp only [putAll, Act.put, List.setIfInBounds_toArray, List.set_cons_zero, List.set_cons_succ]) (hCont ((.slice A0_ p2.length c0_, .slice A1_ m4.length c1_), .slice A2_ s2.length c2_, b) _ ⟨⟨_, _, rfl⟩, HU.out, HBK.out, _, _, ⟨HX.out.2.1, HX.out.2.2, HDJ.out⟩, HX.out.1⟩)
     ·refine box_step ?hg (N := 6) ?hd (cs := #[.int .i64 0, .slice none 0 0]) (t := 28) ?hr ?_; (case hd => rfl); (case hg => rfl); (case hr => first | (go_simp; done) | (go_simp; rfl))
      intro b hg U2 hbox hb
      have HUo2 := am2_ HU.out.size
      replace HU := am2_ (below_step HU.out hb)
      replace HC0 := am2_ (And.intro (Kd.C_below HC0.out.1 hb) HC0.out.2)
      have HBK := am2_ (And.intro hbox (show W4.heap.size ≤ b by rw [hg]; exact HUo2.out))
      refine hK.out _ _ (hd6_ bp bm HU.out) (fun _ => ?_)
      clear hK K hbox hb hg HUo2
      refine kn_ 6 ?_
      refine oa_ 3 31 (kA_ 11 271) (fun K hK => ?_)
      go_simp
      go_at_call 24
      refine (F4.out _ (below_step HB4.out HU.out)).mono ?_
      rintro e U3 ⟨u1, rfl, hS, hb⟩
      obtain ⟨A1_, c1_, eu⟩ := Kd.R_slice hS
      subst eu
      replace HU := am2_ (below_step HU.out hb)
      replace HC0 := am2_ (And.intro (Kd.C_below HC0.out.1 hb) HC0.out.2)
      replace HBK := am2_ (And.intro (blk_below HBK.out.1 hb) HBK.out.2)
      have HC1 := am2_ (And.intro (Kd.R_reads' hS).2.2 (Kd.R_reads' hS).2.1)
      refine hK.out _ _ (hd6_ bp bm HU.out) (fun _ => ?_)
      clear hK K hS hb
      refine oa_ 4 32 (kA_ 11 287) (fun K hK => ?_)
      have HBL := am2_ (blk_lt HBK.out.1)
      have HUo := am2_ HU.out.size
      go_simp
      go_at_call 23
      refine (F5.out _ _ _ _ _ (below_step HB4.out HU.out) HC0.out.1 HC0.out.2 HC1.out.1 HC1.out.2).mono ?_
      rintro e U4 ⟨u2, rfl, hS, hb⟩
      obtain ⟨A2_, c2_, eu⟩ := Kd.N_slice hS
      subst eu
      replace HU := am2_ (below_step HU.out hb)
      replace HC0 := am2_ (And.intro (Kd.C_below HC0.out.1 hb) HC0.out.2)
      replace HC1 := am2_ (And.intro (Kd.C_below HC1.out.1 hb) HC1.out.2)
      replace HBK := am2_ (And.intro (blk_below HBK.out.1 hb) HBK.out.2)
      have HX := am2_ (And.intro (SegN.new hS (Nat.le_trans (below_size HB4.out) HUo.out)) (And.intro HUo.out (Nat.le_refl U4.heap.size)))
      have HDJ := am2_ (Or.inr HBL.out : (U4.heap.size ≤ b ∨ b + 1 ≤ U3.heap.size))
      refine hK.out _ _ (hd6_ bp bm HU.out) (fun _ => ?_)
      clear hK K hS hb
      refine kz_ 5 27 (kA_ 11 319) ?_
      refine kz_ 6 33 (kA_ 11 383) ?_
      refine kz_ 7 34 (kA_ 11 511) ?_
      exact norm_ (by simp only [putAll, Act.put, List.setIfInBounds_toArray, List.set_cons_zero, List.set_cons_succ]) (hCont ((.slice A0_ p2.length c0_, .slice A1_ m4.length c1_), .slice A2_ s2.length c2_, b) _ ⟨⟨_, _, rfl⟩, HU.out, HBK.out, _, _, ⟨HX.out.2.1, HX.out.2.2, HDJ.out⟩, HX.out.1⟩)
    ·refine box_step ?hg (N := 6) ?hd (cs := #[.int .i64 0, .slice none 0 0]) (t := 28) ?hr ?_; (case hd => rfl); (case hg => rfl); (case hr => first | (go_simp; done) | (go_simp; rfl))
     intro b hg U1 hbox hb
     have HUo2 := am2_ HU.out.size
     replace HU := am2_ (below_step HU.out hb)
     have HBK := am2_ (And.intro hbox (show W4.heap.size ≤ b by rw [hg]; exact HUo2.out))
     refine hK.out _ _ (hd6_ bp bm HU.out) (fun _ => ?_)
     clear hK K hbox hb hg HUo2
     refine kn_ 6 ?_
     refine oa_ 1 29 (kA_ 11 263) (fun K hK => ?_)
     go_simp
     go_at_call 10
     refine (F3.out _ (below_step HB4.out HU.out)).mono ?_
     rintro e U2 ⟨u0, rfl, hS, hb⟩
     obtain ⟨A0_, c0_, eu⟩ := Kd.S_slice hS
     subst eu
     replace HU := am2_ (below_step HU.out hb)
     replace HBK := am2_ (And.intro (blk_below HBK.out.1 hb) HBK.out.2)
     have HC0 := am2_ (And.intro (Kd.S_reads' hS).2.2 (Kd.S_reads' hS).2.1)
     refine hK.out _ _ (hd6_ bp bm HU.out) (fun _ => ?_)
     clear hK K hS hb
     clear F3
     refine oa_ 3 31 (kA_ 11 271) (fun K hK => ?_)
     go_simp
     go_at_call 24
     refine (F4.out _ (below_step HB4.out HU.out)).mono ?_
     rintro e U3 ⟨u1, rfl, hS, hb⟩
     obtain ⟨A1_, c1_, eu⟩ := Kd.R_slice hS
     subst eu
     replace HU := am2_ (below_step HU.out hb)
     replace HC0 := am2_ (And.intro (Kd.C_below HC0.out.1 hb) HC0.out.2)
     replace HBK := am2_ (And.intro (blk_below HBK.out.1 hb) HBK.out.2)
     have HC1 := am2_ (And.intro (Kd.R_reads' hS).2.2 (Kd.R_reads' hS).2.1)
     refine hK.out _ _ (hd6_ bp bm HU.out) (fun _ => ?_)
     clear hK K hS hb
     refine oa_ 4 32 (kA_ 11 287) (fun K hK => ?_)
     have HBL := am2_ (blk_lt HBK.out.1)
     have HUo := am2_ HU.out.size
     go_simp
     go_at_call 23
     refine (F5.out _ _ _ _ _ (below_step HB4.out HU.out) HC0.out.1 HC0.out.2 HC1.out.1 HC1.out.2).mono ?_
     rintro e U4 ⟨u2, rfl, hS, hb⟩
     obtain ⟨A2_, c2_, eu⟩ := Kd.N_slice hS
     subst eu
     replace HU := am2_ (below_step HU.out hb)
     replace HC0 := am2_ (And.intro (Kd.C_below HC0.out.1 hb) HC0.out.2)
     replace HC1 := am2_ (And.intro (Kd.C_below HC1.out.1 hb) HC1.out.2)
     replace HBK := am2_ (And.intro (blk_below HBK.out.1 hb) HBK.out.2)
     have HX := am2_ (And.intro (SegN.new hS (Nat.le_trans (below_size HB4.out) HUo.out)) (And.intro HUo.out (Nat.le_refl U4.heap.size)))
     have HDJ := am2_ (Or.inr HBL.out : (U4.heap.size ≤ b ∨ b + 1 ≤ U3.heap.size))
     refine hK.out _ _ (hd6_ bp bm HU.out) (fun _ => ?_)
     clear hK K hS hb
     refine kz_ 5 27 (kA_ 11 319) ?_
     refine kz_ 6 33 (kA_ 11 383) ?_
     refine kz_ 7 34 (kA_ 11 511) ?_
     exact norm_ (by simp only [putAll, Act.put, List.setIfInBounds_toArray, List.set_cons_zero, List.set_cons_succ]) (hCont ((.slice A0_ p2.length c0_, .slice A1_ m4.length c1_), .slice A2_ s2.length c2_, b) _ ⟨⟨_, _, rfl⟩, HU.out, HBK.out, _, _, ⟨HX.out.2.1, HX.out.2.2, HDJ.out⟩, HX.out.1⟩)
   rintro ⟨⟨u0, u1⟩, u, b5⟩ U9 ⟨⟨A5_0, d5_0, eu⟩, hU, hBK, lo, hi, hlh, hX⟩
   simp only at eu hU hBK hlh hX
   subst eu
   have HU9 := am2_ hU
   have HBK := am2_ hBK
   have HLH := am2_ hlh
   have HX := am2_ hX
   clear hU hBK hlh hX HU
   refine norm_ (a' := ?_) ?_ ?_
   rotate_left
   ·simp only [putAll, Act.put, List.setIfInBounds_toArray, List.set_cons_zero, List.set_cons_succ]
    rfl
   refine one_ (i := 9) (N := none) (kA_ 11 1023) rfl rfl (by kernel_rfl) (by decide) (fun K hK => ?_)
   have y0 : U9.cell? ⟨b5, 0, none⟩ = some (.int .i64 0) := (blk_cell HBK.out.1 0).trans rfl
   have y1 : U9.cell? ⟨b5, 1, none⟩ = some (.slice none 0 0) := (blk_cell HBK.out.1 1).trans rfl
   have y2 := blk_frozen HBK.out.1 0
   have y3 := blk_frozen HBK.out.1 1
   refine skip_ (w1 := ?_) (by rfl) rfl ?_ ?_
   rotate_left
   ·go_simp
    rfl
   have HU := am2_ (below_set (below_set HU9.out HBK.out.2) HBK.out.2 : Below W4.heap.size W4 ((U9.setCell ⟨b5, 0, none⟩ (.int .i64 s1)).setCell ⟨b5, 1, none⟩ (.slice A5_0 s2.length d5_0)))
   have HKP := am2_ (show Kept U9 ((U9.setCell ⟨b5, 0, none⟩ (.int .i64 s1)).setCell ⟨b5, 1, none⟩ (.slice A5_0 s2.length d5_0)) (fun k_ => b5 ≤ k_ ∧ k_ < b5 + 1) from ⟨by simp [World.setCell], fun i_ _ hn_ => (Below.heap_setCell _ ⟨b5, 1, none⟩ _ i_ (fun he_ => hn_ ⟨Nat.le_of_eq he_.symm, by show i_ < b5 + 1; rw [he_]; exact Nat.lt_succ_self _⟩)).trans (Below.heap_setCell _ ⟨b5, 0, none⟩ _ i_ (fun he_ => hn_ ⟨Nat.le_of_eq he_.symm, by show i_ < b5 + 1; rw [he_]; exact Nat.lt_succ_self _⟩))⟩)
   have HX2 := am2_ (SegN.kept HX.out HKP.out HLH.out.2.2)
   have HNB := am2_ (show (((U9.setCell ⟨b5, 0, none⟩ (.int .i64 s1)).setCell ⟨b5, 1, none⟩ (.slice A5_0 s2.length d5_0))).heap[b5]? = some (.cells #[.int .i64 s1, .slice A5_0 s2.length d5_0] 28 (0, 0)) from blk_put (blk_put HBK.out.1 0 _ rfl) 1 _ rfl)
   have HSZ := am2_ HKP.out.1
   refine hK.out _ _ (hd6_ bp bm HU.out) (fun _ => ?_)
   clear hK K y0 y1 y2 y3 HKP HX HBK
   refine kz_ 10 7 (kA_ 11 2047) ?_
   refine done_ (by kernel_rfl) ?_
   generalize ((U9.setCell ⟨b5, 0, none⟩ (.int .i64 s1)).setCell ⟨b5, 1, none⟩ (.slice A5_0 s2.length d5_0)) = W5 at HU HX2 HNB HSZ ⊢
   have hb := HU.out
   have bsLT := am2_ (blk_lt HNB.out)
   have HB5 := am2_ (below_then HB4.out (below_size HB4.out) hb)
   have HL5 := am2_ (below_size hb)
   replace bp := lw_ bp hb
   clear qbp_0 qbp_1
   obtain ⟨qbp_0, qbp_1⟩ := lc2_ bp
   replace bm := lw_ bm hb
   clear qbm_0 qbm_1 qbm_2 qbm_3
   obtain ⟨qbm_0, qbm_1, qbm_2, qbm_3⟩ := lc4_ bm
   have XS := am2_ (show SegN w W5 W4.heap.size W5.heap.size (.slice A5_0 s2.length d5_0) s2 from Kd.N_mono HX2.out fun k_ hk_ => ⟨Nat.le_trans HLH.out.1 hk_.1, Nat.lt_of_lt_of_le hk_.2 (Nat.le_trans HLH.out.2.1 HSZ.out)⟩)
   have bs := HNB
   obtain ⟨qbs_0, qbs_1⟩ := lc2_ bs
   clear hb HU HX2 HNB HLH HSZ HU9 lo hi F4 F5
   go_upto_region 10 with (first
    | (go_at_call 10; refine (F6.out  _ HB5.out ).mono ?_; rintro e W6 ⟨v6_0, rfl, hS0, hb⟩; have HB6 := am2_ (below_then HB5.out (below_size HB5.out) hb); have HL6 := am2_ (below_size hb); replace XS := am2_ (XS.out.below hb); replace bp := lw_ bp hb; clear qbp_0 qbp_1; obtain ⟨qbp_0, qbp_1⟩ := lc2_ bp; replace bm := lw_ bm hb; clear qbm_0 qbm_1 qbm_2 qbm_3; obtain ⟨qbm_0, qbm_1, qbm_2, qbm_3⟩ := lc4_ bm; replace bs := lw_ bs hb; clear qbs_0 qbs_1; obtain ⟨qbs_0, qbs_1⟩ := lc2_ bs; have XB := am2_ (Seg.new hS0 (below_size HB5.out)); obtain ⟨A6_0, d6_0, e6_0⟩ := Kd.S_slice hS0; subst e6_0; clear F6 hS0 hb  ))
   obtain ⟨W7, hW_⟩ : ∃ W_, W_ = W6.alloc (.cells #[.int .i64 p1, .slice A6_0 p2.length d6_0] 28) := ⟨_, rfl⟩
   have hb : Below W6.heap.size W6 W7 := by rw [hW_]; exact below_alloc (Below.refl _ _) _
   have hnew_ : W7.heap[W6.heap.size]? = some (.cells #[.int .i64 p1, .slice A6_0 p2.length d6_0] 28 (0, 0)) := by rw [hW_]; exact heap_alloc_new W6 _
   have bxLT := am2_ (show W6.heap.size < W7.heap.size by rw [hW_]; simp)
   have HB7 := am2_ (below_then HB6.out (below_size HB6.out) hb)
   have HL7 := am2_ (below_size hb)
   replace XS := am2_ (XS.out.below hb)
   replace XB := am2_ (XB.out.below hb)
   replace bp := lw_ bp hb
   clear qbp_0 qbp_1
   obtain ⟨qbp_0, qbp_1⟩ := lc2_ bp
   replace bm := lw_ bm hb
   clear qbm_0 qbm_1 qbm_2 qbm_3
   obtain ⟨qbm_0, qbm_1, qbm_2, qbm_3⟩ := lc4_ bm
   replace bs := lw_ bs hb
   clear qbs_0 qbs_1
   obtain ⟨qbs_0, qbs_1⟩ := lc2_ bs
   have bx := am2_ hnew_
   obtain ⟨qbx_0, qbx_1⟩ := lc2_ bx
   change Code.wp Try.prog _ _ _ (W6.alloc (.cells #[.int .i64 p1, .slice A6_0 p2.length d6_0] 28))
   rw [← hW_]
   clear hW_ hb hnew_
   go_upto_region 11 with (first
    | (go_at_call 24; refine (F7.out  _ HB7.out ).mono ?_; rintro e W8 ⟨v8_0, rfl, hS0, hb⟩; have HB8 := am2_ (below_then HB7.out (below_size HB7.out) hb); have HL8 := am2_ (below_size hb); replace XS := am2_ (XS.out.below hb); replace XB := am2_ (XB.out.below hb); replace bp := lw_ bp hb; clear qbp_0 qbp_1; obtain ⟨qbp_0, qbp_1⟩ := lc2_ bp; replace bm := lw_ bm hb; clear qbm_0 qbm_1 qbm_2 qbm_3; obtain ⟨qbm_0, qbm_1, qbm_2, qbm_3⟩ := lc4_ bm; replace bs := lw_ bs hb; clear qbs_0 qbs_1; obtain ⟨qbs_0, qbs_1⟩ := lc2_ bs; replace bx := lw_ bx hb; clear qbx_0 qbx_1; obtain ⟨qbx_0, qbx_1⟩ := lc2_ bx; have XM := am2_ (SegR.new hS0 (below_size HB7.out)); obtain ⟨A8_0, d8_0, e8_0⟩ := Kd.R_slice hS0; subst e8_0; clear F7 hS0 hb  ))
   obtain ⟨W9, hW_⟩ : ∃ W_, W_ = W8.alloc (.cells #[.int .i64 m1, .int .i64 m2, .int .i64 m3, .slice A8_0 m4.length d8_0] 44) := ⟨_, rfl⟩
   have hb : Below W8.heap.size W8 W9 := by rw [hW_]; exact below_alloc (Below.refl _ _) _
   have hnew_ : W9.heap[W8.heap.size]? = some (.cells #[.int .i64 m1, .int .i64 m2, .int .i64 m3, .slice A8_0 m4.length d8_0] 44 (0, 0)) := by rw [hW_]; exact heap_alloc_new W8 _
   have bzLT := am2_ (show W8.heap.size < W9.heap.size by rw [hW_]; simp)
   have HB9 := am2_ (below_then HB8.out (below_size HB8.out) hb)
   have HL9 := am2_ (below_size hb)
   replace XS := am2_ (XS.out.below hb)
   replace XB := am2_ (XB.out.below hb)
   replace XM := am2_ (XM.out.below hb)
   replace bp := lw_ bp hb
   clear qbp_0 qbp_1
   obtain ⟨qbp_0, qbp_1⟩ := lc2_ bp
   replace bm := lw_ bm hb
   clear qbm_0 qbm_1 qbm_2 qbm_3
   obtain ⟨qbm_0, qbm_1, qbm_2, qbm_3⟩ := lc4_ bm
   replace bs := lw_ bs hb
   clear qbs_0 qbs_1
   obtain ⟨qbs_0, qbs_1⟩ := lc2_ bs
   replace bx := lw_ bx hb
   clear qbx_0 qbx_1
   obtain ⟨qbx_0, qbx_1⟩ := lc2_ bx
   have bz := am2_ hnew_
   obtain ⟨qbz_0, qbz_1, qbz_2, qbz_3⟩ := lc4_ bz
   change Code.wp Try.prog _ _ _ (W8.alloc (.cells #[.int .i64 m1, .int .i64 m2, .int .i64 m3, .slice A8_0 m4.length d8_0] 44))
   rw [← hW_]
   clear hW_ hb hnew_
   go_upto_region 12 with (first
    | (go_at_call 25; refine (F8.out _ _ _ _ _ HB9.out XB.out.reads.2.2 XB.out.reads.2.1 XM.out.reads.2.2 XM.out.reads.2.1).mono ?_; rintro e W10 ⟨v10_0, rfl, hS0, hb⟩; have HB10 := am2_ (below_then HB9.out (below_size HB9.out) hb); have HL10 := am2_ (below_size hb); replace XS := am2_ (XS.out.below hb); replace XB := am2_ (XB.out.below hb); replace XM := am2_ (XM.out.below hb); replace bp := lw_ bp hb; clear qbp_0 qbp_1; obtain ⟨qbp_0, qbp_1⟩ := lc2_ bp; replace bm := lw_ bm hb; clear qbm_0 qbm_1 qbm_2 qbm_3; obtain ⟨qbm_0, qbm_1, qbm_2, qbm_3⟩ := lc4_ bm; replace bs := lw_ bs hb; clear qbs_0 qbs_1; obtain ⟨qbs_0, qbs_1⟩ := lc2_ bs; replace bx := lw_ bx hb; clear qbx_0 qbx_1; obtain ⟨qbx_0, qbx_1⟩ := lc2_ bx; replace bz := lw_ bz hb; clear qbz_0 qbz_1 qbz_2 qbz_3; obtain ⟨qbz_0, qbz_1, qbz_2, qbz_3⟩ := lc4_ bz; have XR := am2_ (Seg.new hS0 (below_size HB9.out)); obtain ⟨A10_0, d10_0, e10_0⟩ := Kd.S_slice hS0; subst e10_0; clear F8 hS0 hb  ))
   obtain ⟨W11, hW_⟩ : ∃ W_, W_ = W10.alloc (.cells #[.int .i64 r1, .slice A10_0 r2.length d10_0] 28) := ⟨_, rfl⟩
   have hb : Below W10.heap.size W10 W11 := by rw [hW_]; exact below_alloc (Below.refl _ _) _
   have hnew_ : W11.heap[W10.heap.size]? = some (.cells #[.int .i64 r1, .slice A10_0 r2.length d10_0] 28 (0, 0)) := by rw [hW_]; exact heap_alloc_new W10 _
   have bgLT := am2_ (show W10.heap.size < W11.heap.size by rw [hW_]; simp)
   have HB11 := am2_ (below_then HB10.out (below_size HB10.out) hb)
   have HL11 := am2_ (below_size hb)
   replace XS := am2_ (XS.out.below hb)
   replace XB := am2_ (XB.out.below hb)
   replace XM := am2_ (XM.out.below hb)
   replace XR := am2_ (XR.out.below hb)
   replace bp := lw_ bp hb
   clear qbp_0 qbp_1
   obtain ⟨qbp_0, qbp_1⟩ := lc2_ bp
   replace bm := lw_ bm hb
   clear qbm_0 qbm_1 qbm_2 qbm_3
   obtain ⟨qbm_0, qbm_1, qbm_2, qbm_3⟩ := lc4_ bm
   replace bs := lw_ bs hb
   clear qbs_0 qbs_1
   obtain ⟨qbs_0, qbs_1⟩ := lc2_ bs
   replace bx := lw_ bx hb
   clear qbx_0 qbx_1
   obtain ⟨qbx_0, qbx_1⟩ := lc2_ bx
   replace bz := lw_ bz hb
   clear qbz_0 qbz_1 qbz_2 qbz_3
   obtain ⟨qbz_0, qbz_1, qbz_2, qbz_3⟩ := lc4_ bz
   have bg := am2_ hnew_
   obtain ⟨qbg_0, qbg_1⟩ := lc2_ bg
   change Code.wp Try.prog _ _ _ (W10.alloc (.cells #[.int .i64 r1, .slice A10_0 r2.length d10_0] 28))
   rw [← hW_]
   clear hW_ hb hnew_
   go_upto_region 14 with (first
    | (go_at_call 13; refine (F9.out _ _ _ _ _ HB11.out XR.out.reads.2.2 XR.out.reads.2.1 XS.out.reads.2.2 XS.out.reads.2.1).mono ?_; rintro e W12 ⟨rfl, hb⟩; have HB12 := am2_ (below_then HB11.out (below_size HB11.out) hb); have HL12 := am2_ (below_size hb); replace XS := am2_ (XS.out.below hb); replace XB := am2_ (XB.out.below hb); replace XM := am2_ (XM.out.below hb); replace XR := am2_ (XR.out.below hb); replace bp := lw_ bp hb; clear qbp_0 qbp_1; obtain ⟨qbp_0, qbp_1⟩ := lc2_ bp; replace bm := lw_ bm hb; clear qbm_0 qbm_1 qbm_2 qbm_3; obtain ⟨qbm_0, qbm_1, qbm_2, qbm_3⟩ := lc4_ bm; replace bs := lw_ bs hb; clear qbs_0 qbs_1; obtain ⟨qbs_0, qbs_1⟩ := lc2_ bs; replace bx := lw_ bx hb; clear qbx_0 qbx_1; obtain ⟨qbx_0, qbx_1⟩ := lc2_ bx; replace bz := lw_ bz hb; clear qbz_0 qbz_1 qbz_2 qbz_3; obtain ⟨qbz_0, qbz_1, qbz_2, qbz_3⟩ := lc4_ bz; replace bg := lw_ bg hb; clear qbg_0 qbg_1; obtain ⟨qbg_0, qbg_1⟩ := lc2_ bg; clear F9  hb  ))
   refine wp_region_held_drew (S := (fun w' => w'.cell? ⟨w.heap.size, 0, none⟩ = some (.int .i64 a0_0) ∧ w'.cell? ⟨w.heap.size, 1, none⟩ = some (.slice A1 l1.length c1) ∧ w'.cell? ⟨W1.heap.size, 0, none⟩ = some (.int .i64 a1_0) ∧ w'.cell? ⟨W1.heap.size, 1, none⟩ = some (.int .i64 a1_1) ∧ w'.cell? ⟨W1.heap.size, 2, none⟩ = some (.int .i64 a1_2) ∧ w'.cell? ⟨W1.heap.size, 3, none⟩ = some (.slice A2 l2.length c2) ∧ w'.cell? ⟨b5, 0, none⟩ = some (.int .i64 s1) ∧ w'.cell? ⟨b5, 1, none⟩ = some (.slice A5_0 s2.length d5_0) ∧ w'.cell? ⟨W6.heap.size, 0, none⟩ = some (.int .i64 p1) ∧ w'.cell? ⟨W6.heap.size, 1, none⟩ = some (.slice A6_0 p2.length d6_0) ∧ w'.cell? ⟨W8.heap.size, 0, none⟩ = some (.int .i64 m1) ∧ w'.cell? ⟨W8.heap.size, 1, none⟩ = some (.int .i64 m2) ∧ w'.cell? ⟨W8.heap.size, 2, none⟩ = some (.int .i64 m3) ∧ w'.cell? ⟨W8.heap.size, 3, none⟩ = some (.slice A8_0 m4.length d8_0) ∧ w'.cell? ⟨W10.heap.size, 0, none⟩ = some (.int .i64 r1) ∧ w'.cell? ⟨W10.heap.size, 1, none⟩ = some (.slice A10_0 r2.length d10_0))) (by kernel_rfl) ?r14__s (fun hHeld => ?r14__0)
   case r14__s => exact ⟨qbp_0, qbp_1, qbm_0, qbm_1, qbm_2, qbm_3, qbs_0, qbs_1, qbx_0, qbx_1, qbz_0, qbz_1, qbz_2, qbz_3, qbg_0, qbg_1⟩
   case r14__0 =>
   obtain ⟨W13, hW_⟩ : ∃ W_, W_ = W12.drew := ⟨_, rfl⟩
   have hb : Below W12.heap.size W12 W13 := by rw [hW_]; exact below_drew1 (Below.refl _ _)
   have HB13 := am2_ (below_then HB12.out (below_size HB12.out) hb)
   have HL13 := am2_ (below_size hb)
   replace XS := am2_ (XS.out.below hb)
   replace XB := am2_ (XB.out.below hb)
   replace XM := am2_ (XM.out.below hb)
   replace XR := am2_ (XR.out.below hb)
   replace bp := lw_ bp hb
   clear qbp_0 qbp_1
   obtain ⟨qbp_0, qbp_1⟩ := lc2_ bp
   replace bm := lw_ bm hb
   clear qbm_0 qbm_1 qbm_2 qbm_3
   obtain ⟨qbm_0, qbm_1, qbm_2, qbm_3⟩ := lc4_ bm
   replace bs := lw_ bs hb
   clear qbs_0 qbs_1
   obtain ⟨qbs_0, qbs_1⟩ := lc2_ bs
   replace bx := lw_ bx hb
   clear qbx_0 qbx_1
   obtain ⟨qbx_0, qbx_1⟩ := lc2_ bx
   replace bz := lw_ bz hb
   clear qbz_0 qbz_1 qbz_2 qbz_3
   obtain ⟨qbz_0, qbz_1, qbz_2, qbz_3⟩ := lc4_ bz
   replace bg := lw_ bg hb
   clear qbg_0 qbg_1
   obtain ⟨qbg_0, qbg_1⟩ := lc2_ bg
   rw [← hW_] at hHeld ⊢
   clear hW_ hb
   refine takeL (i := 0) (some 54) (v := ?r14_1_v) rfl rfl (by kernel_rfl) (by kernel_rfl) (by kernel_rfl) (fun _ _ _ h => h) (Or.inl ⟨by rfl, ?r14_1_y⟩) hHeld ?r14_1_n
   case r14_1_y => intro w_ hS_; (try dsimp only at hS_); go_simp; try (with_reducible rfl)
   simp only [Act.put, List.setIfInBounds_toArray, List.set_cons_zero, List.set_cons_succ]
   refine takeL (i := 1) (some 55) (v := ?r14_2_v) rfl rfl (by kernel_rfl) (by kernel_rfl) (by kernel_rfl) (fun _ _ _ h => h) (Or.inl ⟨by rfl, ?r14_2_y⟩) hHeld ?r14_2_n
   case r14_2_y => intro w_ hS_; (try dsimp only at hS_); go_simp; try (with_reducible rfl)
   simp only [Act.put, List.setIfInBounds_toArray, List.set_cons_zero, List.set_cons_succ]
   refine wpAnyH_ready (rs := [2]) (by kernel_rfl) (by simp) ?_
   refine AllReadyH.cons rfl (fun K hK => ?_) AllReadyH.nil
   go_simp
   (go_at_call 10; refine (F10.out  _ HB13.out ).mono ?_; rintro e W14 ⟨v14_0, rfl, hS0, hb⟩; have HB14 := am2_ (below_then HB13.out (below_size HB13.out) hb); have HL14 := am2_ (below_size hb); replace XS := am2_ (XS.out.below hb); replace XB := am2_ (XB.out.below hb); replace XM := am2_ (XM.out.below hb); replace XR := am2_ (XR.out.below hb); replace bp := lw_ bp hb; clear qbp_0 qbp_1; obtain ⟨qbp_0, qbp_1⟩ := lc2_ bp; replace bm := lw_ bm hb; clear qbm_0 qbm_1 qbm_2 qbm_3; obtain ⟨qbm_0, qbm_1, qbm_2, qbm_3⟩ := lc4_ bm; replace bs := lw_ bs hb; clear qbs_0 qbs_1; obtain ⟨qbs_0, qbs_1⟩ := lc2_ bs; replace bx := lw_ bx hb; clear qbx_0 qbx_1; obtain ⟨qbx_0, qbx_1⟩ := lc2_ bx; replace bz := lw_ bz hb; clear qbz_0 qbz_1 qbz_2 qbz_3; obtain ⟨qbz_0, qbz_1, qbz_2, qbz_3⟩ := lc4_ bz; replace bg := lw_ bg hb; clear qbg_0 qbg_1; obtain ⟨qbg_0, qbg_1⟩ := lc2_ bg; have XC := am2_ (Seg.new hS0 (below_size HB13.out)); obtain ⟨A14_0, d14_0, e14_0⟩ := Kd.S_slice hS0; subst e14_0; clear F10 hS0 hb  )
   refine hK.out _ _ ?r14_3_s (fun hHeld2 => ?r14_3_n)
   case r14_3_s => (try dsimp only); exact ⟨qbp_0, qbp_1, qbm_0, qbm_1, qbm_2, qbm_3, qbs_0, qbs_1, qbx_0, qbx_1, qbz_0, qbz_1, qbz_2, qbz_3, qbg_0, qbg_1⟩
   clear hK K hHeld; have hHeld := hHeld2; clear hHeld2
   refine wpAnyH_ready (rs := [3]) (by kernel_rfl) (by simp) ?_
   refine AllReadyH.cons rfl (fun K hK => ?_) AllReadyH.nil
   go_simp
   (go_at_call 13; refine (F11.out _ _ _ _ _ HB14.out XB.out.reads.2.2 XB.out.reads.2.1 XC.out.reads.2.2 XC.out.reads.2.1).mono ?_; rintro e W15 ⟨rfl, hb⟩; have HB15 := am2_ (below_then HB14.out (below_size HB14.out) hb); have HL15 := am2_ (below_size hb); replace XS := am2_ (XS.out.below hb); replace XB := am2_ (XB.out.below hb); replace XM := am2_ (XM.out.below hb); replace XR := am2_ (XR.out.below hb); replace bp := lw_ bp hb; clear qbp_0 qbp_1; obtain ⟨qbp_0, qbp_1⟩ := lc2_ bp; replace bm := lw_ bm hb; clear qbm_0 qbm_1 qbm_2 qbm_3; obtain ⟨qbm_0, qbm_1, qbm_2, qbm_3⟩ := lc4_ bm; replace bs := lw_ bs hb; clear qbs_0 qbs_1; obtain ⟨qbs_0, qbs_1⟩ := lc2_ bs; replace bx := lw_ bx hb; clear qbx_0 qbx_1; obtain ⟨qbx_0, qbx_1⟩ := lc2_ bx; replace bz := lw_ bz hb; clear qbz_0 qbz_1 qbz_2 qbz_3; obtain ⟨qbz_0, qbz_1, qbz_2, qbz_3⟩ := lc4_ bz; replace bg := lw_ bg hb; clear qbg_0 qbg_1; obtain ⟨qbg_0, qbg_1⟩ := lc2_ bg; clear F11  hb  XC)
   refine hK.out _ _ ?r14_4_s (fun hHeld2 => ?r14_4_n)
   case r14_4_s => (try dsimp only); exact ⟨qbp_0, qbp_1, qbm_0, qbm_1, qbm_2, qbm_3, qbs_0, qbs_1, qbx_0, qbx_1, qbz_0, qbz_1, qbz_2, qbz_3, qbg_0, qbg_1⟩
   clear hK K hHeld; have hHeld := hHeld2; clear hHeld2
   refine takeL (i := 4) (some 58) (v := ?r14_5_v) rfl rfl (by kernel_rfl) (by kernel_rfl) (by kernel_rfl) (fun _ _ _ h => h) (Or.inl ⟨by rfl, ?r14_5_y⟩) hHeld ?r14_5_n
   case r14_5_y => intro w_ hS_; (try dsimp only at hS_); go_simp; try (with_reducible rfl)
   simp only [Act.put, List.setIfInBounds_toArray, List.set_cons_zero, List.set_cons_succ]
   refine wpAnyH_done (by kernel_rfl) ?_ _
   go_upto_region 16 with (fail)
   refine wp_region_held_drew (S := (fun w' => w'.cell? ⟨w.heap.size, 0, none⟩ = some (.int .i64 a0_0) ∧ w'.cell? ⟨w.heap.size, 1, none⟩ = some (.slice A1 l1.length c1) ∧ w'.cell? ⟨W1.heap.size, 0, none⟩ = some (.int .i64 a1_0) ∧ w'.cell? ⟨W1.heap.size, 1, none⟩ = some (.int .i64 a1_1) ∧ w'.cell? ⟨W1.heap.size, 2, none⟩ = some (.int .i64 a1_2) ∧ w'.cell? ⟨W1.heap.size, 3, none⟩ = some (.slice A2 l2.length c2) ∧ w'.cell? ⟨b5, 0, none⟩ = some (.int .i64 s1) ∧ w'.cell? ⟨b5, 1, none⟩ = some (.slice A5_0 s2.length d5_0) ∧ w'.cell? ⟨W6.heap.size, 0, none⟩ = some (.int .i64 p1) ∧ w'.cell? ⟨W6.heap.size, 1, none⟩ = some (.slice A6_0 p2.length d6_0) ∧ w'.cell? ⟨W8.heap.size, 0, none⟩ = some (.int .i64 m1) ∧ w'.cell? ⟨W8.heap.size, 1, none⟩ = some (.int .i64 m2) ∧ w'.cell? ⟨W8.heap.size, 2, none⟩ = some (.int .i64 m3) ∧ w'.cell? ⟨W8.heap.size, 3, none⟩ = some (.slice A8_0 m4.length d8_0) ∧ w'.cell? ⟨W10.heap.size, 0, none⟩ = some (.int .i64 r1) ∧ w'.cell? ⟨W10.heap.size, 1, none⟩ = some (.slice A10_0 r2.length d10_0))) (by kernel_rfl) ?r16__s (fun hHeld => ?r16__0)
   case r16__s => exact ⟨qbp_0, qbp_1, qbm_0, qbm_1, qbm_2, qbm_3, qbs_0, qbs_1, qbx_0, qbx_1, qbz_0, qbz_1, qbz_2, qbz_3, qbg_0, qbg_1⟩
   case r16__0 =>
   obtain ⟨W16, hW_⟩ : ∃ W_, W_ = W15.drew := ⟨_, rfl⟩
   have hb : Below W15.heap.size W15 W16 := by rw [hW_]; exact below_drew1 (Below.refl _ _)
   have HB16 := am2_ (below_then HB15.out (below_size HB15.out) hb)
   have HL16 := am2_ (below_size hb)
   replace XS := am2_ (XS.out.below hb)
   replace XB := am2_ (XB.out.below hb)
   replace XM := am2_ (XM.out.below hb)
   replace XR := am2_ (XR.out.below hb)
   replace bp := lw_ bp hb
   clear qbp_0 qbp_1
   obtain ⟨qbp_0, qbp_1⟩ := lc2_ bp
   replace bm := lw_ bm hb
   clear qbm_0 qbm_1 qbm_2 qbm_3
   obtain ⟨qbm_0, qbm_1, qbm_2, qbm_3⟩ := lc4_ bm
   replace bs := lw_ bs hb
   clear qbs_0 qbs_1
   obtain ⟨qbs_0, qbs_1⟩ := lc2_ bs
   replace bx := lw_ bx hb
   clear qbx_0 qbx_1
   obtain ⟨qbx_0, qbx_1⟩ := lc2_ bx
   replace bz := lw_ bz hb
   clear qbz_0 qbz_1 qbz_2 qbz_3
   obtain ⟨qbz_0, qbz_1, qbz_2, qbz_3⟩ := lc4_ bz
   replace bg := lw_ bg hb
   clear qbg_0 qbg_1
   obtain ⟨qbg_0, qbg_1⟩ := lc2_ bg
   rw [← hW_] at hHeld ⊢
   clear hW_ hb
   refine takeL (i := 0) (some 59) (v := ?r16_1_v) rfl rfl (by kernel_rfl) (by kernel_rfl) (by kernel_rfl) (fun _ _ _ h => h) (Or.inl ⟨by rfl, ?r16_1_y⟩) hHeld ?r16_1_n
   case r16_1_y => intro w_ hS_; (try dsimp only at hS_); go_simp; try (with_reducible rfl)
   simp only [Act.put, List.setIfInBounds_toArray, List.set_cons_zero, List.set_cons_succ]
   refine takeL (i := 1) (some 60) (v := ?r16_2_v) rfl rfl (by kernel_rfl) (by kernel_rfl) (by kernel_rfl) (fun _ _ _ h => h) (Or.inl ⟨by rfl, ?r16_2_y⟩) hHeld ?r16_2_n
   case r16_2_y => intro w_ hS_; (try dsimp only at hS_); go_simp; try (with_reducible rfl)
   simp only [Act.put, List.setIfInBounds_toArray, List.set_cons_zero, List.set_cons_succ]
   refine wpAnyH_ready (rs := [2]) (by kernel_rfl) (by simp) ?_
   refine AllReadyH.cons rfl (fun K hK => ?_) AllReadyH.nil
   go_simp
   (go_at_call 24; refine (F12.out  _ HB16.out ).mono ?_; rintro e W17 ⟨v17_0, rfl, hS0, hb⟩; have HB17 := am2_ (below_then HB16.out (below_size HB16.out) hb); have HL17 := am2_ (below_size hb); replace XS := am2_ (XS.out.below hb); replace XB := am2_ (XB.out.below hb); replace XM := am2_ (XM.out.below hb); replace XR := am2_ (XR.out.below hb); replace bp := lw_ bp hb; clear qbp_0 qbp_1; obtain ⟨qbp_0, qbp_1⟩ := lc2_ bp; replace bm := lw_ bm hb; clear qbm_0 qbm_1 qbm_2 qbm_3; obtain ⟨qbm_0, qbm_1, qbm_2, qbm_3⟩ := lc4_ bm; replace bs := lw_ bs hb; clear qbs_0 qbs_1; obtain ⟨qbs_0, qbs_1⟩ := lc2_ bs; replace bx := lw_ bx hb; clear qbx_0 qbx_1; obtain ⟨qbx_0, qbx_1⟩ := lc2_ bx; replace bz := lw_ bz hb; clear qbz_0 qbz_1 qbz_2 qbz_3; obtain ⟨qbz_0, qbz_1, qbz_2, qbz_3⟩ := lc4_ bz; replace bg := lw_ bg hb; clear qbg_0 qbg_1; obtain ⟨qbg_0, qbg_1⟩ := lc2_ bg; have XD := am2_ (SegR.new hS0 (below_size HB16.out)); obtain ⟨A17_0, d17_0, e17_0⟩ := Kd.R_slice hS0; subst e17_0; clear F12 hS0 hb  )
   refine hK.out _ _ ?r16_3_s (fun hHeld2 => ?r16_3_n)
   case r16_3_s => (try dsimp only); exact ⟨qbp_0, qbp_1, qbm_0, qbm_1, qbm_2, qbm_3, qbs_0, qbs_1, qbx_0, qbx_1, qbz_0, qbz_1, qbz_2, qbz_3, qbg_0, qbg_1⟩
   clear hK K hHeld; have hHeld := hHeld2; clear hHeld2
   refine wpAnyH_ready (rs := [3]) (by kernel_rfl) (by simp) ?_
   refine AllReadyH.cons rfl (fun K hK => ?_) AllReadyH.nil
   go_simp
   (go_at_call 26; refine (F13.out _ _ _ _ _ HB17.out XM.out.reads.2.2 XM.out.reads.2.1 XD.out.reads.2.2 XD.out.reads.2.1).mono ?_; rintro e W18 ⟨rfl, hb⟩; have HB18 := am2_ (below_then HB17.out (below_size HB17.out) hb); have HL18 := am2_ (below_size hb); replace XS := am2_ (XS.out.below hb); replace XB := am2_ (XB.out.below hb); replace XM := am2_ (XM.out.below hb); replace XR := am2_ (XR.out.below hb); replace bp := lw_ bp hb; clear qbp_0 qbp_1; obtain ⟨qbp_0, qbp_1⟩ := lc2_ bp; replace bm := lw_ bm hb; clear qbm_0 qbm_1 qbm_2 qbm_3; obtain ⟨qbm_0, qbm_1, qbm_2, qbm_3⟩ := lc4_ bm; replace bs := lw_ bs hb; clear qbs_0 qbs_1; obtain ⟨qbs_0, qbs_1⟩ := lc2_ bs; replace bx := lw_ bx hb; clear qbx_0 qbx_1; obtain ⟨qbx_0, qbx_1⟩ := lc2_ bx; replace bz := lw_ bz hb; clear qbz_0 qbz_1 qbz_2 qbz_3; obtain ⟨qbz_0, qbz_1, qbz_2, qbz_3⟩ := lc4_ bz; replace bg := lw_ bg hb; clear qbg_0 qbg_1; obtain ⟨qbg_0, qbg_1⟩ := lc2_ bg; clear F13  hb  XD)
   refine hK.out _ _ ?r16_4_s (fun hHeld2 => ?r16_4_n)
   case r16_4_s => (try dsimp only); exact ⟨qbp_0, qbp_1, qbm_0, qbm_1, qbm_2, qbm_3, qbs_0, qbs_1, qbx_0, qbx_1, qbz_0, qbz_1, qbz_2, qbz_3, qbg_0, qbg_1⟩
   clear hK K hHeld; have hHeld := hHeld2; clear hHeld2
   refine takeL (i := 4) (some 63) (v := ?r16_5_v) rfl rfl (by kernel_rfl) (by kernel_rfl) (by kernel_rfl) (fun _ _ _ h => h) (Or.inl ⟨by rfl, ?r16_5_y⟩) hHeld ?r16_5_n
   case r16_5_y => intro w_ hS_; (try dsimp only at hS_); go_simp; try (with_reducible rfl)
   simp only [Act.put, List.setIfInBounds_toArray, List.set_cons_zero, List.set_cons_succ]
   refine wpAnyH_done (by kernel_rfl) ?_ _
   go_upto_region 31 with (first
    | (go_at_call 14; refine (F14.out (fun k_ => W5.heap.size ≤ k_ ∧ k_ < W6.heap.size) _ _ HB18.out XB.out).mono ?_; rintro e W19 ⟨rfl, hS, hB2, hK⟩; have HB19 := am2_ hB2; have HL19 := am2_ hK.1; replace XS := am2_ (XS.out.kept hK (.inl (Nat.le_refl _))); replace XM := am2_ (XM.out.kept hK (.inr HL7.out)); replace XR := am2_ (XR.out.kept hK (.inr (Nat.le_trans (Nat.le_trans HL7.out HL8.out) HL9.out))); replace bp := am2_ ((hK.2 _ (blk_lt bp.out) (fun h => absurd h.1 (Nat.not_le.2 (Nat.lt_of_lt_of_le bpLT.out (Nat.le_trans (Nat.le_trans (Nat.le_trans HL2.out HL3.out) HL4.out) HL5.out))))).trans bp.out); clear qbp_0 qbp_1; obtain ⟨qbp_0, qbp_1⟩ := lc2_ bp; replace bm := am2_ ((hK.2 _ (blk_lt bm.out) (fun h => absurd h.1 (Nat.not_le.2 (Nat.lt_of_lt_of_le bmLT.out (Nat.le_trans (Nat.le_trans HL3.out HL4.out) HL5.out))))).trans bm.out); clear qbm_0 qbm_1 qbm_2 qbm_3; obtain ⟨qbm_0, qbm_1, qbm_2, qbm_3⟩ := lc4_ bm; replace bs := am2_ ((hK.2 _ (blk_lt bs.out) (fun h => absurd h.1 (Nat.not_le.2 (Nat.lt_of_lt_of_le bsLT.out (Nat.le_refl _))))).trans bs.out); clear qbs_0 qbs_1; obtain ⟨qbs_0, qbs_1⟩ := lc2_ bs; replace bx := am2_ ((hK.2 _ (blk_lt bx.out) (fun h => absurd h.2 (Nat.not_lt.2 (Nat.le_refl _)))).trans bx.out); clear qbx_0 qbx_1; obtain ⟨qbx_0, qbx_1⟩ := lc2_ bx; replace bz := am2_ ((hK.2 _ (blk_lt bz.out) (fun h => absurd h.2 (Nat.not_lt.2 (Nat.le_trans HL7.out HL8.out)))).trans bz.out); clear qbz_0 qbz_1 qbz_2 qbz_3; obtain ⟨qbz_0, qbz_1, qbz_2, qbz_3⟩ := lc4_ bz; replace bg := am2_ ((hK.2 _ (blk_lt bg.out) (fun h => absurd h.2 (Nat.not_lt.2 (Nat.le_trans (Nat.le_trans (Nat.le_trans HL7.out HL8.out) HL9.out) HL10.out)))).trans bg.out); clear qbg_0 qbg_1; obtain ⟨qbg_0, qbg_1⟩ := lc2_ bg; clear F14 hS hB2 hK XB)
    | (go_at_call 27; refine (F15.out (fun k_ => W7.heap.size ≤ k_ ∧ k_ < W8.heap.size) _ _ HB19.out XM.out).mono ?_; rintro e W20 ⟨rfl, hS, hB2, hK⟩; have HB20 := am2_ hB2; have HL20 := am2_ hK.1; replace XS := am2_ (XS.out.kept hK (.inl (Nat.le_trans HL6.out HL7.out))); replace XR := am2_ (XR.out.kept hK (.inr HL9.out)); replace bp := am2_ ((hK.2 _ (blk_lt bp.out) (fun h => absurd h.1 (Nat.not_le.2 (Nat.lt_of_lt_of_le bpLT.out (Nat.le_trans (Nat.le_trans (Nat.le_trans (Nat.le_trans (Nat.le_trans HL2.out HL3.out) HL4.out) HL5.out) HL6.out) HL7.out))))).trans bp.out); clear qbp_0 qbp_1; obtain ⟨qbp_0, qbp_1⟩ := lc2_ bp; replace bm := am2_ ((hK.2 _ (blk_lt bm.out) (fun h => absurd h.1 (Nat.not_le.2 (Nat.lt_of_lt_of_le bmLT.out (Nat.le_trans (Nat.le_trans (Nat.le_trans (Nat.le_trans HL3.out HL4.out) HL5.out) HL6.out) HL7.out))))).trans bm.out); clear qbm_0 qbm_1 qbm_2 qbm_3; obtain ⟨qbm_0, qbm_1, qbm_2, qbm_3⟩ := lc4_ bm; replace bs := am2_ ((hK.2 _ (blk_lt bs.out) (fun h => absurd h.1 (Nat.not_le.2 (Nat.lt_of_lt_of_le bsLT.out (Nat.le_trans HL6.out HL7.out))))).trans bs.out); clear qbs_0 qbs_1; obtain ⟨qbs_0, qbs_1⟩ := lc2_ bs; replace bx := am2_ ((hK.2 _ (blk_lt bx.out) (fun h => absurd h.1 (Nat.not_le.2 (Nat.lt_of_lt_of_le bxLT.out (Nat.le_refl _))))).trans bx.out); clear qbx_0 qbx_1; obtain ⟨qbx_0, qbx_1⟩ := lc2_ bx; replace bz := am2_ ((hK.2 _ (blk_lt bz.out) (fun h => absurd h.2 (Nat.not_lt.2 (Nat.le_refl _)))).trans bz.out); clear qbz_0 qbz_1 qbz_2 qbz_3; obtain ⟨qbz_0, qbz_1, qbz_2, qbz_3⟩ := lc4_ bz; replace bg := am2_ ((hK.2 _ (blk_lt bg.out) (fun h => absurd h.2 (Nat.not_lt.2 (Nat.le_trans HL9.out HL10.out)))).trans bg.out); clear qbg_0 qbg_1; obtain ⟨qbg_0, qbg_1⟩ := lc2_ bg; clear F15 hS hB2 hK XM)
    | (go_at_call 13; refine (F16.out _ _ _ _ _ HB20.out XR.out.reads.2.2 XR.out.reads.2.1 XS.out.reads.2.2 XS.out.reads.2.1).mono ?_; rintro e W21 ⟨rfl, hb⟩; have HB21 := am2_ (below_then HB20.out (below_size HB20.out) hb); have HL21 := am2_ (below_size hb); replace XS := am2_ (XS.out.below hb); replace XR := am2_ (XR.out.below hb); replace bp := lw_ bp hb; clear qbp_0 qbp_1; obtain ⟨qbp_0, qbp_1⟩ := lc2_ bp; replace bm := lw_ bm hb; clear qbm_0 qbm_1 qbm_2 qbm_3; obtain ⟨qbm_0, qbm_1, qbm_2, qbm_3⟩ := lc4_ bm; replace bs := lw_ bs hb; clear qbs_0 qbs_1; obtain ⟨qbs_0, qbs_1⟩ := lc2_ bs; replace bx := lw_ bx hb; clear qbx_0 qbx_1; obtain ⟨qbx_0, qbx_1⟩ := lc2_ bx; replace bz := lw_ bz hb; clear qbz_0 qbz_1 qbz_2 qbz_3; obtain ⟨qbz_0, qbz_1, qbz_2, qbz_3⟩ := lc4_ bz; replace bg := lw_ bg hb; clear qbg_0 qbg_1; obtain ⟨qbg_0, qbg_1⟩ := lc2_ bg; clear F16  hb  )
    | (go_at_call 14; refine (F17.out (fun k_ => W9.heap.size ≤ k_ ∧ k_ < W10.heap.size) _ _ HB21.out XR.out).mono ?_; rintro e W22 ⟨rfl, hS, hB2, hK⟩; have HB22 := am2_ hB2; have HL22 := am2_ hK.1; replace XS := am2_ (XS.out.kept hK (.inl (Nat.le_trans (Nat.le_trans (Nat.le_trans HL6.out HL7.out) HL8.out) HL9.out))); replace bp := am2_ ((hK.2 _ (blk_lt bp.out) (fun h => absurd h.1 (Nat.not_le.2 (Nat.lt_of_lt_of_le bpLT.out (Nat.le_trans (Nat.le_trans (Nat.le_trans (Nat.le_trans (Nat.le_trans (Nat.le_trans (Nat.le_trans HL2.out HL3.out) HL4.out) HL5.out) HL6.out) HL7.out) HL8.out) HL9.out))))).trans bp.out); clear qbp_0 qbp_1; obtain ⟨qbp_0, qbp_1⟩ := lc2_ bp; replace bm := am2_ ((hK.2 _ (blk_lt bm.out) (fun h => absurd h.1 (Nat.not_le.2 (Nat.lt_of_lt_of_le bmLT.out (Nat.le_trans (Nat.le_trans (Nat.le_trans (Nat.le_trans (Nat.le_trans (Nat.le_trans HL3.out HL4.out) HL5.out) HL6.out) HL7.out) HL8.out) HL9.out))))).trans bm.out); clear qbm_0 qbm_1 qbm_2 qbm_3; obtain ⟨qbm_0, qbm_1, qbm_2, qbm_3⟩ := lc4_ bm; replace bs := am2_ ((hK.2 _ (blk_lt bs.out) (fun h => absurd h.1 (Nat.not_le.2 (Nat.lt_of_lt_of_le bsLT.out (Nat.le_trans (Nat.le_trans (Nat.le_trans HL6.out HL7.out) HL8.out) HL9.out))))).trans bs.out); clear qbs_0 qbs_1; obtain ⟨qbs_0, qbs_1⟩ := lc2_ bs; replace bx := am2_ ((hK.2 _ (blk_lt bx.out) (fun h => absurd h.1 (Nat.not_le.2 (Nat.lt_of_lt_of_le bxLT.out (Nat.le_trans HL8.out HL9.out))))).trans bx.out); clear qbx_0 qbx_1; obtain ⟨qbx_0, qbx_1⟩ := lc2_ bx; replace bz := am2_ ((hK.2 _ (blk_lt bz.out) (fun h => absurd h.1 (Nat.not_le.2 (Nat.lt_of_lt_of_le bzLT.out (Nat.le_refl _))))).trans bz.out); clear qbz_0 qbz_1 qbz_2 qbz_3; obtain ⟨qbz_0, qbz_1, qbz_2, qbz_3⟩ := lc4_ bz; replace bg := am2_ ((hK.2 _ (blk_lt bg.out) (fun h => absurd h.2 (Nat.not_lt.2 (Nat.le_refl _)))).trans bg.out); clear qbg_0 qbg_1; obtain ⟨qbg_0, qbg_1⟩ := lc2_ bg; have YXR := am2_ hS; clear F17 hS hB2 hK XR)
    | (go_at_call 21; refine (heldAtP YXR.out fun h2_ h3_ => F18.out _ _ _ HB22.out h2_ h3_).mono ?_; rintro e W23 ⟨rfl, hb⟩; have HB23 := am2_ (below_then HB22.out (below_size HB22.out) hb); have HL23 := am2_ (below_size hb); replace XS := am2_ (XS.out.below hb); replace YXR := am2_ (Kd.S_below YXR.out hb); replace bp := lw_ bp hb; clear qbp_0 qbp_1; obtain ⟨qbp_0, qbp_1⟩ := lc2_ bp; replace bm := lw_ bm hb; clear qbm_0 qbm_1 qbm_2 qbm_3; obtain ⟨qbm_0, qbm_1, qbm_2, qbm_3⟩ := lc4_ bm; replace bs := lw_ bs hb; clear qbs_0 qbs_1; obtain ⟨qbs_0, qbs_1⟩ := lc2_ bs; replace bx := lw_ bx hb; clear qbx_0 qbx_1; obtain ⟨qbx_0, qbx_1⟩ := lc2_ bx; replace bz := lw_ bz hb; clear qbz_0 qbz_1 qbz_2 qbz_3; obtain ⟨qbz_0, qbz_1, qbz_2, qbz_3⟩ := lc4_ bz; replace bg := lw_ bg hb; clear qbg_0 qbg_1; obtain ⟨qbg_0, qbg_1⟩ := lc2_ bg; clear F18  hb  ))
   have HU := am2_ (below_drew1 (Below.refl W23.heap.size W23))
   refine start_ (n := 11) (S := (fun w' => w'.cell? ⟨w.heap.size, 0, none⟩ = some (.int .i64 a0_0) ∧ w'.cell? ⟨w.heap.size, 1, none⟩ = some (.slice A1 l1.length c1) ∧ w'.cell? ⟨W1.heap.size, 0, none⟩ = some (.int .i64 a1_0) ∧ w'.cell? ⟨W1.heap.size, 1, none⟩ = some (.int .i64 a1_1) ∧ w'.cell? ⟨W1.heap.size, 2, none⟩ = some (.int .i64 a1_2) ∧ w'.cell? ⟨W1.heap.size, 3, none⟩ = some (.slice A2 l2.length c2))) (ds := []) (kA_ 11 0) (by kernel_rfl) rfl (by kernel_rfl) (hd6_ bp bm HU.out) (fun hHeld => ?_)
   generalize W23.drew = U at HU hHeld ⊢
   refine kt_ 0 95 (kA_ 11 1) hHeld ?_
   refine kt_ 2 97 (kA_ 11 5) hHeld ?_
   clear hHeld
   refine join_ (σ := (Value × Value) × (Value × Nat)) 2 (kA_ 11 511) (fun s_ => [(96, .agg #[.int .i64 p1, s_.1.1]), (98, .agg #[.int .i64 m1, .int .i64 m2, .int .i64 m3, s_.1.2]), (99, .tuple #[.agg #[.int .i64 r1, s_.2.1], .int .i64 r3]), (15, .pointer (some ⟨s_.2.2, 0, none⟩)), (94, .tuple #[.agg #[.int .i64 r1, s_.2.1], .int .i64 r3]), (100, .agg #[.int .i64 r1, s_.2.1]), (101, .int .i64 r3)]) (fun s_ w' => (∃ A c, s_.2.1 = .slice A r2.length c) ∧ Below W23.heap.size W23 w' ∧ (w'.heap[s_.2.2]? = some (.cells #[.int .i64 0, .slice none 0 0] 28 (0, 0)) ∧ W23.heap.size ≤ s_.2.2) ∧ ∃ lo hi, (W23.heap.size ≤ lo ∧ hi ≤ w'.heap.size ∧ (hi ≤ s_.2.2 ∨ s_.2.2 + 1 ≤ lo)) ∧ Seg w w' lo hi s_.2.1 r2) ?_ ?_
   rotate_left
   ·intro hCont
    refine two_ (i := 1) (j := 8) (Ni := some 96) (Nj := some 15) (kA_ 11 7) (kA_ 11 261) rfl rfl rfl rfl (by kernel_rfl) (by decide) (by decide) (fun K hK => ?_) (fun K hK => ?_)
    ·go_simp
     go_at_call 10
     refine (F19.out _ (below_step HB23.out HU.out)).mono ?_
     rintro e U1 ⟨u0, rfl, hS, hb⟩
     obtain ⟨A0_, c0_, eu⟩ := Kd.S_slice hS
     subst eu
     replace HU := am2_ (below_step HU.out hb)
     have HC0 := am2_ (And.intro (Kd.S_reads' hS).2.2 (Kd.S_reads' hS).2.1)
     refine hK.out _ _ (hd6_ bp bm HU.out) (fun _ => ?_)
     clear hK K hS hb
     clear F19
     refine two_ (i := 3) (j := 8) (Ni := some 98) (Nj := some 15) (kA_ 11 15) (kA_ 11 263) rfl rfl rfl rfl (by kernel_rfl) (by decide) (by decide) (fun K hK => ?_) (fun K hK => ?_)
     ·go_simp
      go_at_call 24
      refine (F20.out _ (below_step HB23.out HU.out)).mono ?_
      rintro e U2 ⟨u1, rfl, hS, hb⟩
      obtain ⟨A1_, c1_, eu⟩ := Kd.R_slice hS
      subst eu
      replace HU := am2_ (below_step HU.out hb)
      replace HC0 := am2_ (And.intro (Kd.C_below HC0.out.1 hb) HC0.out.2)
      have HC1 := am2_ (And.intro (Kd.R_reads' hS).2.2 (Kd.R_reads' hS).2.1)
      refine hK.out _ _ (hd6_ bp bm HU.out) (fun _ => ?_)
      clear hK K hS hb
      refine two_ (i := 4) (j := 8) (Ni := some 99) (Nj := some 15) (kA_ 11 31) (kA_ 11 271) rfl rfl rfl rfl (by kernel_rfl) (by decide) (by decide) (fun K hK => ?_) (fun K hK => ?_)
      ·have HUo := am2_ HU.out.size
       go_simp
       go_at_call 25
       refine (F21.out _ _ _ _ _ (below_step HB23.out HU.out) HC0.out.1 HC0.out.2 HC1.out.1 HC1.out.2).mono ?_
       rintro e U3 ⟨u2, rfl, hS, hb⟩
       obtain ⟨A2_, c2_, eu⟩ := Kd.S_slice hS
       subst eu
       replace HU := am2_ (below_step HU.out hb)
       replace HC0 := am2_ (And.intro (Kd.C_below HC0.out.1 hb) HC0.out.2)
       replace HC1 := am2_ (And.intro (Kd.C_below HC1.out.1 hb) HC1.out.2)
       have HX := am2_ (And.intro (Seg.new hS (Nat.le_trans (below_size HB23.out) HUo.out)) (And.intro HUo.out (Nat.le_refl U3.heap.size)))
       refine hK.out _ _ (hd6_ bp bm HU.out) (fun _ => ?_)
       clear hK K hS hb
       refine kz_ 5 94 (kA_ 11 63) ?_
       refine kz_ 6 100 (kA_ 11 127) ?_
       refine kz_ 7 101 (kA_ 11 255) ?_
       refine oa_ 8 15 (kA_ 11 511) (fun K hK => ?_)
       refine box_step ?hg (N := 15) ?hd (cs := #[.int .i64 0, .slice none 0 0]) (t := 28) ?hr ?_; (case hd => rfl); (case hg => rfl); (case hr => first | (go_simp; done) | (go_simp; rfl))
       intro b hg U4 hbox hb
       have HDJ := am2_ (show U3.heap.size ≤ b ∨ b + 1 ≤ U2.heap.size from Or.inl (by rw [hg]; exact Nat.le_refl _))
       have HUo2 := am2_ HU.out.size
       replace HU := am2_ (below_step HU.out hb)
       replace HC0 := am2_ (And.intro (Kd.C_below HC0.out.1 hb) HC0.out.2)
       replace HC1 := am2_ (And.intro (Kd.C_below HC1.out.1 hb) HC1.out.2)
       replace HX := am2_ (And.intro (Seg.below HX.out.1 hb) (And.intro HX.out.2.1 (Nat.le_trans HX.out.2.2 hb.size)))
       have HBK := am2_ (And.intro hbox (show W23.heap.size ≤ b by rw [hg]; exact HUo2.out))
       refine hK.out _ _ (hd6_ bp bm HU.out) (fun _ => ?_)
       clear hK K hbox hb hg HUo2
       refine kn_ 15 ?_
       exact norm_ (by simp only [putAll, Act.put, List.setIfInBounds_toArray, List.set_cons_zero, List.set_cons_succ]) (hCont ((.slice A0_ p2.length c0_, .slice A1_ m4.length c1_), .slice A2_ r2.length c2_, b) _ ⟨⟨_, _, rfl⟩, HU.out, HBK.out, _, _, ⟨HX.out.2.1, HX.out.2.2, HDJ.out⟩, HX.out.1⟩)
      ·refine box_step ?hg (N := 15) ?hd (cs := #[.int .i64 0, .slice none 0 0]) (t := 28) ?hr ?_; (case hd => rfl); (case hg => rfl); (case hr => first | (go_simp; done) | (go_simp; rfl))
       intro b hg U3 hbox hb
       have HUo2 := am2_ HU.out.size
       replace HU := am2_ (below_step HU.out hb)
       replace HC0 := am2_ (And.intro (Kd.C_below HC0.out.1 hb) HC0.out.2)
       replace HC1 := am2_ (And.intro (Kd.C_below HC1.out.1 hb) HC1.out.2)
       have HBK := am2_ (And.intro hbox (show W23.heap.size ≤ b by rw [hg]; exact HUo2.out))
       refine hK.out _ _ (hd6_ bp bm HU.out) (fun _ => ?_)
       clear hK K hbox hb hg HUo2
       refine kn_ 15 ?_
       refine oa_ 4 99 (kA_ 11 287) (fun K hK => ?_)
       have HBL := am2_ (blk_lt HBK.out.1)
       have HUo := am2_ HU.out.size
       go_simp
       go_at_call 25
       refine (F21.out _ _ _ _ _ (below_step HB23.out HU.out) HC0.out.1 HC0.out.2 HC1.out.1 HC1.out.2).mono ?_
       rintro e U4 ⟨u2, rfl, hS, hb⟩
       obtain ⟨A2_, c2_, eu⟩ := Kd.S_slice hS
       subst eu
       replace HU := am2_ (below_step HU.out hb)
       replace HC0 := am2_ (And.intro (Kd.C_below HC0.out.1 hb) HC0.out.2)
       replace HC1 := am2_ (And.intro (Kd.C_below HC1.out.1 hb) HC1.out.2)
       replace HBK := am2_ (And.intro (blk_below HBK.out.1 hb) HBK.out.2)
       have HX := am2_ (And.intro (Seg.new hS (Nat.le_trans (below_size HB23.out) HUo.out)) (And.intro HUo.out (Nat.le_refl U4.heap.size)))
       have HDJ := am2_ (Or.inr HBL.out : (U4.heap.size ≤ b ∨ b + 1 ≤ U3.heap.size))
       refine hK.out _ _ (hd6_ bp bm HU.out) (fun _ => ?_)
       clear hK K hS hb
       refine kz_ 5 94 (kA_ 11 319) ?_
       refine kz_ 6 100 (kA_ 11 383) ?_
       refine kz_ 7 101 (kA_ 11 511) ?_
       exact norm_ (by simp only [putAll, Act.put, List.setIfInBounds_toArray, List.set_cons_zero, List.set_cons_succ]) (hCont ((.slice A0_ p2.length c0_, .slice A1_ m4.length c1_), .slice A2_ r2.length c2_, b) _ ⟨⟨_, _, rfl⟩, HU.out, HBK.out, _, _, ⟨HX.out.2.1, HX.out.2.2, HDJ.out⟩, HX.out.1⟩)
     ·refine box_step ?hg (N := 15) ?hd (cs := #[.int .i64 0, .slice none 0 0]) (t := 28) ?hr ?_; (case hd => rfl); (case hg => rfl); (case hr => first | (go_simp; done) | (go_simp; rfl))
      intro b hg U2 hbox hb
      have HUo2 := am2_ HU.out.size
      replace HU := am2_ (below_step HU.out hb)
      replace HC0 := am2_ (And.intro (Kd.C_below HC0.out.1 hb) HC0.out.2)
      have HBK := am2_ (And.intro hbox (show W23.heap.size ≤ b by rw [hg]; exact HUo2.out))
      refine hK.out _ _ (hd6_ bp bm HU.out) (fun _ => ?_)
      clear hK K hbox hb hg HUo2
      refine kn_ 15 ?_
      refine oa_ 3 98 (kA_ 11 271) (fun K hK => ?_)
      go_simp
      go_at_call 24
      refine (F20.out _ (below_step HB23.out HU.out)).mono ?_
      rintro e U3 ⟨u1, rfl, hS, hb⟩
      obtain ⟨A1_, c1_, eu⟩ := Kd.R_slice hS
      subst eu
      replace HU := am2_ (below_step HU.out hb)
      replace HC0 := am2_ (And.intro (Kd.C_below HC0.out.1 hb) HC0.out.2)
      replace HBK := am2_ (And.intro (blk_below HBK.out.1 hb) HBK.out.2)
      have HC1 := am2_ (And.intro (Kd.R_reads' hS).2.2 (Kd.R_reads' hS).2.1)
      refine hK.out _ _ (hd6_ bp bm HU.out) (fun _ => ?_)
      clear hK K hS hb
      refine oa_ 4 99 (kA_ 11 287) (fun K hK => ?_)
      have HBL := am2_ (blk_lt HBK.out.1)
      have HUo := am2_ HU.out.size
      go_simp
      go_at_call 25
      refine (F21.out _ _ _ _ _ (below_step HB23.out HU.out) HC0.out.1 HC0.out.2 HC1.out.1 HC1.out.2).mono ?_
      rintro e U4 ⟨u2, rfl, hS, hb⟩
      obtain ⟨A2_, c2_, eu⟩ := Kd.S_slice hS
      subst eu
      replace HU := am2_ (below_step HU.out hb)
      replace HC0 := am2_ (And.intro (Kd.C_below HC0.out.1 hb) HC0.out.2)
      replace HC1 := am2_ (And.intro (Kd.C_below HC1.out.1 hb) HC1.out.2)
      replace HBK := am2_ (And.intro (blk_below HBK.out.1 hb) HBK.out.2)
      have HX := am2_ (And.intro (Seg.new hS (Nat.le_trans (below_size HB23.out) HUo.out)) (And.intro HUo.out (Nat.le_refl U4.heap.size)))
      have HDJ := am2_ (Or.inr HBL.out : (U4.heap.size ≤ b ∨ b + 1 ≤ U3.heap.size))
      refine hK.out _ _ (hd6_ bp bm HU.out) (fun _ => ?_)
      clear hK K hS hb
      refine kz_ 5 94 (kA_ 11 319) ?_
      refine kz_ 6 100 (kA_ 11 383) ?_
      refine kz_ 7 101 (kA_ 11 511) ?_
      exact norm_ (by simp only [putAll, Act.put, List.setIfInBounds_toArray, List.set_cons_zero, List.set_cons_succ]) (hCont ((.slice A0_ p2.length c0_, .slice A1_ m4.length c1_), .slice A2_ r2.length c2_, b) _ ⟨⟨_, _, rfl⟩, HU.out, HBK.out, _, _, ⟨HX.out.2.1, HX.out.2.2, HDJ.out⟩, HX.out.1⟩)
    ·refine box_step ?hg (N := 15) ?hd (cs := #[.int .i64 0, .slice none 0 0]) (t := 28) ?hr ?_; (case hd => rfl); (case hg => rfl); (case hr => first | (go_simp; done) | (go_simp; rfl))
     intro b hg U1 hbox hb
     have HUo2 := am2_ HU.out.size
     replace HU := am2_ (below_step HU.out hb)
     have HBK := am2_ (And.intro hbox (show W23.heap.size ≤ b by rw [hg]; exact HUo2.out))
     refine hK.out _ _ (hd6_ bp bm HU.out) (fun _ => ?_)
     clear hK K hbox hb hg HUo2
     refine kn_ 15 ?_
     refine oa_ 1 96 (kA_ 11 263) (fun K hK => ?_)
     go_simp
     go_at_call 10
     refine (F19.out _ (below_step HB23.out HU.out)).mono ?_
     rintro e U2 ⟨u0, rfl, hS, hb⟩
     obtain ⟨A0_, c0_, eu⟩ := Kd.S_slice hS
     subst eu
     replace HU := am2_ (below_step HU.out hb)
     replace HBK := am2_ (And.intro (blk_below HBK.out.1 hb) HBK.out.2)
     have HC0 := am2_ (And.intro (Kd.S_reads' hS).2.2 (Kd.S_reads' hS).2.1)
     refine hK.out _ _ (hd6_ bp bm HU.out) (fun _ => ?_)
     clear hK K hS hb
     clear F19
     refine oa_ 3 98 (kA_ 11 271) (fun K hK => ?_)
     go_simp
     go_at_call 24
     refine (F20.out _ (below_step HB23.out HU.out)).mono ?_
     rintro e U3 ⟨u1, rfl, hS, hb⟩
     obtain ⟨A1_, c1_, eu⟩ := Kd.R_slice hS
     subst eu
     replace HU := am2_ (below_step HU.out hb)
     replace HC0 := am2_ (And.intro (Kd.C_below HC0.out.1 hb) HC0.out.2)
     replace HBK := am2_ (And.intro (blk_below HBK.out.1 hb) HBK.out.2)
     have HC1 := am2_ (And.intro (Kd.R_reads' hS).2.2 (Kd.R_reads' hS).2.1)
     refine hK.out _ _ (hd6_ bp bm HU.out) (fun _ => ?_)
     clear hK K hS hb
     refine oa_ 4 99 (kA_ 11 287) (fun K hK => ?_)
     have HBL := am2_ (blk_lt HBK.out.1)
     have HUo := am2_ HU.out.size
     go_simp
     go_at_call 25
     refine (F21.out _ _ _ _ _ (below_step HB23.out HU.out) HC0.out.1 HC0.out.2 HC1.out.1 HC1.out.2).mono ?_
     rintro e U4 ⟨u2, rfl, hS, hb⟩
     obtain ⟨A2_, c2_, eu⟩ := Kd.S_slice hS
     subst eu
     replace HU := am2_ (below_step HU.out hb)
     replace HC0 := am2_ (And.intro (Kd.C_below HC0.out.1 hb) HC0.out.2)
     replace HC1 := am2_ (And.intro (Kd.C_below HC1.out.1 hb) HC1.out.2)
     replace HBK := am2_ (And.intro (blk_below HBK.out.1 hb) HBK.out.2)
     have HX := am2_ (And.intro (Seg.new hS (Nat.le_trans (below_size HB23.out) HUo.out)) (And.intro HUo.out (Nat.le_refl U4.heap.size)))
     have HDJ := am2_ (Or.inr HBL.out : (U4.heap.size ≤ b ∨ b + 1 ≤ U3.heap.size))
     refine hK.out _ _ (hd6_ bp bm HU.out) (fun _ => ?_)
     clear hK K hS hb
     refine kz_ 5 94 (kA_ 11 319) ?_
     refine kz_ 6 100 (kA_ 11 383) ?_
     refine kz_ 7 101 (kA_ 11 511) ?_
     exact norm_ (by simp only [putAll, Act.put, List.setIfInBounds_toArray, List.set_cons_zero, List.set_cons_succ]) (hCont ((.slice A0_ p2.length c0_, .slice A1_ m4.length c1_), .slice A2_ r2.length c2_, b) _ ⟨⟨_, _, rfl⟩, HU.out, HBK.out, _, _, ⟨HX.out.2.1, HX.out.2.2, HDJ.out⟩, HX.out.1⟩)
   rintro ⟨⟨u0, u1⟩, u, b24⟩ U9 ⟨⟨A24_0, d24_0, eu⟩, hU, hBK, lo, hi, hlh, hX⟩
   simp only at eu hU hBK hlh hX
   subst eu
   have HU9 := am2_ hU
   have HBK := am2_ hBK
   have HLH := am2_ hlh
   have HX := am2_ hX
   clear hU hBK hlh hX HU
   refine norm_ (a' := ?_) ?_ ?_
   rotate_left
   ·simp only [putAll, Act.put, List.setIfInBounds_toArray, List.set_cons_zero, List.set_cons_succ]
    rfl
   refine one_ (i := 9) (N := none) (kA_ 11 1023) rfl rfl (by kernel_rfl) (by decide) (fun K hK => ?_)
   have y0 : U9.cell? ⟨b24, 0, none⟩ = some (.int .i64 0) := (blk_cell HBK.out.1 0).trans rfl
   have y1 : U9.cell? ⟨b24, 1, none⟩ = some (.slice none 0 0) := (blk_cell HBK.out.1 1).trans rfl
   have y2 := blk_frozen HBK.out.1 0
   have y3 := blk_frozen HBK.out.1 1
   refine skip_ (w1 := ?_) (by rfl) rfl ?_ ?_
   rotate_left
   ·go_simp
    rfl
   have HU := am2_ (below_set (below_set HU9.out HBK.out.2) HBK.out.2 : Below W23.heap.size W23 ((U9.setCell ⟨b24, 0, none⟩ (.int .i64 r1)).setCell ⟨b24, 1, none⟩ (.slice A24_0 r2.length d24_0)))
   have HKP := am2_ (show Kept U9 ((U9.setCell ⟨b24, 0, none⟩ (.int .i64 r1)).setCell ⟨b24, 1, none⟩ (.slice A24_0 r2.length d24_0)) (fun k_ => b24 ≤ k_ ∧ k_ < b24 + 1) from ⟨by simp [World.setCell], fun i_ _ hn_ => (Below.heap_setCell _ ⟨b24, 1, none⟩ _ i_ (fun he_ => hn_ ⟨Nat.le_of_eq he_.symm, by show i_ < b24 + 1; rw [he_]; exact Nat.lt_succ_self _⟩)).trans (Below.heap_setCell _ ⟨b24, 0, none⟩ _ i_ (fun he_ => hn_ ⟨Nat.le_of_eq he_.symm, by show i_ < b24 + 1; rw [he_]; exact Nat.lt_succ_self _⟩))⟩)
   have HX2 := am2_ (Seg.kept HX.out HKP.out HLH.out.2.2)
   have HNB := am2_ (show (((U9.setCell ⟨b24, 0, none⟩ (.int .i64 r1)).setCell ⟨b24, 1, none⟩ (.slice A24_0 r2.length d24_0))).heap[b24]? = some (.cells #[.int .i64 r1, .slice A24_0 r2.length d24_0] 28 (0, 0)) from blk_put (blk_put HBK.out.1 0 _ rfl) 1 _ rfl)
   have HSZ := am2_ HKP.out.1
   refine hK.out _ _ (hd6_ bp bm HU.out) (fun _ => ?_)
   clear hK K y0 y1 y2 y3 HKP HX HBK
   refine kz_ 10 16 (kA_ 11 2047) ?_
   refine done_ (by kernel_rfl) ?_
   generalize ((U9.setCell ⟨b24, 0, none⟩ (.int .i64 r1)).setCell ⟨b24, 1, none⟩ (.slice A24_0 r2.length d24_0)) = W24 at HU HX2 HNB HSZ ⊢
   have hb := HU.out
   have bhLT := am2_ (blk_lt HNB.out)
   have HB24 := am2_ (below_then HB23.out (below_size HB23.out) hb)
   have HL24 := am2_ (below_size hb)
   replace XS := am2_ (XS.out.below hb)
   replace YXR := am2_ (Kd.S_below YXR.out hb)
   replace bp := lw_ bp hb
   clear qbp_0 qbp_1
   obtain ⟨qbp_0, qbp_1⟩ := lc2_ bp
   replace bm := lw_ bm hb
   clear qbm_0 qbm_1 qbm_2 qbm_3
   obtain ⟨qbm_0, qbm_1, qbm_2, qbm_3⟩ := lc4_ bm
   replace bs := lw_ bs hb
   clear qbs_0 qbs_1
   obtain ⟨qbs_0, qbs_1⟩ := lc2_ bs
   replace bx := lw_ bx hb
   clear qbx_0 qbx_1
   obtain ⟨qbx_0, qbx_1⟩ := lc2_ bx
   replace bz := lw_ bz hb
   clear qbz_0 qbz_1 qbz_2 qbz_3
   obtain ⟨qbz_0, qbz_1, qbz_2, qbz_3⟩ := lc4_ bz
   replace bg := lw_ bg hb
   clear qbg_0 qbg_1
   obtain ⟨qbg_0, qbg_1⟩ := lc2_ bg
   have XG := am2_ (show Seg w W24 W23.heap.size W24.heap.size (.slice A24_0 r2.length d24_0) r2 from Kd.S_mono HX2.out fun k_ hk_ => ⟨Nat.le_trans HLH.out.1 hk_.1, Nat.lt_of_lt_of_le hk_.2 (Nat.le_trans HLH.out.2.1 HSZ.out)⟩)
   have bh := HNB
   obtain ⟨qbh_0, qbh_1⟩ := lc2_ bh
   clear hb HU HX2 HNB HLH HSZ HU9 lo hi F20 F21
   go_wp2_with (first
    | (go_at_call 13; refine (F22.out _ _ _ _ _ HB24.out XG.out.reads.2.2 XG.out.reads.2.1 XS.out.reads.2.2 XS.out.reads.2.1).mono ?_; rintro e W25 ⟨rfl, hb⟩; have HB25 := am2_ (below_then HB24.out (below_size HB24.out) hb); have HL25 := am2_ (below_size hb); replace YXR := am2_ (Kd.S_below YXR.out hb); replace bp := lw_ bp hb; clear qbp_0 qbp_1; obtain ⟨qbp_0, qbp_1⟩ := lc2_ bp; replace bm := lw_ bm hb; clear qbm_0 qbm_1 qbm_2 qbm_3; obtain ⟨qbm_0, qbm_1, qbm_2, qbm_3⟩ := lc4_ bm; replace bs := lw_ bs hb; clear qbs_0 qbs_1; obtain ⟨qbs_0, qbs_1⟩ := lc2_ bs; replace bx := lw_ bx hb; clear qbx_0 qbx_1; obtain ⟨qbx_0, qbx_1⟩ := lc2_ bx; replace bz := lw_ bz hb; clear qbz_0 qbz_1 qbz_2 qbz_3; obtain ⟨qbz_0, qbz_1, qbz_2, qbz_3⟩ := lc4_ bz; replace bg := lw_ bg hb; clear qbg_0 qbg_1; obtain ⟨qbg_0, qbg_1⟩ := lc2_ bg; replace bh := lw_ bh hb; clear qbh_0 qbh_1; obtain ⟨qbh_0, qbh_1⟩ := lc2_ bh; clear F22  hb  XG XS)
    | (go_at_call 21; refine (heldAtP YXR.out fun h2_ h3_ => F23.out _ _ _ HB25.out h2_ h3_).mono ?_; rintro e W26 ⟨rfl, hb⟩; have HB26 := am2_ (below_then HB25.out (below_size HB25.out) hb); have HL26 := am2_ (below_size hb); replace bp := lw_ bp hb; clear qbp_0 qbp_1; obtain ⟨qbp_0, qbp_1⟩ := lc2_ bp; replace bm := lw_ bm hb; clear qbm_0 qbm_1 qbm_2 qbm_3; obtain ⟨qbm_0, qbm_1, qbm_2, qbm_3⟩ := lc4_ bm; replace bs := lw_ bs hb; clear qbs_0 qbs_1; obtain ⟨qbs_0, qbs_1⟩ := lc2_ bs; replace bx := lw_ bx hb; clear qbx_0 qbx_1; obtain ⟨qbx_0, qbx_1⟩ := lc2_ bx; replace bz := lw_ bz hb; clear qbz_0 qbz_1 qbz_2 qbz_3; obtain ⟨qbz_0, qbz_1, qbz_2, qbz_3⟩ := lc4_ bz; replace bg := lw_ bg hb; clear qbg_0 qbg_1; obtain ⟨qbg_0, qbg_1⟩ := lc2_ bg; replace bh := lw_ bh hb; clear qbh_0 qbh_1; obtain ⟨qbh_0, qbh_1⟩ := lc2_ bh; clear F23  hb  YXR))
   go_ret
   exact ⟨rfl, HB26.out⟩

end Go.Proofs.Ytbcdngjajjgmkaa.PFnExactApplyTietze
