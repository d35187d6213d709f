/- Written by this session's program out of the kit's print and this session's contracts. -/
import Derived.Test.YtpkocglndlmhkaaPFnExactAddLaurentx0
import Derived.Test.YtpkocglndlmhkaaPFnExactAddLaurentx4
namespace Go.Proofs.Ytpkocglndlmhkaa.PFnExactAddLaurent
open Go.RowKit Go.Proofs.YtpkocglndlmhkaaW.PrintWords Go.Proofs.YtpkocglndlmhkaaW.PrintLast Go.Proofs.YtpkocglndlmhkaaW.PrintMore
attribute [local go_sem] max2_int min2_int max_two min_two max_three min_three max_four min_four   -- for this text's walks alone
set_option linter.unusedVariables false
set_option linter.unusedSimpArgs false

/-! ### anyLaurentsBad: function 32 -/
def lauQ (x : S26) : Option Bool := (impl_isLaurent.f x.f0 x.f1).bind fun b => some (!b)
set_option maxHeartbeats 8000000 in
set_option maxRecDepth 100000 in
theorem areLaurents_lit (A : Option Addr) (c : Nat) (x : S26) (b : Bool) (w : World) (hr : Kd.C (Kd.int .i64) w A x.f1.length x.f1) (hl : x.f1.length ≤ c)
    (h : lauQ x = some b) :
    Calls Try.prog 33 #[.agg #[.int .i64 x.f0, .slice A x.f1.length c]] w fun e w' => e = .returned (.bool b) ∧ Below w.heap.size w w' := by
  obtain ⟨b1, h1, h2⟩ := Option.bind_eq_some_iff.mp h
  obtain rfl : (!b1) = b := Option.some.inj h2
  obtain ⟨y0, y1⟩ := x
  have HC := Aside0.mk (fun (W : World) (hw : Below w.heap.size w W) => impl_isLaurent.calls y0 A c y1 b1 W (Kd.C_below hr hw) hl h1)
  clear h h1 h2 hr hl
  go_enter Try.func33, Try.ntmps33
  go_wp2_with (go_at_call 34; refine (HC.out _ (by repeat (first | exact Below.refl _ _ | apply pw_below_drewN | apply below_alloc))).mono ?_; rintro e w' ⟨rfl, hb'⟩)
  go_ret
  exact ⟨rfl, below_then (by repeat (first | exact Below.refl _ _ | apply pw_below_drewN | apply below_alloc)) (by simp) hb'⟩
def anyLaurentsBad.f (l0 : List S26) : Option Bool := anyL lauQ l0
theorem anyLaurentsBad.calls (A0 : Option Addr) (c0 : Nat) (l0 : List S26) (r : Bool) (w : World) (hr0 : Kd.C k26 w A0 l0.length l0) (hc0 : l0.length ≤ c0) (h : anyLaurentsBad.f l0 = some r) :
    Calls Try.prog 32 #[.slice A0 l0.length c0, .func (.func 33) #[] #[]] w fun e w' => e = .returned (.bool r) ∧ Below w.heap.size w w' :=
  containsLaus 33 #[] (Go.Proofs.enters_of Try.func33 (by kernel_rfl) rfl) lauQ A0 c0 l0 r w hr0 (fun W A c x b _ _ hrx hlx hq => areLaurents_lit A c x b W hrx hlx hq) h

/-! ### impl_areLaurents: function 19 -/
def impl_areLaurents.f (l0 : List (S26)) : Option (Bool) := (anyLaurentsBad.f l0).bind fun t185 => (some (!t185))
set_option maxHeartbeats 8000000 in
set_option maxRecDepth 100000 in
theorem impl_areLaurents.calls (A0 : Option Addr) (c0 : Nat) (l0 : List (S26)) (r : Bool) (w : World) (hr0 : Kd.C k26 w A0 l0.length l0) (hc0 : l0.length ≤ c0) (h : impl_areLaurents.f l0 = some r) :
    Calls Try.prog 19 #[.slice A0 l0.length c0] w fun e w' => e = .returned (.bool r) ∧ Below w.heap.size w w' := by
  have HR0 := Aside0.mk hr0
  have HC0 := Aside0.mk hc0
  clear hr0 hc0
  have HB := Aside0.mk (Below.refl w.heap.size w)
  have H : ((anyLaurentsBad.f l0).bind fun t185 => (some (!t185))) = some r := h
  clear h
  replace H := Option.bind_eq_some_iff.mp H
  obtain ⟨t185, A20, H⟩ := H
  replace H : (some (!t185)) = some r := H
  have A2 := Aside0.mk A20
  clear A20
  obtain rfl := Option.some.inj H
  go_enter Try.func19, Try.ntmps19
  go_wp2_with (first | ((with_reducible refine gate_callee (f := 32) rfl ?_); refine goesL_ (some 4) rfl rfl Try.func32 (by kernel_rfl) rfl #[.slice A0 l0.length c0, .func (.func 33) #[] #[]] rfl (by (try simp only [List.map_toArray, List.map_cons, List.map_nil]); first | done | rfl | (simp only [List.length_drop, List.length_take]; rfl)) ?_; (with_reducible refine (anyLaurentsBad.calls _ _ l0 t185 _ ?side1 ?side2 A2.out).mono ?_); (case side1 => repeat (first | exact HR0.out | (with_reducible refine Kd.C_alloc ?_ _) | (with_reducible refine Kd.C_drewN ?_ _) | (with_reducible refine Kd.C_drew ?_))); (case side2 => exact HC0.out); rintro e w3 ⟨rfl, hb⟩; refine ⟨_, rfl, ?_⟩; have n0_ := Aside0.mk (below_step (by repeat (first | (with_reducible first | exact HB.out | apply below_alloc | apply pw_below_drewN | apply below_drew1) | exact HB.out)) hb); clear HB; have HB := n0_; clear n0_; (try clear hb); (try clear hb2); (try clear hk); (try clear hi)))
  go_ret
  exact ⟨by first | rfl | (simp [errW_none, errW_some] <;> rfl) | (simp [*, errW_none, errW_some] <;> rfl), by repeat (first | (with_reducible first | exact HB.out | apply below_alloc | apply pw_below_drewN | apply below_drew1) | exact HB.out)⟩

/-! ### slices_Clone_int64_int64: function 43 -/
def slices_Clone_int64_int64.f (l0 : List Int) : Option (List Int) := if l0.length < 17592186044416 then some l0 else none
set_option maxHeartbeats 8000000 in
set_option maxRecDepth 100000 in
theorem slices_Clone_int64_int64.calls (A0 : Option Addr) (c0 : Nat) (l0 : List Int) (r : List Int) (w : World) (hr0 : Kd.C (Kd.int .i64) w A0 l0.length l0) (hc0 : l0.length ≤ c0) (h : slices_Clone_int64_int64.f l0 = some r) :
    Calls Try.prog 43 #[.slice A0 l0.length c0] w fun e w' => ∃ v0_ : Value, e = .returned (v0_) ∧ Kd.R (Kd.int .i64) 2 w' w.heap.size (fun _ => True) v0_ r ∧ Below w.heap.size w w' := by
  unfold slices_Clone_int64_int64.f at h
  by_cases hL : l0.length < 17592186044416
  · rw [if_pos hL] at h
    obtain rfl : l0 = r := Option.some.inj h
    have LM := Aside0.mk hL
    have HR0 := Aside0.mk hr0
    have HB := Aside0.mk (Below.refl w.heap.size w)
    clear h hL hr0 hc0
    cases A0 with
    | none =>
      have e0 : l0 = [] := by
        cases l0 with
        | nil => rfl
        | cons x t =>
          obtain ⟨ad, e, _⟩ := HR0.out.2.2 (by simp)
          cases e
      subst e0
      clear HR0 LM
      have he := fun W => Lib.run_eql_slice_nil_nil (P := Try.prog) W (t := 22) (e := 2) 0 c0 Try.underlying22
      go_enter Try.func43, Try.ntmps43
      go_wp2
      go_ret
      exact ⟨_, rfl, Kd.R_nil _ _ _ _ _, Below.refl _ _⟩
    | some ad =>
      have y1 : ∃ y_ : List Int, y_ = (([] : List Int)) := ⟨_, rfl⟩
      obtain ⟨y1, hy1⟩ := y1
      have Ny1 := Aside0.mk hy1
      clear hy1
      have he := fun W => Go.Lib.run_eql_slice_nil (P := Try.prog) W 22 2 (some ad) l0.length c0 0 0 Try.underlying22
      go_enter Try.func43, Try.ntmps43
      go_wp2_with (first
        | ((with_reducible refine gate_dst (N := 5) rfl ?_); refine Kd.R_lit (Kd.int .i64) _ 2 ?hg (N := 5) ?hd (xs := ([] : List Int)) (inner := []) (ok := fun _ => True) (okp := fun _ => True) ?hr ?hp (fun _ hk => hk) trivial (Below.refl _ _) (Nat.le_refl _) (by simp) ?_; (case hd => rfl); (case hg => rfl); (case hr => first | (go_simp; done) | (go_simp; rfl)); (case hp => exact (Reps.none _ _)); intro v1 w3 ho4 hb hg_ hnew_; clear hg_ hnew_; rw [← Ny1.out] at ho4; have HO1 := Aside0.mk ho4; have HB2 := Aside0.mk hb; clear HB; have HB := HB2; clear HB2 hb ho4)
        | ((with_reducible refine gate_builtin (b := .append) (xs := #[.tmp 5, .tmp 6]) rfl ?_); at_builtin; refine Kd.R_append_rows (Kd.int .i64) (w0 := w) w.heap.size rfl (.tmp 5) (.tmp 6) 22 2 (.int .i64 0) 8 rfl Try.underlying22 info2 rfl (by decide) (by omega) v1 y1 l0 _ _ _ (fun _ => True) (fun _ => False) rfl rfl ?aO ?aR (fun _ _ h => h) (fun _ h => h.elim) ?aF ?aB ?aS ?aL ?_; (case aR => exact (Kd.C_below HR0.out HB.out)); (case aB => exact HB.out); (case aF => exact (fun _ _ => trivial)); (case aO => exact HO1.out); (case aS => exact (below_size HB.out)); (case aL => (have h1_ := LM.out; have h2_ : y1.length = 0 := (by rw [Ny1.out]; rfl); omega)); intro v2 w4 ho hb hg hat; rw [show y1 ++ l0 = l0 from by rw [Ny1.out]; rfl] at ho; have HO2 := Aside0.mk ho; have HB2 := Aside0.mk hb; clear HB HO1; have HB := HB2; clear HB2 ho hb hg hat))
      go_ret
      exact ⟨_, rfl, HO2.out, HB.out⟩
  · rw [if_neg hL] at h
    exact absurd h (by simp)

/-! ### impl_normal: function 36 -/
mutual
def impl_normal.j1 : Nat → Int → List Int → Option (Int × List Int)
 | 0, _, _ => none
 | k + 1, x187000, x187001 => impl_normal.l1 k x187000 x187001
def impl_normal.l1 : Nat → Int → List Int → Option (Int × List Int)
 | 0, _, _ => none
 | k + 1, x187000, x187001 => if (x187001.length : Int) > 0 then (if 0 ≤ (wrap64 ((x187001.length : Int) - 1)) then (if (wrap64 ((x187001.length : Int) - 1)) < (x187001.length : Int) then (if (rd x187001 (wrap64 ((x187001.length : Int) - 1))) = 0 then (if (wrap64 ((x187001.length : Int) - 1)) ≤ (x187001.length : Int) then (impl_normal.l1 k x187000 (x187001.take ((wrap64 ((x187001.length : Int) - 1)) : Int).toNat)) else (none)) else (if (x187001.length : Int) = 0 then (some (0, ([] : List Int))) else ((slices_Clone_int64_int64.f x187001).bind fun t200 => (some (x187000, t200))))) else (none)) else (none)) else (if (x187001.length : Int) = 0 then (some (0, ([] : List Int))) else ((slices_Clone_int64_int64.f x187001).bind fun t203 => (some (x187000, t203))))
def impl_normal.l0 : Nat → Int → List Int → Option (Int × List Int)
 | 0, _, _ => none
 | k + 1, x187000, x187001 => if (x187001.length : Int) > 0 then (if 0 < (x187001.length : Int) then (if (rd x187001 0) = 0 then (if 1 ≤ (x187001.length : Int) then (impl_normal.l0 k (wrap64 (x187000 + 1)) (x187001.drop 1)) else (none)) else (impl_normal.j1 k x187000 x187001)) else (none)) else (impl_normal.j1 k x187000 x187001)
end
def impl_normal.f (k : Nat) (a0_0 : Int) (l0_1 : List Int) : Option (Int × List Int) := impl_normal.l0 k a0_0 l0_1
theorem impl_normal.mono_l : ∀ k, (∀ y0 y1, LeO (impl_normal.j1 k y0 y1) (impl_normal.j1 (k + 1) y0 y1)) ∧ (∀ y0 y1, LeO (impl_normal.l1 k y0 y1) (impl_normal.l1 (k + 1) y0 y1)) ∧ (∀ y0 y1, LeO (impl_normal.l0 k y0 y1) (impl_normal.l0 (k + 1) y0 y1))
 | 0 => ⟨fun _ _ r h => by simp [impl_normal.j1] at h, fun _ _ r h => by simp [impl_normal.l1] at h, fun _ _ r h => by simp [impl_normal.l0] at h⟩
 | k + 1 => by
  obtain ⟨ih0, ih1, ih2⟩ := impl_normal.mono_l k
  refine ⟨?_, ?_, ?_⟩
  ·intro y0 y1
   unfold impl_normal.j1
   repeat' first
   | (with_reducible exact ih0 _ _)
   | (with_reducible exact ih1 _ _)
   | (with_reducible exact ih2 _ _)
   | (with_reducible exact LeO.refl _)
   | (with_reducible exact LeO.none _)
   | (with_reducible refine LeO.ite ?_ ?_)
   | (with_reducible refine LeO.bind ?_ (fun _ => ?_))
   | exact ih0 _ _
   | exact ih1 _ _
   | exact ih2 _ _
   | exact LeO.none _
   | refine LeO.ite ?_ ?_
   | refine LeO.bind ?_ (fun _ => ?_)
  ·intro y0 y1
   unfold impl_normal.l1
   repeat' first
   | (with_reducible exact ih0 _ _)
   | (with_reducible exact ih1 _ _)
   | (with_reducible exact ih2 _ _)
   | (with_reducible exact LeO.refl _)
   | (with_reducible exact LeO.none _)
   | (with_reducible refine LeO.ite ?_ ?_)
   | (with_reducible refine LeO.bind ?_ (fun _ => ?_))
   | exact ih0 _ _
   | exact ih1 _ _
   | exact ih2 _ _
   | exact LeO.none _
   | refine LeO.ite ?_ ?_
   | refine LeO.bind ?_ (fun _ => ?_)
  ·intro y0 y1
   unfold impl_normal.l0
   repeat' first
   | (with_reducible exact ih0 _ _)
   | (with_reducible exact ih1 _ _)
   | (with_reducible exact ih2 _ _)
   | (with_reducible exact LeO.refl _)
   | (with_reducible exact LeO.none _)
   | (with_reducible refine LeO.ite ?_ ?_)
   | (with_reducible refine LeO.bind ?_ (fun _ => ?_))
   | exact ih0 _ _
   | exact ih1 _ _
   | exact ih2 _ _
   | exact LeO.none _
   | refine LeO.ite ?_ ?_
   | refine LeO.bind ?_ (fun _ => ?_)
theorem impl_normal.mono : ∀ a0 a1 k, LeO (impl_normal.f k a0 a1) (impl_normal.f (k + 1) a0 a1) := by
 intro a0 a1 k
 obtain ⟨ih0, ih1, ih2⟩ := impl_normal.mono_l k
 unfold impl_normal.f
 repeat' first
   | (with_reducible exact ih0 _ _)
   | (with_reducible exact ih1 _ _)
   | (with_reducible exact ih2 _ _)
   | (with_reducible exact LeO.refl _)
   | (with_reducible exact LeO.none _)
   | (with_reducible refine LeO.ite ?_ ?_)
   | (with_reducible refine LeO.bind ?_ (fun _ => ?_))
   | exact ih0 _ _
   | exact ih1 _ _
   | exact ih2 _ _
   | exact LeO.none _
   | refine LeO.ite ?_ ?_
   | refine LeO.bind ?_ (fun _ => ?_)
set_option maxHeartbeats 8000000 in
set_option maxRecDepth 100000 in
theorem impl_normal.calls (k : Nat) (a0_0 : Int) (P0_1_ : Nat → Prop) (A0_1 : Option Addr) (c0_1 : Nat) (l0_1 : List Int) (r1 : Int) (r2 : List Int) (w : World) (hs0_1 : Kd.V (Kd.int .i64) 2 w w.heap.size (fun k_ => P0_1_ k_) (.slice A0_1 l0_1.length c0_1) l0_1) (h : impl_normal.f k a0_0 l0_1 = some (r1, r2)) :
  Calls Try.prog 36 #[.agg #[.int .i64 a0_0, .slice A0_1 l0_1.length c0_1]] w fun e w' => ∃ v1_ : Value, e = .returned (.agg #[.int .i64 r1, v1_]) ∧ Kd.R (Kd.int .i64) 2 w' w.heap.size (fun k_ => (w.heap.size ≤ k_)) v1_ r2 ∧ Below w.heap.size w w' := by
 have hu26 := Try.underlying26
 have HO0_1 := am_ (show Kd.V (Kd.int .i64) 2 w w.heap.size (fun k_ => (P0_1_ k_ ∨ w.heap.size ≤ k_)) (.slice A0_1 l0_1.length c0_1) l0_1 from Kd.V_mono hs0_1 (fun k_ hk => .inl hk))
 have HB := am_ (Below.refl w.heap.size w)
 have H : (impl_normal.l0 k a0_0 l0_1) = some (r1, r2) := h
 clear h
 have HC2 := am_ H
 clear H
 go_enter Try.func36, Try.ntmps36
 go_upto_block 0 with (first | ((with_reducible refine gate_dst (N := 1) rfl ?_); (try (refine gate_guard (by rfl) ?_; dsimp only)); refine box_event ?hg (N := 1) ?hd (cs := #[.int .i64 a0_0, .slice A0_1 l0_1.length c0_1]) (t := 26) ?hr ?_; (case hd => rfl); (case hg => rfl); (case hr => first | (go_simp; done) | (go_simp; rfl)); intro gb186 hg w3 hbox hb; have n0_ := am_ (Kd.V_below (Kd.V_elderB (by (with_reducible repeat (first | apply Kd.V_alloc | apply Kd.V_drewN | apply Kd.V_drew)); exact HO0_1.out) gb186 (Nat.le_of_eq hg.symm)) hb); have n1_ := am_ (below_step (bb_ HB.out) hb); have n2_ := am_ (hbox); have n3_ := am_ ((by rw [hg]; exact (below_size (bb_ HB.out)) : w.heap.size ≤ gb186)); have n4_ := am_ ((by rw [hg]; exact (below_size (bb_ HB.out)) : w.heap.size ≤ gb186)); clear HO0_1 HB; revert n0_ n1_ n2_ n3_ n4_; intro HO0_1 HB BK186 GW186 GE186; clear hb hbox hg) | ((with_reducible refine gate_dst (N := 2) rfl ?_); (try (refine gate_guard (by rfl) ?_; dsimp only)); refine box_event ?hg (N := 2) ?hd (cs := #[.int .i64 0, .slice none 0 0]) (t := 26) ?hr ?_; (case hd => rfl); (case hg => rfl); (case hr => first | (go_simp; done) | (go_simp; rfl)); intro gb187 hg w4 hbox hb; have n0_ := am_ (Kd.V_below (Kd.V_elderB (by (with_reducible repeat (first | apply Kd.V_alloc | apply Kd.V_drewN | apply Kd.V_drew)); exact HO0_1.out) gb187 (Nat.le_of_eq hg.symm)) hb); have n1_ := am_ (bw_ BK186 hb); have n2_ := am_ (below_step (bb_ HB.out) hb); have n3_ := am_ (hbox); have n4_ := am_ ((by rw [hg]; exact (below_size (bb_ HB.out)) : w.heap.size ≤ gb187)); have n5_ := am_ ((by rw [hg]; exact (below_size (bb_ HB.out)) : w.heap.size ≤ gb187)); have n6_ := am_ (nl_ BK186 hg); have n7_ := am_ (ng_ BK186 hg); clear HO0_1 BK186 HB; revert n0_ n1_ n2_ n3_ n4_ n5_ n6_ n7_; intro HO0_1 BK186 HB BK187 GW187 GE187 NB186_187 NB187_186; clear hb hbox hg))
 (try simp only [Act.put, List.setIfInBounds_toArray, List.set_cons_zero, List.set_cons_succ])
 go_cut [] (fun wc => ∃ (kq : Nat) (x187000_1 : Int) (x187001_1 : List Int) (u187001 : Value), Aside0 (impl_normal.j1 kq x187000_1 x187001_1 = some (r1, r2)) ∧ Aside0 (kq ≤ k) ∧ Aside0 (Kd.V (Kd.int .i64) 2 wc w.heap.size (fun k_ => (P0_1_ k_ ∨ w.heap.size ≤ k_) ∧ k_ ≠ gb186 ∧ k_ ≠ gb187) u187001 x187001_1) ∧ Aside0 (wc.heap[gb186]? = some (.cells #[.int .i64 x187000_1, u187001] 26 (0, 0))) ∧ Aside0 (wc.heap[gb187]? = some (.cells #[.int .i64 0, (.slice none 0 0)] 26 (0, 0))) ∧ Aside0 (Below w.heap.size w wc))
 case first =>
  have H := HC2.out
  clear HC2
  have H' := am_ H
  clear H
  go_wp2
  go_loopg [] k (fun kq w' => ∃ (x187000_1 : Int) (x187001_1 : List Int) (u187001 : Value), Aside0 (impl_normal.l0 kq x187000_1 x187001_1 = some (r1, r2)) ∧ Aside0 (kq ≤ k) ∧ Aside0 (Kd.V (Kd.int .i64) 2 w' w.heap.size (fun k_ => (P0_1_ k_ ∨ w.heap.size ≤ k_) ∧ k_ ≠ gb186 ∧ k_ ≠ gb187) u187001 x187001_1) ∧ Aside0 (w'.heap[gb186]? = some (.cells #[.int .i64 x187000_1, u187001] 26 (0, 0))) ∧ Aside0 (w'.heap[gb187]? = some (.cells #[.int .i64 0, (.slice none 0 0)] 26 (0, 0))) ∧ Aside0 (Below w.heap.size w w'))
  case atStart => exact ⟨(a0_0), (l0_1), (.slice A0_1 l0_1.length c0_1), H', ⟨Nat.le_refl _⟩, ⟨by (with_reducible repeat (first | apply Kd.V_alloc | apply Kd.V_drewN | apply Kd.V_drew)); exact Kd.V_mono HO0_1.out (fun _ hk => ⟨hk.1.1, ⟨hk.1.2, hk.2⟩⟩)⟩, ⟨bk_ BK186.out⟩, ⟨bk_ BK187.out⟩, ⟨bb_ HB.out⟩⟩
  case round =>
   clear H'
   try clear p2
   try clear c3
   obtain ⟨x187000_1, x187001_1, u187001, HA, HK1, HO_187001, BK186, BK187, HB⟩ := hrel
   cases gk with
   | zero => exact absurd HA.out (by simp [impl_normal.l0])
   | succ k1 =>
    have H := HA.out
    clear HA
    simp only [impl_normal.l0] at H
    by_cases c5 : (x187001_1.length : Int) > 0
    ·rw [if_pos c5] at H
     have c5b0 : decide (0 < (x187001_1.length : Int)) = true := decide_eq_true c5
     have c5b1 : decide (0 < x187001_1.length) = true := decide_eq_true (by omega)
     clear c5
     (first | rw [c5b0] | (simp only [i64_w, i32_w]; rw [c5b0]) | skip)
     by_cases c6 : 0 < (x187001_1.length : Int)
     ·rw [if_pos c6] at H
      have c6b0 : decide (0 < (x187001_1.length : Int)) = true := decide_eq_true c6
      have c6b1 : decide (0 < x187001_1.length) = true := decide_eq_true (by omega)
      clear c6
      by_cases c7 : (rd x187001_1 0) = 0
      ·rw [if_pos c7] at H
       have c7b0 : ((rd x187001_1 0) == 0) = true := beq_iff_eq.mpr c7
       have c7b1 : ((rd x187001_1 0) != 0) = false := bne_eq_false_iff_eq.mpr c7
       clear c7
       by_cases c8 : 1 ≤ (x187001_1.length : Int)
       ·rw [if_pos c8] at H
        have c8b0 := eq_true c8
        have c8b1 : decide (1 ≤ (x187001_1.length : Int)) = true := decide_eq_true c8
        clear c8
        obtain ⟨y189, hy189⟩ : ∃ y_ : List Int, y_ = (x187001_1.drop 1) := ⟨_, rfl⟩
        replace H : (impl_normal.l0 k1 (wrap64 (x187000_1 + 1)) y189) = some (r1, r2) := by first | (rw [hy189]; with_reducible exact H) | (have H2_ := (Option.bind_some _ _).symm.trans H; rw [hy189]; with_reducible exact H2_) | (have H2_ := (Option.bind_some _ _).symm.trans H; with_reducible exact H2_) | with_reducible exact H | (rw [hy189]; exact H) | exact H
        have Ny189 := am_ hy189
        clear hy189
        have H' := am_ H
        clear H
        have hnb9 := NB186_187.out
        have hnc9 := NB187_186.out
        obtain ⟨hcz10_0, hcz10_1, hfz10_0, hfz10_1⟩ := bx2_ BK186
        obtain ⟨Ao11, co11, eo11⟩ := Kd.V_slice HO_187001.out
        subst eo11
        have p188 : 0 ≤ (0 : Int) := (by omega)
        have q188 : 0 < (x187001_1.length : Int) := of_decide_eq_true (by first | (with_reducible assumption) | assumption)
        obtain ⟨ad188, e188, hx188_0⟩ := Kd.at_int (Kd.V_reads' HO_187001.out).2.2 0 p188 q188
        cases e188
        have qi188 : (0 < x187001_1.length) = True := eq_true (by omega)
        (try rw [show ((0 : Int)).toNat = 0 from rfl] at hx188_0)
        (try rw [Addr.add_zero'] at hx188_0)
        replace p188 := eq_true p188
        replace q188 := eq_true q188
        go_wp2_with (first | ((with_reducible refine gate_store (t := 2) (p := 17) rfl ?_); refine store_event (t := 2) (p := 17) (v := ?vo_w12) (w1 := (wr.setCell ⟨gb186, 0, none⟩ (.int .i64 (wrap64 (x187000_1 + 1))))) ?hg ?ho ?hn ?hr ?_; (case ho => rfl); (case hg => rfl); (case hn => rfl); (case hr => first | (go_simp; done) | (go_simp; rfl)); intro w12 hw; have n0_ : Aside0 (Kd.V (Kd.int .i64) 2 w12 w.heap.size (fun k_ => (P0_1_ k_ ∨ w.heap.size ≤ k_) ∧ k_ ≠ gb186 ∧ k_ ≠ gb187) (.slice (some ad188) x187001_1.length co11) x187001_1) := ⟨(by rw [hw]; exact (by (with_reducible repeat (first | apply Kd.V_alloc | apply Kd.V_drewN | apply Kd.V_drew)); exact Kd.V_mono (Kd.V_far (p := ⟨gb186, 0, none⟩) (Kd.V_mono HO_187001.out (fun k_ hk => (⟨hk, hk.2.1⟩ : _ ∧ k_ ≠ gb186))) (fun _ hk => hk.2) (.int .i64 (wrap64 (x187000_1 + 1)))) (fun _ hk => ⟨hk.1.1, ⟨hk.1.2.1, hk.1.2.2⟩⟩)))⟩; have n1_ : Aside0 (w12.heap[gb186]? = some (.cells #[.int .i64 (wrap64 (x187000_1 + 1)), .slice (some ad188) x187001_1.length co11] 26 (0, 0))) := ⟨(by rw [hw]; exact (by (with_reducible repeat (first | refine blk_drewN ?_ _ | refine blk_drew ?_ | refine blk_alloc ?_ _)); refine blk_put (cs := #[.int .i64 x187000_1, .slice (some ad188) x187001_1.length co11]) ?_ 0 _ rfl; (with_reducible repeat (first | refine blk_drewN ?_ _ | refine blk_drew ?_ | refine blk_alloc ?_ _)); exact BK186.out))⟩; have n2_ : Aside0 (w12.heap[gb187]? = some (.cells #[.int .i64 0, .slice none 0 0] 26 (0, 0))) := ⟨(by rw [hw]; exact (bk_ BK187.out))⟩; have n3_ : Aside0 (Below w.heap.size w w12) := ⟨(by rw [hw]; exact (bb_ HB.out))⟩; clear hw HO_187001 BK186 BK187 HB; revert n0_ n1_ n2_ n3_; intro HO_187001 BK186 BK187 HB; obtain ⟨hcz13_0, hcz13_1, hfz13_0, hfz13_1⟩ := bx2_ BK186; have q14 : (1 : Int) ≤ ((x187001_1.length : Int) : Int) := of_decide_eq_true (by first | (with_reducible assumption) | assumption); obtain ⟨i014, hi014, _, hsz14, _⟩ := info_parts info2; have hroom14 : x187001_1.length ≤ co11 := (Kd.V_reads' HO_187001.out).2.1; have hC14 : Kd.F (Kd.int .i64) _ _ (some ad188) x187001_1.length x187001_1 := (Kd.V_at (base := w.heap.size) HO_187001.out).2.2; have hcut14 := cut_from (P := Try.prog) 22 2 .i64 Try.underlying22 hi014 1 hsz14 (some ad188) x187001_1.length co11 1 (by omega) q14; have hr14 := Kd.F_cut (m := (1 : Int).toNat) (c := co11) hC14 (by omega) hroom14; obtain ⟨A14, hA14⟩ : ∃ A1, A1 = (if co11 = (1 : Int).toNat then (some ad188) else ((some ad188) : Option Addr).map (·.add ((1 : Int).toNat * 1))) := ⟨_, rfl⟩; obtain ⟨c14, hc14⟩ : ∃ c1, c1 = co11 - (1 : Int).toNat := ⟨_, rfl⟩; have hy14 : y189.length = x187001_1.length - (1 : Int).toNat := (by rw [Ny189.out, List.length_drop] <;> omega); rw [show (x187001_1).drop (1 : Int).toNat = y189 from Ny189.out.symm] at hr14; replace hr14 : Kd.F (Kd.int .i64) _ _ A14 y189.length y189 := (by rw [hA14]; exact hr14); rw [← hy14, ← hA14, ← hc14] at hcut14; have HO193 := am_ (show Kd.V (Kd.int .i64) 2 _ w.heap.size _ (.slice A14 y189.length c14) y189 from Kd.V_mk (by rw [hy14, hc14]; exact Nat.sub_le_sub_right hroom14 _) hr14); have HC193 := am_ (show y189.length ≤ c14 from by rw [hy14, hc14]; exact Nat.sub_le_sub_right hroom14 _); clear hr14 hC14 hroom14 hi014 hsz14 hc14; have KY14 := am_ hy14; have KA14 := am_ hA14; clear hy14 hA14; replace q14 := eq_true q14))
        go_roundg k1
        case measure => have := HK1.out; omega
        case rel => exact ⟨(wrap64 (x187000_1 + 1)), (y189), (.slice A14 y189.length c14), H', ⟨by have := HK1.out; omega⟩, ⟨by (with_reducible repeat (first | apply Kd.V_alloc | apply Kd.V_drewN | apply Kd.V_drew)); exact Kd.V_mono (Kd.V_far (p := ⟨gb186, 1, none⟩) (Kd.V_mono HO193.out (fun k_ hk => (⟨hk, hk.2.1⟩ : _ ∧ k_ ≠ gb186))) (fun _ hk => hk.2) (.slice A14 y189.length c14)) (fun _ hk => ⟨hk.1.1, ⟨hk.1.2.1, hk.1.2.2⟩⟩)⟩, ⟨by (with_reducible repeat (first | refine blk_drewN ?_ _ | refine blk_drew ?_ | refine blk_alloc ?_ _)); refine blk_put (cs := #[.int .i64 (wrap64 (x187000_1 + 1)), .slice (some ad188) x187001_1.length co11]) ?_ 1 _ rfl; (with_reducible repeat (first | refine blk_drewN ?_ _ | refine blk_drew ?_ | refine blk_alloc ?_ _)); exact BK186.out⟩, ⟨bk_ BK187.out⟩, ⟨bb_ HB.out⟩⟩
       ·rw [if_neg c8] at H
        exact absurd H (by simp)
      ·rw [if_neg c7] at H
       have c7b0 : ((rd x187001_1 0) == 0) = false := beq_eq_false_iff_ne.mpr c7
       have c7b1 : ((rd x187001_1 0) != 0) = true := bne_iff_ne.mpr c7
       have H' := am_ H
       clear H
       have hnb15 := NB186_187.out
       have hnc15 := NB187_186.out
       obtain ⟨hcz16_0, hcz16_1, hfz16_0, hfz16_1⟩ := bx2_ BK186
       obtain ⟨Ao17, co17, eo17⟩ := Kd.V_slice HO_187001.out
       subst eo17
       have p188 : 0 ≤ (0 : Int) := (by omega)
       have q188 : 0 < (x187001_1.length : Int) := of_decide_eq_true (by first | (with_reducible assumption) | assumption)
       obtain ⟨ad188, e188, hx188_0⟩ := Kd.at_int (Kd.V_reads' HO_187001.out).2.2 0 p188 q188
       cases e188
       have qi188 : (0 < x187001_1.length) = True := eq_true (by omega)
       (try rw [show ((0 : Int)).toNat = 0 from rfl] at hx188_0)
       (try rw [Addr.add_zero'] at hx188_0)
       replace p188 := eq_true p188
       replace q188 := eq_true q188
       go_wp2
       go_meet
       case rel => exact ⟨_, (x187000_1), (x187001_1), (.slice (some ad188) x187001_1.length co17), H', ⟨by have := HK1.out; first | omega | exact Nat.le_refl _⟩, ⟨by (with_reducible repeat (first | apply Kd.V_alloc | apply Kd.V_drewN | apply Kd.V_drew)); exact HO_187001.out⟩, ⟨bk_ BK186.out⟩, ⟨bk_ BK187.out⟩, ⟨bb_ HB.out⟩⟩
     ·rw [if_neg c6] at H
      exact absurd H (by simp)
    ·rw [if_neg c5] at H
     have c5b0 : decide (0 < (x187001_1.length : Int)) = false := decide_eq_false c5
     have c5b1 : decide (0 < x187001_1.length) = false := decide_eq_false (by omega)
     clear c5
     (first | rw [c5b0] | (simp only [i64_w, i32_w]; rw [c5b0]) | skip)
     have H' := am_ H
     clear H
     have hnb18 := NB186_187.out
     have hnc18 := NB187_186.out
     obtain ⟨hcz19_0, hcz19_1, hfz19_0, hfz19_1⟩ := bx2_ BK186
     obtain ⟨Ao20, co20, eo20⟩ := Kd.V_slice HO_187001.out
     subst eo20
     go_wp2
     go_meet
     case rel => exact ⟨_, (x187000_1), (x187001_1), (.slice Ao20 x187001_1.length co20), H', ⟨by have := HK1.out; first | omega | exact Nat.le_refl _⟩, ⟨by (with_reducible repeat (first | apply Kd.V_alloc | apply Kd.V_drewN | apply Kd.V_drew)); exact HO_187001.out⟩, ⟨bk_ BK186.out⟩, ⟨bk_ BK187.out⟩, ⟨bb_ HB.out⟩⟩
 case rest =>
  clear HC2
  try clear c1
  try clear p1
  try clear q1
  try clear hx1
  try clear qi1
  try clear p2
  try clear c3
  try clear c5
  try clear c5b0
  try clear c5b1
  try clear c6
  try clear c6b0
  try clear c6b1
  try clear p6
  try clear c7
  try clear c7b0
  try clear c7b1
  try clear c8
  try clear c8b0
  try clear c8b1
  try clear c9
  try clear c14
  try clear q14
  try clear c15
  try clear c18
  try clear p18
  try clear q18
  try clear hx18
  try clear qi18
  try clear hcz10_0
  try clear hcz10_1
  try clear hcz13_0
  try clear hcz13_1
  try clear hcz16_0
  try clear hcz16_1
  try clear hcz19_0
  try clear hcz19_1
  try clear hfz10_0
  try clear hfz10_1
  try clear hfz13_0
  try clear hfz13_1
  try clear hfz16_0
  try clear hfz16_1
  try clear hfz19_0
  try clear hfz19_1
  try clear hx188_0
  try clear p188
  try clear p2
  try clear q14
  try clear q188
  obtain ⟨kq, x187000_1, x187001_1, u187001, HA, HJ1, HO_187001, BK186, BK187, HB⟩ := hcut
  cases kq with
  | zero => exact absurd HA.out (by simp [impl_normal.j1])
  | succ kj1 =>
   have H := HA.out
   clear HA
   simp only [impl_normal.j1] at H
   have H' := am_ H
   clear H
   go_wp2
   go_loopg [] kj1 (fun kq w' => ∃ (x187001_2 : List Int) (u187001 : Value), Aside0 (impl_normal.l1 kq x187000_1 x187001_2 = some (r1, r2)) ∧ Aside0 (kq ≤ kj1) ∧ Aside0 (Kd.V (Kd.int .i64) 2 w' w.heap.size (fun k_ => (P0_1_ k_ ∨ w.heap.size ≤ k_) ∧ k_ ≠ gb186 ∧ k_ ≠ gb187) u187001 x187001_2) ∧ Aside0 (w'.heap[gb186]? = some (.cells #[.int .i64 x187000_1, u187001] 26 (0, 0))) ∧ Aside0 (w'.heap[gb187]? = some (.cells #[.int .i64 0, (.slice none 0 0)] 26 (0, 0))) ∧ Aside0 (Below w.heap.size w w'))
   case atStart => exact ⟨(x187001_1), (u187001), H', ⟨Nat.le_refl _⟩, ⟨by (with_reducible repeat (first | apply Kd.V_alloc | apply Kd.V_drewN | apply Kd.V_drew)); exact HO_187001.out⟩, ⟨bk_ BK186.out⟩, ⟨bk_ BK187.out⟩, ⟨bb_ HB.out⟩⟩
   case round =>
    clear H'
    try clear c1
    try clear p1
    try clear q1
    try clear hx1
    try clear qi1
    try clear p2
    try clear c3
    try clear c5
    try clear c5b0
    try clear c5b1
    try clear c6
    try clear c6b0
    try clear c6b1
    try clear p6
    try clear c7
    try clear c7b0
    try clear c7b1
    try clear c8
    try clear c8b0
    try clear c8b1
    try clear c9
    try clear c14
    try clear q14
    try clear c15
    try clear c18
    try clear p18
    try clear q18
    try clear hx18
    try clear qi18
    try clear hcz10_0
    try clear hcz10_1
    try clear hcz13_0
    try clear hcz13_1
    try clear hcz16_0
    try clear hcz16_1
    try clear hcz19_0
    try clear hcz19_1
    try clear hfz10_0
    try clear hfz10_1
    try clear hfz13_0
    try clear hfz13_1
    try clear hfz16_0
    try clear hfz16_1
    try clear hfz19_0
    try clear hfz19_1
    try clear hx188_0
    try clear p1
    try clear p18
    try clear p188
    try clear p2
    try clear p6
    try clear q1
    try clear q14
    try clear q18
    try clear q188
    obtain ⟨x187001_2, u187001, HA, HK2, HO_187001, BK186, BK187, HB⟩ := hrel
    cases gk with
    | zero => exact absurd HA.out (by simp [impl_normal.l1])
    | succ k2 =>
     have H := HA.out
     clear HA
     simp only [impl_normal.l1] at H
     by_cases c21 : (x187001_2.length : Int) > 0
     ·rw [if_pos c21] at H
      have c21b0 : decide (0 < (x187001_2.length : Int)) = true := decide_eq_true c21
      have c21b1 : decide (0 < x187001_2.length) = true := decide_eq_true (by omega)
      clear c21
      obtain ⟨ji22, hji22⟩ : ∃ j_ : Int, (wrap64 ((x187001_2.length : Int) - 1)) = j_ := ⟨_, rfl⟩
      replace H : (if 0 ≤ (ji22) then (if (ji22) < (x187001_2.length : Int) then (if (rd x187001_2 (ji22)) = 0 then (if (ji22) ≤ (x187001_2.length : Int) then (impl_normal.l1 k2 x187000_1 (x187001_2.take ((ji22) : Int).toNat)) else (none)) else (if (x187001_2.length : Int) = 0 then (some (0, ([] : List Int))) else ((slices_Clone_int64_int64.f x187001_2).bind fun t200 => (some (x187000_1, t200))))) else (none)) else (none)) = some (r1, r2) := by first | (rw [hji22] at H; exact H) | (simp only [hji22] at H ⊢; exact H)
      have hji22w : (IntKind.i64.wrap ((x187001_2.length : Int) - 1)) = ji22 := (i64_w _).trans hji22
      by_cases c23 : 0 ≤ (ji22)
      ·rw [if_pos c23] at H
       have c23b0 : decide (0 ≤ (ji22)) = true := decide_eq_true c23
       clear c23
       by_cases c24 : (ji22) < (x187001_2.length : Int)
       ·rw [if_pos c24] at H
        have c24b0 : decide ((ji22) < (x187001_2.length : Int)) = true := decide_eq_true c24
        clear c24
        by_cases c25 : (rd x187001_2 (ji22)) = 0
        ·rw [if_pos c25] at H
         have c25b0 : ((rd x187001_2 (ji22)) == 0) = true := beq_iff_eq.mpr c25
         have c25b1 : ((rd x187001_2 (ji22)) != 0) = false := bne_eq_false_iff_eq.mpr c25
         clear c25
         have c26b0 := eq_true (of_decide_eq_true (by first | (with_reducible assumption) | assumption) : 0 ≤ (ji22))
         by_cases c27 : (ji22) ≤ (x187001_2.length : Int)
         ·rw [if_pos c27] at H
          have c27b0 := eq_true c27
          have c27b1 : decide ((ji22) ≤ (x187001_2.length : Int)) = true := decide_eq_true c27
          clear c27
          obtain ⟨y195, hy195⟩ : ∃ y_ : List Int, y_ = (x187001_2.take ((ji22) : Int).toNat) := ⟨_, rfl⟩
          replace H : (impl_normal.l1 k2 x187000_1 y195) = some (r1, r2) := by first | (rw [hy195]; with_reducible exact H) | (have H2_ := (Option.bind_some _ _).symm.trans H; rw [hy195]; with_reducible exact H2_) | (have H2_ := (Option.bind_some _ _).symm.trans H; with_reducible exact H2_) | with_reducible exact H | (rw [hy195]; exact H) | exact H
          have Ny195 := am_ hy195
          clear hy195
          have H' := am_ H
          clear H
          have hnb28 := NB186_187.out
          have hnc28 := NB187_186.out
          obtain ⟨hcz29_0, hcz29_1, hfz29_0, hfz29_1⟩ := bx2_ BK186
          obtain ⟨Ao30, co30, eo30⟩ := Kd.V_slice HO_187001.out
          subst eo30
          have p194 : 0 ≤ ((ji22) : Int) := of_decide_eq_true (by first | (with_reducible assumption) | assumption)
          have q194 : (ji22) < (x187001_2.length : Int) := of_decide_eq_true (by first | (with_reducible assumption) | assumption)
          obtain ⟨ad194, e194, hx194_0⟩ := Kd.at_int (Kd.V_reads' HO_187001.out).2.2 (ji22) p194 q194
          cases e194
          replace p194 := eq_true p194
          replace q194 := eq_true q194
          have q31 : ((ji22) : Int) ≤ ((x187001_2.length : Int) : Int) := of_decide_eq_true (by first | (with_reducible assumption) | assumption)
          obtain ⟨i031, hi031, _, hsz31, _⟩ := info_parts info2
          have hroom31 : x187001_2.length ≤ co30 := (Kd.V_reads' HO_187001.out).2.1
          have hC31 : Kd.F (Kd.int .i64) _ _ (some ad194) x187001_2.length x187001_2 := (Kd.V_at (base := w.heap.size) HO_187001.out).2.2
          have hcut31 := cut_to (P := Try.prog) 22 2 .i64 Try.underlying22 hi031 (some ad194) x187001_2.length co30 (ji22) (of_decide_eq_true (by first | (with_reducible assumption) | assumption)) q31 hroom31
          have hr31 := Kd.F_take (m := ((ji22) : Int).toNat) hC31 (by omega)
          have hy31 : y195.length = ((ji22) : Int).toNat := (by rw [Ny195.out, List.length_take]; omega)
          rw [← Ny195.out] at hr31
          rw [← hy31] at hcut31
          have HO199 := am_ (show Kd.V (Kd.int .i64) 2 _ w.heap.size _ (.slice (some ad194) y195.length co30) y195 from Kd.V_mk (by omega) hr31)
          have HC199 := am_ (show y195.length ≤ co30 from by omega)
          clear hr31 hC31 hroom31 hi031 hsz31
          have KY31 := am_ hy31
          clear hy31
          replace q31 := eq_true q31
          go_wp2
          go_roundg k2
          case measure => have := HJ1.out; have := HK2.out; omega
          case rel => exact ⟨(y195), (.slice (some ad194) y195.length co30), H', ⟨by have := HJ1.out; have := HK2.out; omega⟩, ⟨by (with_reducible repeat (first | apply Kd.V_alloc | apply Kd.V_drewN | apply Kd.V_drew)); exact Kd.V_mono (Kd.V_far (p := ⟨gb186, 1, none⟩) (Kd.V_mono HO199.out (fun k_ hk => (⟨hk, hk.2.1⟩ : _ ∧ k_ ≠ gb186))) (fun _ hk => hk.2) (.slice (some ad194) y195.length co30)) (fun _ hk => ⟨hk.1.1, ⟨hk.1.2.1, hk.1.2.2⟩⟩)⟩, ⟨by (with_reducible repeat (first | refine blk_drewN ?_ _ | refine blk_drew ?_ | refine blk_alloc ?_ _)); refine blk_put (cs := #[.int .i64 x187000_1, .slice (some ad194) x187001_2.length co30]) ?_ 1 _ rfl; (with_reducible repeat (first | refine blk_drewN ?_ _ | refine blk_drew ?_ | refine blk_alloc ?_ _)); exact BK186.out⟩, ⟨bk_ BK187.out⟩, ⟨bb_ HB.out⟩⟩
         ·rw [if_neg c27] at H
          exact absurd H (by simp)
        ·rw [if_neg c25] at H
         have c25b0 : ((rd x187001_2 (ji22)) == 0) = false := beq_eq_false_iff_ne.mpr c25
         have c25b1 : ((rd x187001_2 (ji22)) != 0) = true := bne_iff_ne.mpr c25
         by_cases c32 : (x187001_2.length : Int) = 0
         ·rw [if_pos c32] at H
          have c32b0 : ((x187001_2.length : Int) == 0) = true := beq_iff_eq.mpr c32
          have c32b1 : ((x187001_2.length : Int) != 0) = false := bne_eq_false_iff_eq.mpr c32
          clear c32
          simp only [Option.some.injEq, Prod.mk.injEq] at H
          obtain ⟨rfl, rfl⟩ := H
          have hnb33 := NB186_187.out
          have hnc33 := NB187_186.out
          obtain ⟨hcz34_0, hcz34_1, hfz34_0, hfz34_1⟩ := bx2_ BK186
          obtain ⟨Ao35, co35, eo35⟩ := Kd.V_slice HO_187001.out
          subst eo35
          have p194 : 0 ≤ ((ji22) : Int) := of_decide_eq_true (by first | (with_reducible assumption) | assumption)
          have q194 : (ji22) < (x187001_2.length : Int) := of_decide_eq_true (by first | (with_reducible assumption) | assumption)
          obtain ⟨ad194, e194, hx194_0⟩ := Kd.at_int (Kd.V_reads' HO_187001.out).2.2 (ji22) p194 q194
          cases e194
          replace p194 := eq_true p194
          replace q194 := eq_true q194
          obtain ⟨hcz36_0, hcz36_1, hfz36_0, hfz36_1⟩ := bx2_ BK187
          go_wp2
          refine bodyPost_ret (results_cell_row rfl _ _ gb187 26 #[.int .i64 0, .slice none 0 0] (0, 0) _ rfl (by (with_reducible repeat (first | refine blk_drewN ?_ _ | refine blk_drew ?_ | refine blk_alloc ?_ _)); refine blk_put (cs := #[.int .i64 0, .slice none 0 0]) ?_ 1 _ rfl; (with_reducible repeat (first | refine blk_drewN ?_ _ | refine blk_drew ?_ | refine blk_alloc ?_ _)); refine blk_put (cs := #[.int .i64 0, .slice none 0 0]) ?_ 0 _ rfl; (with_reducible repeat (first | refine blk_drewN ?_ _ | refine blk_drew ?_ | refine blk_alloc ?_ _)); exact BK187.out) Try.underlying26 rfl (by kernel_rfl)) rfl ?_
          exact ⟨_, by first | rfl | (simp [errW_none, errW_some] <;> rfl) | (simp only [← hji22]; first | rfl | (simp [errW_none, errW_some] <;> rfl)) | (simp [*, errW_none, errW_some] <;> rfl), by first | exact Kd.R_nil _ _ _ _ _ | exact Kd.N_nil _ _ _ _ _ | exact Kd.V_nil _ _ _ _ _ | exact Kd.Q_nil _ _ _ _ _ | exact Kd.S_nil _ _ _ _ _, bb_ HB.out⟩
         ·rw [if_neg c32] at H
          have c32b0 : ((x187001_2.length : Int) == 0) = false := beq_eq_false_iff_ne.mpr c32
          have c32b1 : ((x187001_2.length : Int) != 0) = true := bne_iff_ne.mpr c32
          have c32b2 : ¬ (x187001_2 = []) := fun h_ => c32 (by rw [h_]; rfl)
          replace H := Option.bind_eq_some_iff.mp H
          obtain ⟨t200, A370, H⟩ := H
          replace H : (some (x187000_1, t200)) = some (r1, r2) := H
          have A37 := am_ A370
          clear A370
          simp only [Option.some.injEq, Prod.mk.injEq] at H
          obtain ⟨rfl, rfl⟩ := H
          have hnb38 := NB186_187.out
          have hnc38 := NB187_186.out
          obtain ⟨hcz39_0, hcz39_1, hfz39_0, hfz39_1⟩ := bx2_ BK186
          obtain ⟨Ao40, co40, eo40⟩ := Kd.V_slice HO_187001.out
          subst eo40
          have p194 : 0 ≤ ((ji22) : Int) := of_decide_eq_true (by first | (with_reducible assumption) | assumption)
          have q194 : (ji22) < (x187001_2.length : Int) := of_decide_eq_true (by first | (with_reducible assumption) | assumption)
          obtain ⟨ad194, e194, hx194_0⟩ := Kd.at_int (Kd.V_reads' HO_187001.out).2.2 (ji22) p194 q194
          cases e194
          replace p194 := eq_true p194
          replace q194 := eq_true q194
          try go_wp2
          have n0_ := am_ (Kd.V_drew HO_187001.out)
          have n1_ := am_ (blk_drew BK186.out)
          have n2_ := am_ (blk_drew BK187.out)
          have n3_ := am_ (below_drew1 HB.out)
          clear HO_187001 BK186 BK187 HB; revert n0_ n1_ n2_ n3_; intro HO_187001 BK186 BK187 HB
          refine start_ (n := 7) (S := fun w' => w'.cell? ⟨gb186, 0, none⟩ = some (.int .i64 x187000_1) ∧ w'.cell? ⟨gb186, 1, none⟩ = some (.slice (some ad194) x187001_2.length co40)) (ds := []) #[false, false, false, false, false, false, false] (by kernel_rfl) rfl rfl ⟨bc_ BK186 0, bc_ BK186 1⟩ (fun hHeld => ?_)
          generalize wr.drew = w41 at HO_187001 BK186 BK187 HB hHeld ⊢
          refine pure_ (i := 0) (N := some 50) (v := ?_) (a' := ?_) #[true, false, false, false, false, false, false] rfl rfl (by kernel_rfl) (fun _ _ _ h => h) (Or.inl ⟨by rfl, ?_⟩) ?_ ?_
          rotate_left
          ·intro w'
           go_simp
           with_reducible rfl
          rotate_left
          ·simp only [Act.put, List.setIfInBounds_toArray, List.set_cons_zero, List.set_cons_succ, i64_w, i32_w]
           rfl
          refine pure_ (i := 2) (N := some 52) (v := ?_) (a' := ?_) #[true, false, true, false, false, false, false] rfl rfl (by kernel_rfl) (fun _ _ _ h => h) (Or.inl ⟨by rfl, ?_⟩) ?_ ?_
          rotate_left
          ·intro w'
           go_simp
           with_reducible rfl
          rotate_left
          ·simp only [Act.put, List.setIfInBounds_toArray, List.set_cons_zero, List.set_cons_succ, i64_w, i32_w]
           rfl
          refine take_ (i := 1) (N := some 51) (v := ?_) (a' := ?_) #[true, true, true, false, false, false, false] rfl rfl (by kernel_rfl) (fun _ _ _ h => h) (Or.inl ⟨by rfl, ?_⟩) hHeld ?_ ?_
          rotate_left
          ·rintro w' ⟨s0, s1⟩
           go_simp
           with_reducible rfl
          rotate_left
          ·simp only [Act.put, List.setIfInBounds_toArray, List.set_cons_zero, List.set_cons_succ, i64_w, i32_w]
           rfl
          refine take_ (i := 3) (N := some 53) (v := ?_) (a' := ?_) #[true, true, true, true, false, false, false] rfl rfl (by kernel_rfl) (fun _ _ _ h => h) (Or.inl ⟨by rfl, ?_⟩) hHeld ?_ ?_
          rotate_left
          ·rintro w' ⟨s0, s1⟩
           go_simp
           with_reducible rfl
          rotate_left
          ·simp only [Act.put, List.setIfInBounds_toArray, List.set_cons_zero, List.set_cons_succ, i64_w, i32_w]
           rfl
          refine one_ (i := 4) (N := some 54) #[true, true, true, true, true, false, false] rfl rfl (by kernel_rfl) (by decide) (fun K hK => ?_)
          refine goes_ Try.func43 (by kernel_rfl) rfl #[.slice (some ad194) x187001_2.length co40] (by rfl) rfl rfl lm_ ?_
          with_reducible refine (slices_Clone_int64_int64.calls _ _ x187001_2 t200 _ ?side1 ?side2 A37.out).mono ?_
          (case side1 => repeat (first | exact (Kd.V_reads' HO_187001.out).2.2 | (with_reducible refine Kd.C_alloc ?_ _) | (with_reducible refine Kd.C_drewN ?_ _) | (with_reducible refine Kd.C_drew ?_)))
          (case side2 => exact (Kd.V_reads' HO_187001.out).2.1)
          rintro e w42 ⟨v201, rfl, ho0, hb⟩
          refine ⟨_, rfl, ?_⟩
          have n0_ := am_ (Kd.V_elder' (by (with_reducible repeat (first | apply Kd.V_alloc | apply Kd.V_drewN | apply Kd.V_drew)); exact HO_187001.out) (Kd.R_base ho0) hb)
          have n1_ := am_ (Kd.R_lower (Kd.R_newM (M := fun k_ => (w.heap.size ≤ k_)) ho0 (below_size (bb_ HB.out)) (fun k_ h_ => h_)) (below_size (bb_ HB.out)))
          have n2_ := am_ (bw_ BK186 hb)
          have n3_ := am_ (bw_ BK187 hb)
          have n4_ := am_ (below_step (bb_ HB.out) hb)
          clear HO_187001 BK186 BK187 HB; revert n0_ n1_ n2_ n3_ n4_; intro HO_187001 HO202 BK186 BK187 HB
          (try clear hb)
          (try clear hb2)
          (try clear hk)
          (try clear hi)
          (try clear ho0)
          obtain ⟨Ao43, co43, eo43⟩ := Kd.R_slice HO202.out
          (first | subst eo43 | (injection eo43 with f1_ f2_ f3_; have f4_ := f1_.symm; have f5_ := f3_.symm; clear f1_ f2_ f3_; subst f4_; subst f5_))
          refine hK.out _ _ ⟨bc_ BK186 0, bc_ BK186 1⟩ (fun hHeld => ?_)
          clear hK K
          refine norm_ (a' := ?_) ?_ ?_
          rotate_left
          ·show Act.put _ (some 54) _ = _
           simp only [Act.put, List.setIfInBounds_toArray, List.set_cons_zero, List.set_cons_succ, i64_w, i32_w]
           rfl
          refine pure_ (i := 5) (N := some 55) (v := ?_) (a' := ?_) #[true, true, true, true, true, true, false] rfl rfl (by kernel_rfl) (fun _ _ _ h => h) (Or.inl ⟨by rfl, ?_⟩) ?_ ?_
          rotate_left
          ·intro w'
           go_simp
           with_reducible rfl
          rotate_left
          ·simp only [Act.put, List.setIfInBounds_toArray, List.set_cons_zero, List.set_cons_succ, i64_w, i32_w]
           rfl
          refine one_ (i := 6) (N := none) #[true, true, true, true, true, true, true] rfl rfl (by kernel_rfl) (by decide) (fun K hK => ?_)
          have hs44 : w42.cell? ⟨gb187, 0, none⟩ = some (.int .i64 0) := bc_ BK187 0
          have hfs44 := blk_frozen BK187.out 0
          have hns44_0 := NB186_187.out
          have hms44_0 := NB187_186.out
          have hs45 : w42.cell? ⟨gb187, 1, none⟩ = some (.slice none 0 0) := bc_ BK187 1
          have hfs45 := blk_frozen BK187.out 1
          have hns45_0 := NB186_187.out
          have hms45_0 := NB187_186.out
          refine skip_ (w1 := ?_) (by rfl) rfl ?_ ?_
          rotate_left
          ·go_simp
           rfl
          refine hK.out _ _ ⟨((cell_far (p := ⟨gb187, _, none⟩) NB186_187.out _).trans (((cell_far (p := ⟨gb187, _, none⟩) NB186_187.out _).trans (hHeld.1)))), ((cell_far (p := ⟨gb187, _, none⟩) NB186_187.out _).trans (((cell_far (p := ⟨gb187, _, none⟩) NB186_187.out _).trans (hHeld.2))))⟩ (fun hHeld => ?_)
          clear hK K
          refine done_ (by kernel_rfl) ?_
          try go_wp2
          refine bodyPost_ret (results_cell_row rfl _ _ gb187 26 #[.int .i64 x187000_1, .slice Ao43 t200.length co43] (0, 0) _ rfl (by (with_reducible repeat (first | refine blk_drewN ?_ _ | refine blk_drew ?_ | refine blk_alloc ?_ _)); refine blk_put (cs := #[.int .i64 x187000_1, .slice none 0 0]) ?_ 1 _ rfl; (with_reducible repeat (first | refine blk_drewN ?_ _ | refine blk_drew ?_ | refine blk_alloc ?_ _)); refine blk_put (cs := #[.int .i64 0, .slice none 0 0]) ?_ 0 _ rfl; (with_reducible repeat (first | refine blk_drewN ?_ _ | refine blk_drew ?_ | refine blk_alloc ?_ _)); exact BK187.out) Try.underlying26 rfl (by kernel_rfl)) rfl ?_
          exact ⟨_, by first | rfl | (simp [errW_none, errW_some] <;> rfl) | (simp only [← hji22]; first | rfl | (simp [errW_none, errW_some] <;> rfl)) | (simp [*, errW_none, errW_some] <;> rfl), rm_ (Kd.R_far (p := ⟨gb187, 1, none⟩) (Kd.R_far (p := ⟨gb187, 0, none⟩) (Kd.R_types HO202.out BK187.out (by decide)) (fun _ hk => hk.2) (.int .i64 x187000_1)) (fun _ hk => hk.2) (.slice Ao43 t200.length co43)) (fun _ hk => hk.1.1), bb_ HB.out⟩
       ·rw [if_neg c24] at H
        exact absurd H (by simp)
      ·rw [if_neg c23] at H
       exact absurd H (by simp)
     ·rw [if_neg c21] at H
      have c21b0 : decide (0 < (x187001_2.length : Int)) = false := decide_eq_false c21
      have c21b1 : decide (0 < x187001_2.length) = false := decide_eq_false (by omega)
      clear c21
      by_cases c46 : (x187001_2.length : Int) = 0
      ·rw [if_pos c46] at H
       have c46b0 : ((x187001_2.length : Int) == 0) = true := beq_iff_eq.mpr c46
       have c46b1 : ((x187001_2.length : Int) != 0) = false := bne_eq_false_iff_eq.mpr c46
       clear c46
       simp only [Option.some.injEq, Prod.mk.injEq] at H
       obtain ⟨rfl, rfl⟩ := H
       have hnb47 := NB186_187.out
       have hnc47 := NB187_186.out
       obtain ⟨hcz48_0, hcz48_1, hfz48_0, hfz48_1⟩ := bx2_ BK186
       obtain ⟨Ao49, co49, eo49⟩ := Kd.V_slice HO_187001.out
       subst eo49
       obtain ⟨hcz50_0, hcz50_1, hfz50_0, hfz50_1⟩ := bx2_ BK187
       go_wp2
       refine bodyPost_ret (results_cell_row rfl _ _ gb187 26 #[.int .i64 0, .slice none 0 0] (0, 0) _ rfl (by (with_reducible repeat (first | refine blk_drewN ?_ _ | refine blk_drew ?_ | refine blk_alloc ?_ _)); refine blk_put (cs := #[.int .i64 0, .slice none 0 0]) ?_ 1 _ rfl; (with_reducible repeat (first | refine blk_drewN ?_ _ | refine blk_drew ?_ | refine blk_alloc ?_ _)); refine blk_put (cs := #[.int .i64 0, .slice none 0 0]) ?_ 0 _ rfl; (with_reducible repeat (first | refine blk_drewN ?_ _ | refine blk_drew ?_ | refine blk_alloc ?_ _)); exact BK187.out) Try.underlying26 rfl (by kernel_rfl)) rfl ?_
       exact ⟨_, by first | rfl | (simp [errW_none, errW_some] <;> rfl) | (simp [*, errW_none, errW_some] <;> rfl), by first | exact Kd.R_nil _ _ _ _ _ | exact Kd.N_nil _ _ _ _ _ | exact Kd.V_nil _ _ _ _ _ | exact Kd.Q_nil _ _ _ _ _ | exact Kd.S_nil _ _ _ _ _, bb_ HB.out⟩
      ·rw [if_neg c46] at H
       have c46b0 : ((x187001_2.length : Int) == 0) = false := beq_eq_false_iff_ne.mpr c46
       have c46b1 : ((x187001_2.length : Int) != 0) = true := bne_iff_ne.mpr c46
       have c46b2 : ¬ (x187001_2 = []) := fun h_ => c46 (by rw [h_]; rfl)
       replace H := Option.bind_eq_some_iff.mp H
       obtain ⟨t203, A510, H⟩ := H
       replace H : (some (x187000_1, t203)) = some (r1, r2) := H
       have A51 := am_ A510
       clear A510
       simp only [Option.some.injEq, Prod.mk.injEq] at H
       obtain ⟨rfl, rfl⟩ := H
       have hnb52 := NB186_187.out
       have hnc52 := NB187_186.out
       obtain ⟨hcz53_0, hcz53_1, hfz53_0, hfz53_1⟩ := bx2_ BK186
       obtain ⟨Ao54, co54, eo54⟩ := Kd.V_slice HO_187001.out
       subst eo54
       try go_wp2
       have n0_ := am_ (Kd.V_drew HO_187001.out)
       have n1_ := am_ (blk_drew BK186.out)
       have n2_ := am_ (blk_drew BK187.out)
       have n3_ := am_ (below_drew1 HB.out)
       clear HO_187001 BK186 BK187 HB; revert n0_ n1_ n2_ n3_; intro HO_187001 BK186 BK187 HB
       refine start_ (n := 7) (S := fun w' => w'.cell? ⟨gb186, 0, none⟩ = some (.int .i64 x187000_1) ∧ w'.cell? ⟨gb186, 1, none⟩ = some (.slice Ao54 x187001_2.length co54)) (ds := []) #[false, false, false, false, false, false, false] (by kernel_rfl) rfl rfl ⟨bc_ BK186 0, bc_ BK186 1⟩ (fun hHeld => ?_)
       generalize wr.drew = w55 at HO_187001 BK186 BK187 HB hHeld ⊢
       refine pure_ (i := 0) (N := some 50) (v := ?_) (a' := ?_) #[true, false, false, false, false, false, false] rfl rfl (by kernel_rfl) (fun _ _ _ h => h) (Or.inl ⟨by rfl, ?_⟩) ?_ ?_
       rotate_left
       ·intro w'
        go_simp
        with_reducible rfl
       rotate_left
       ·simp only [Act.put, List.setIfInBounds_toArray, List.set_cons_zero, List.set_cons_succ, i64_w, i32_w]
        rfl
       refine pure_ (i := 2) (N := some 52) (v := ?_) (a' := ?_) #[true, false, true, false, false, false, false] rfl rfl (by kernel_rfl) (fun _ _ _ h => h) (Or.inl ⟨by rfl, ?_⟩) ?_ ?_
       rotate_left
       ·intro w'
        go_simp
        with_reducible rfl
       rotate_left
       ·simp only [Act.put, List.setIfInBounds_toArray, List.set_cons_zero, List.set_cons_succ, i64_w, i32_w]
        rfl
       refine take_ (i := 1) (N := some 51) (v := ?_) (a' := ?_) #[true, true, true, false, false, false, false] rfl rfl (by kernel_rfl) (fun _ _ _ h => h) (Or.inl ⟨by rfl, ?_⟩) hHeld ?_ ?_
       rotate_left
       ·rintro w' ⟨s0, s1⟩
        go_simp
        with_reducible rfl
       rotate_left
       ·simp only [Act.put, List.setIfInBounds_toArray, List.set_cons_zero, List.set_cons_succ, i64_w, i32_w]
        rfl
       refine take_ (i := 3) (N := some 53) (v := ?_) (a' := ?_) #[true, true, true, true, false, false, false] rfl rfl (by kernel_rfl) (fun _ _ _ h => h) (Or.inl ⟨by rfl, ?_⟩) hHeld ?_ ?_
       rotate_left
       ·rintro w' ⟨s0, s1⟩
        go_simp
        with_reducible rfl
       rotate_left
       ·simp only [Act.put, List.setIfInBounds_toArray, List.set_cons_zero, List.set_cons_succ, i64_w, i32_w]
        rfl
       refine one_ (i := 4) (N := some 54) #[true, true, true, true, true, false, false] rfl rfl (by kernel_rfl) (by decide) (fun K hK => ?_)
       refine goes_ Try.func43 (by kernel_rfl) rfl #[.slice Ao54 x187001_2.length co54] (by rfl) rfl rfl lm_ ?_
       with_reducible refine (slices_Clone_int64_int64.calls _ _ x187001_2 t203 _ ?side1 ?side2 A51.out).mono ?_
       (case side1 => repeat (first | exact (Kd.V_reads' HO_187001.out).2.2 | (with_reducible refine Kd.C_alloc ?_ _) | (with_reducible refine Kd.C_drewN ?_ _) | (with_reducible refine Kd.C_drew ?_)))
       (case side2 => exact (Kd.V_reads' HO_187001.out).2.1)
       rintro e w56 ⟨v204, rfl, ho0, hb⟩
       refine ⟨_, rfl, ?_⟩
       have n0_ := am_ (Kd.V_elder' (by (with_reducible repeat (first | apply Kd.V_alloc | apply Kd.V_drewN | apply Kd.V_drew)); exact HO_187001.out) (Kd.R_base ho0) hb)
       have n1_ := am_ (Kd.R_lower (Kd.R_newM (M := fun k_ => (w.heap.size ≤ k_)) ho0 (below_size (bb_ HB.out)) (fun k_ h_ => h_)) (below_size (bb_ HB.out)))
       have n2_ := am_ (bw_ BK186 hb)
       have n3_ := am_ (bw_ BK187 hb)
       have n4_ := am_ (below_step (bb_ HB.out) hb)
       clear HO_187001 BK186 BK187 HB; revert n0_ n1_ n2_ n3_ n4_; intro HO_187001 HO205 BK186 BK187 HB
       (try clear hb)
       (try clear hb2)
       (try clear hk)
       (try clear hi)
       (try clear ho0)
       obtain ⟨Ao57, co57, eo57⟩ := Kd.R_slice HO205.out
       (first | subst eo57 | (injection eo57 with f1_ f2_ f3_; have f4_ := f1_.symm; have f5_ := f3_.symm; clear f1_ f2_ f3_; subst f4_; subst f5_))
       refine hK.out _ _ ⟨bc_ BK186 0, bc_ BK186 1⟩ (fun hHeld => ?_)
       clear hK K
       refine norm_ (a' := ?_) ?_ ?_
       rotate_left
       ·show Act.put _ (some 54) _ = _
        simp only [Act.put, List.setIfInBounds_toArray, List.set_cons_zero, List.set_cons_succ, i64_w, i32_w]
        rfl
       refine pure_ (i := 5) (N := some 55) (v := ?_) (a' := ?_) #[true, true, true, true, true, true, false] rfl rfl (by kernel_rfl) (fun _ _ _ h => h) (Or.inl ⟨by rfl, ?_⟩) ?_ ?_
       rotate_left
       ·intro w'
        go_simp
        with_reducible rfl
       rotate_left
       ·simp only [Act.put, List.setIfInBounds_toArray, List.set_cons_zero, List.set_cons_succ, i64_w, i32_w]
        rfl
       refine one_ (i := 6) (N := none) #[true, true, true, true, true, true, true] rfl rfl (by kernel_rfl) (by decide) (fun K hK => ?_)
       have hs58 : w56.cell? ⟨gb187, 0, none⟩ = some (.int .i64 0) := bc_ BK187 0
       have hfs58 := blk_frozen BK187.out 0
       have hns58_0 := NB186_187.out
       have hms58_0 := NB187_186.out
       have hs59 : w56.cell? ⟨gb187, 1, none⟩ = some (.slice none 0 0) := bc_ BK187 1
       have hfs59 := blk_frozen BK187.out 1
       have hns59_0 := NB186_187.out
       have hms59_0 := NB187_186.out
       refine skip_ (w1 := ?_) (by rfl) rfl ?_ ?_
       rotate_left
       ·go_simp
        rfl
       refine hK.out _ _ ⟨((cell_far (p := ⟨gb187, _, none⟩) NB186_187.out _).trans (((cell_far (p := ⟨gb187, _, none⟩) NB186_187.out _).trans (hHeld.1)))), ((cell_far (p := ⟨gb187, _, none⟩) NB186_187.out _).trans (((cell_far (p := ⟨gb187, _, none⟩) NB186_187.out _).trans (hHeld.2))))⟩ (fun hHeld => ?_)
       clear hK K
       refine done_ (by kernel_rfl) ?_
       try go_wp2
       refine bodyPost_ret (results_cell_row rfl _ _ gb187 26 #[.int .i64 x187000_1, .slice Ao57 t203.length co57] (0, 0) _ rfl (by (with_reducible repeat (first | refine blk_drewN ?_ _ | refine blk_drew ?_ | refine blk_alloc ?_ _)); refine blk_put (cs := #[.int .i64 x187000_1, .slice none 0 0]) ?_ 1 _ rfl; (with_reducible repeat (first | refine blk_drewN ?_ _ | refine blk_drew ?_ | refine blk_alloc ?_ _)); refine blk_put (cs := #[.int .i64 0, .slice none 0 0]) ?_ 0 _ rfl; (with_reducible repeat (first | refine blk_drewN ?_ _ | refine blk_drew ?_ | refine blk_alloc ?_ _)); exact BK187.out) Try.underlying26 rfl (by kernel_rfl)) rfl ?_
       exact ⟨_, by first | rfl | (simp [errW_none, errW_some] <;> rfl) | (simp [*, errW_none, errW_some] <;> rfl), rm_ (Kd.R_far (p := ⟨gb187, 1, none⟩) (Kd.R_far (p := ⟨gb187, 0, none⟩) (Kd.R_types HO205.out BK187.out (by decide)) (fun _ hk => hk.2) (.int .i64 x187000_1)) (fun _ hk => hk.2) (.slice Ao57 t203.length co57)) (fun _ hk => hk.1.1), bb_ HB.out⟩

/-! ### impl_valid: function 21 -/
def impl_valid.f (k : Nat) (a0_0 : Int) (l0_1 : List Int) : Option (Int × List Int × Int) := (impl_normal.f k a0_0 l0_1).bind fun bt208 => ((impl_isLaurent.f bt208.1 bt208.2).bind fun t212 => (if t212 = true then (some (bt208.1, bt208.2, 0)) else (some (0, ([] : List Int), 3))))
theorem impl_valid.mono : ∀ a0 a1 k, LeO (impl_valid.f k a0 a1) (impl_valid.f (k + 1) a0 a1) := by
 intro a0 a1 k
 unfold impl_valid.f
 repeat' first
   | (with_reducible exact impl_normal.mono _ _ _)
   | (with_reducible exact LeO.refl _)
   | (with_reducible exact LeO.none _)
   | (with_reducible refine LeO.ite ?_ ?_)
   | (with_reducible refine LeO.bind ?_ (fun _ => ?_))
   | exact impl_normal.mono _ _ _
   | exact LeO.none _
   | refine LeO.ite ?_ ?_
   | refine LeO.bind ?_ (fun _ => ?_)
set_option maxHeartbeats 8000000 in
set_option maxRecDepth 100000 in
theorem impl_valid.calls (k : Nat) (a0_0 : Int) (A0_1 : Option Addr) (c0_1 : Nat) (l0_1 : List Int) (r1 : Int) (r2 : List Int) (r3 : Int) (w : World) (hr0_1 : Kd.C (Kd.int .i64) w A0_1 l0_1.length l0_1) (hc0_1 : l0_1.length ≤ c0_1) (h : impl_valid.f k a0_0 l0_1 = some (r1, r2, r3)) :
  Calls Try.prog 21 #[.agg #[.int .i64 a0_0, .slice A0_1 l0_1.length c0_1]] w fun e w' => ∃ v1_ : Value, e = .returned (.tuple #[.agg #[.int .i64 r1, v1_], .int .i64 r3]) ∧ Kd.R (Kd.int .i64) 2 w' w.heap.size (fun _ => True) v1_ r2 ∧ Below w.heap.size w w' := by
 have hu26 := Try.underlying26
 have HR0_1 := am_ hr0_1
 have HC0_1 := am_ hc0_1
 clear hr0_1 hc0_1
 have HB := am_ (Below.refl w.heap.size w)
 have H : ((impl_normal.f k a0_0 l0_1).bind fun bt208 => ((impl_isLaurent.f bt208.1 bt208.2).bind fun t212 => (if t212 = true then (some (bt208.1, bt208.2, 0)) else (some (0, ([] : List Int), 3))))) = some (r1, r2, r3) := h
 clear h
 replace H := Option.bind_eq_some_iff.mp H
 obtain ⟨⟨t208, t209⟩, A20, H⟩ := H
 replace H : ((impl_isLaurent.f t208 t209).bind fun t212 => (if t212 = true then (some (t208, t209, 0)) else (some (0, ([] : List Int), 3)))) = some (r1, r2, r3) := H
 have A2 := am_ A20
 clear A20
 replace H := Option.bind_eq_some_iff.mp H
 obtain ⟨t212, A30, H⟩ := H
 replace H : (if t212 = true then (some (t208, t209, 0)) else (some (0, ([] : List Int), 3))) = some (r1, r2, r3) := H
 have A3 := am_ A30
 clear A30
 by_cases c4 : t212 = true
 ·subst c4
  have H1 : (some (t208, t209, 0)) = some (r1, r2, r3) := by rw [if_pos rfl] at H; exact H
  clear H
  have H := H1
  clear H1
  simp only [Option.some.injEq, Prod.mk.injEq] at H
  obtain ⟨rfl, rfl, rfl⟩ := H
  go_enter Try.func21, Try.ntmps21
  go_wp2_with (first | ((with_reducible refine gate_dst (N := 1) rfl ?_); refine box_event ?hg (N := 1) ?hd (cs := #[.int .i64 a0_0, .slice A0_1 l0_1.length c0_1]) (t := 26) ?hr ?_; (case hd => rfl); (case hg => rfl); (case hr => first | (go_simp; done) | (go_simp; rfl)); intro gb206 hg w5 hbox hb; have n0_ := am_ (below_step (bb_ HB.out) hb); have n1_ := am_ (hbox); have n2_ := am_ ((by rw [hg]; exact (below_size (bb_ HB.out)) : w.heap.size ≤ gb206)); have n3_ := am_ ((by rw [hg]; exact (below_size (bb_ HB.out)) : w.heap.size ≤ gb206)); clear HB; revert n0_ n1_ n2_ n3_; intro HB BK206 GW206 GE206; clear hb hbox hg) | ((with_reducible refine gate_dst (N := 2) rfl ?_); refine box_event ?hg (N := 2) ?hd (cs := #[.int .i64 0, .slice none 0 0]) (t := 26) ?hr ?_; (case hd => rfl); (case hg => rfl); (case hr => first | (go_simp; done) | (go_simp; rfl)); intro gb207 hg w6 hbox hb; have n0_ := am_ (bw_ BK206 hb); have n1_ := am_ (below_step (bb_ HB.out) hb); have n2_ := am_ (hbox); have n3_ := am_ ((by rw [hg]; exact (below_size (bb_ HB.out)) : w.heap.size ≤ gb207)); have n4_ := am_ ((by rw [hg]; exact (below_size (bb_ HB.out)) : w.heap.size ≤ gb207)); have n5_ := am_ (nl_ BK206 hg); have n6_ := am_ (ng_ BK206 hg); clear BK206 HB; revert n0_ n1_ n2_ n3_ n4_ n5_ n6_; intro BK206 HB BK207 GW207 GE207 NB206_207 NB207_206; clear hb hbox hg; have hnb7 := NB206_207.out; have hnc7 := NB207_206.out; obtain ⟨hcz8_0, hcz8_1, hfz8_0, hfz8_1⟩ := bx2_ BK206) | ((with_reducible refine gate_callee (f := 36) rfl ?_); refine goesL_ (some 5) rfl rfl Try.func36 (by kernel_rfl) rfl #[.agg #[.int .i64 a0_0, .slice A0_1 l0_1.length c0_1]] rfl lm_ ?_; (with_reducible refine (impl_normal.calls k a0_0 (fun k_ => k_ < w.heap.size) _ _ l0_1 t208 t209 _ ?side1 A2.out).mono ?_); (case side1 => exact Kd.V_mk HC0_1.out (Kd.F_below (Kd.C_F (Kd.heap_int .i64) HR0_1.out) (bb_ HB.out))); rintro e w9 ⟨v210, rfl, ho0, hb⟩; refine ⟨_, rfl, ?_⟩; have n0_ := am_ (Kd.R_lower (Kd.R_mono (ok' := fun k_ => True) ho0 (fun _ hk_ => trivial)) (below_size (bb_ HB.out))); have n1_ := am_ (bw_ BK206 hb); have n2_ := am_ (bw_ BK207 hb); have n3_ := am_ (below_step (bb_ HB.out) hb); clear BK206 BK207 HB; revert n0_ n1_ n2_ n3_; intro HO211 BK206 BK207 HB; (try clear hb); (try clear hb2); (try clear hk); (try clear hi); (try clear ho0); obtain ⟨hcz10_0, hcz10_1, hfz10_0, hfz10_1⟩ := bx2_ BK206; obtain ⟨Ao11, co11, eo11⟩ := Kd.R_slice HO211.out; subst eo11) | ((with_reducible refine gate_callee (f := 34) rfl ?_); refine goesL_ (some 7) rfl rfl Try.func34 (by kernel_rfl) rfl #[.agg #[.int .i64 t208, .slice Ao11 t209.length co11]] rfl lm_ ?_; (with_reducible refine (impl_isLaurent.calls t208 _ _ t209 true _ ?side1 ?side2 A3.out).mono ?_); (case side1 => refine (Kd.R_reads' (e := 2) (base := w.heap.size) (ok := fun k_ => True) (n := t209.length) (c := co11) ?_).2.2; exact ((rm_ (Kd.R_far (p := ⟨gb206, 1, none⟩) (Kd.R_far (p := ⟨gb206, 0, none⟩) (Kd.R_types HO211.out BK206.out (by decide)) (fun _ hk => hk.2) (.int .i64 t208)) (fun _ hk => hk.2) (.slice Ao11 t209.length co11)) (fun _ h_ => h_.1)))); (case side2 => exact (Kd.R_reads' HO211.out).2.1); rintro e w12 ⟨rfl, hb⟩; refine ⟨_, rfl, ?_⟩; have n0_ := am_ (Kd.R_below ((rm_ (Kd.R_far (p := ⟨gb206, 1, none⟩) (Kd.R_far (p := ⟨gb206, 0, none⟩) (Kd.R_types HO211.out BK206.out (by decide)) (fun _ hk => hk.2) (.int .i64 t208)) (fun _ hk => hk.2) (.slice Ao11 t209.length co11)) (fun _ h_ => h_.1))) hb); have n1_ := am_ (blk_below (g := gb206) (o := .cells #[.int .i64 t208, .slice Ao11 t209.length co11] 26 (0, 0)) (by (with_reducible repeat (first | refine blk_drewN ?_ _ | refine blk_drew ?_ | refine blk_alloc ?_ _)); refine blk_put (cs := #[.int .i64 t208, .slice A0_1 l0_1.length c0_1]) ?_ 1 _ rfl; (with_reducible repeat (first | refine blk_drewN ?_ _ | refine blk_drew ?_ | refine blk_alloc ?_ _)); refine blk_put (cs := #[.int .i64 a0_0, .slice A0_1 l0_1.length c0_1]) ?_ 0 _ rfl; (with_reducible repeat (first | refine blk_drewN ?_ _ | refine blk_drew ?_ | refine blk_alloc ?_ _)); exact BK206.out) hb); have n2_ := am_ (bw_ BK207 hb); have n3_ := am_ (below_step (bb_ HB.out) hb); clear HO211 BK206 BK207 HB; revert n0_ n1_ n2_ n3_; intro HO211 BK206 BK207 HB; (try clear hb); (try clear hb2); (try clear hk); (try clear hi); obtain ⟨hcz13_0, hcz13_1, hfz13_0, hfz13_1⟩ := bx2_ BK206; obtain ⟨hcz14_0, hcz14_1, hfz14_0, hfz14_1⟩ := bx2_ BK207))
  refine bodyPost_ret (results_ct rfl _ _ gb207 26 #[.int .i64 t208, .slice Ao11 t209.length co11] (0, 0) _ rfl (by (with_reducible repeat (first | refine blk_drewN ?_ _ | refine blk_drew ?_ | refine blk_alloc ?_ _)); refine blk_put (cs := #[.int .i64 t208, .slice none 0 0]) ?_ 1 _ rfl; (with_reducible repeat (first | refine blk_drewN ?_ _ | refine blk_drew ?_ | refine blk_alloc ?_ _)); refine blk_put (cs := #[.int .i64 0, .slice none 0 0]) ?_ 0 _ rfl; (with_reducible repeat (first | refine blk_drewN ?_ _ | refine blk_drew ?_ | refine blk_alloc ?_ _)); exact BK207.out) Try.underlying26 rfl (by kernel_rfl)) rfl ?_
  exact ⟨_, by first | rfl | (simp [errW_none, errW_some] <;> rfl) | (simp [*, errW_none, errW_some] <;> rfl), rm_ (Kd.R_far (p := ⟨gb207, 1, none⟩) (Kd.R_far (p := ⟨gb207, 0, none⟩) (Kd.R_types HO211.out BK207.out (by decide)) (fun _ hk => hk.2) (.int .i64 t208)) (fun _ hk => hk.2) (.slice Ao11 t209.length co11)) (fun _ hk => trivial), bb_ HB.out⟩
 ·replace c4 := Bool.eq_false_iff.mpr c4
  subst c4
  have H1 : (some (0, ([] : List Int), 3)) = some (r1, r2, r3) := by rw [if_neg (show ¬ (false = true) by decide)] at H; exact H
  clear H
  have H := H1
  clear H1
  simp only [Option.some.injEq, Prod.mk.injEq] at H
  obtain ⟨rfl, rfl, rfl⟩ := H
  go_enter Try.func21, Try.ntmps21
  go_wp2_with (first | ((with_reducible refine gate_dst (N := 1) rfl ?_); refine box_event ?hg (N := 1) ?hd (cs := #[.int .i64 a0_0, .slice A0_1 l0_1.length c0_1]) (t := 26) ?hr ?_; (case hd => rfl); (case hg => rfl); (case hr => first | (go_simp; done) | (go_simp; rfl)); intro gb206 hg w15 hbox hb; have n0_ := am_ (below_step (bb_ HB.out) hb); have n1_ := am_ (hbox); have n2_ := am_ ((by rw [hg]; exact (below_size (bb_ HB.out)) : w.heap.size ≤ gb206)); have n3_ := am_ ((by rw [hg]; exact (below_size (bb_ HB.out)) : w.heap.size ≤ gb206)); clear HB; revert n0_ n1_ n2_ n3_; intro HB BK206 GW206 GE206; clear hb hbox hg) | ((with_reducible refine gate_dst (N := 2) rfl ?_); refine box_event ?hg (N := 2) ?hd (cs := #[.int .i64 0, .slice none 0 0]) (t := 26) ?hr ?_; (case hd => rfl); (case hg => rfl); (case hr => first | (go_simp; done) | (go_simp; rfl)); intro gb207 hg w16 hbox hb; have n0_ := am_ (bw_ BK206 hb); have n1_ := am_ (below_step (bb_ HB.out) hb); have n2_ := am_ (hbox); have n3_ := am_ ((by rw [hg]; exact (below_size (bb_ HB.out)) : w.heap.size ≤ gb207)); have n4_ := am_ ((by rw [hg]; exact (below_size (bb_ HB.out)) : w.heap.size ≤ gb207)); have n5_ := am_ (nl_ BK206 hg); have n6_ := am_ (ng_ BK206 hg); clear BK206 HB; revert n0_ n1_ n2_ n3_ n4_ n5_ n6_; intro BK206 HB BK207 GW207 GE207 NB206_207 NB207_206; clear hb hbox hg; have hnb17 := NB206_207.out; have hnc17 := NB207_206.out; obtain ⟨hcz18_0, hcz18_1, hfz18_0, hfz18_1⟩ := bx2_ BK206) | ((with_reducible refine gate_callee (f := 36) rfl ?_); refine goesL_ (some 5) rfl rfl Try.func36 (by kernel_rfl) rfl #[.agg #[.int .i64 a0_0, .slice A0_1 l0_1.length c0_1]] rfl lm_ ?_; (with_reducible refine (impl_normal.calls k a0_0 (fun k_ => k_ < w.heap.size) _ _ l0_1 t208 t209 _ ?side1 A2.out).mono ?_); (case side1 => exact Kd.V_mk HC0_1.out (Kd.F_below (Kd.C_F (Kd.heap_int .i64) HR0_1.out) (bb_ HB.out))); rintro e w19 ⟨v210, rfl, ho0, hb⟩; refine ⟨_, rfl, ?_⟩; have n0_ := am_ (Kd.R_lower (Kd.R_mono (ok' := fun k_ => True) ho0 (fun _ hk_ => trivial)) (below_size (bb_ HB.out))); have n1_ := am_ (bw_ BK206 hb); have n2_ := am_ (bw_ BK207 hb); have n3_ := am_ (below_step (bb_ HB.out) hb); clear BK206 BK207 HB; revert n0_ n1_ n2_ n3_; intro HO211 BK206 BK207 HB; (try clear hb); (try clear hb2); (try clear hk); (try clear hi); (try clear ho0); obtain ⟨hcz20_0, hcz20_1, hfz20_0, hfz20_1⟩ := bx2_ BK206; obtain ⟨Ao21, co21, eo21⟩ := Kd.R_slice HO211.out; subst eo21) | ((with_reducible refine gate_callee (f := 34) rfl ?_); refine goesL_ (some 7) rfl rfl Try.func34 (by kernel_rfl) rfl #[.agg #[.int .i64 t208, .slice Ao21 t209.length co21]] rfl lm_ ?_; (with_reducible refine (impl_isLaurent.calls t208 _ _ t209 false _ ?side1 ?side2 A3.out).mono ?_); (case side1 => refine (Kd.R_reads' (e := 2) (base := w.heap.size) (ok := fun k_ => True) (n := t209.length) (c := co21) ?_).2.2; exact ((rm_ (Kd.R_far (p := ⟨gb206, 1, none⟩) (Kd.R_far (p := ⟨gb206, 0, none⟩) (Kd.R_types HO211.out BK206.out (by decide)) (fun _ hk => hk.2) (.int .i64 t208)) (fun _ hk => hk.2) (.slice Ao21 t209.length co21)) (fun _ h_ => h_.1)))); (case side2 => exact (Kd.R_reads' HO211.out).2.1); rintro e w22 ⟨rfl, hb⟩; refine ⟨_, rfl, ?_⟩; have n0_ := am_ (Kd.R_below ((rm_ (Kd.R_far (p := ⟨gb206, 1, none⟩) (Kd.R_far (p := ⟨gb206, 0, none⟩) (Kd.R_types HO211.out BK206.out (by decide)) (fun _ hk => hk.2) (.int .i64 t208)) (fun _ hk => hk.2) (.slice Ao21 t209.length co21)) (fun _ h_ => h_.1))) hb); have n1_ := am_ (blk_below (g := gb206) (o := .cells #[.int .i64 t208, .slice Ao21 t209.length co21] 26 (0, 0)) (by (with_reducible repeat (first | refine blk_drewN ?_ _ | refine blk_drew ?_ | refine blk_alloc ?_ _)); refine blk_put (cs := #[.int .i64 t208, .slice A0_1 l0_1.length c0_1]) ?_ 1 _ rfl; (with_reducible repeat (first | refine blk_drewN ?_ _ | refine blk_drew ?_ | refine blk_alloc ?_ _)); refine blk_put (cs := #[.int .i64 a0_0, .slice A0_1 l0_1.length c0_1]) ?_ 0 _ rfl; (with_reducible repeat (first | refine blk_drewN ?_ _ | refine blk_drew ?_ | refine blk_alloc ?_ _)); exact BK206.out) hb); have n2_ := am_ (bw_ BK207 hb); have n3_ := am_ (below_step (bb_ HB.out) hb); clear HO211 BK206 BK207 HB; revert n0_ n1_ n2_ n3_; intro HO211 BK206 BK207 HB; (try clear hb); (try clear hb2); (try clear hk); (try clear hi); obtain ⟨hcz23_0, hcz23_1, hfz23_0, hfz23_1⟩ := bx2_ BK207))
  refine bodyPost_ret (results_ct rfl _ _ gb207 26 #[.int .i64 0, .slice none 0 0] (0, 0) _ rfl (by (with_reducible repeat (first | refine blk_drewN ?_ _ | refine blk_drew ?_ | refine blk_alloc ?_ _)); refine blk_put (cs := #[.int .i64 0, .slice none 0 0]) ?_ 1 _ rfl; (with_reducible repeat (first | refine blk_drewN ?_ _ | refine blk_drew ?_ | refine blk_alloc ?_ _)); refine blk_put (cs := #[.int .i64 0, .slice none 0 0]) ?_ 0 _ rfl; (with_reducible repeat (first | refine blk_drewN ?_ _ | refine blk_drew ?_ | refine blk_alloc ?_ _)); exact BK207.out) Try.underlying26 rfl (by kernel_rfl)) rfl ?_
  exact ⟨_, by first | rfl | (simp [errW_none, errW_some] <;> rfl) | (simp [*, errW_none, errW_some] <;> rfl), by first | exact Kd.R_nil _ _ _ _ _ | exact Kd.N_nil _ _ _ _ _ | exact Kd.V_nil _ _ _ _ _ | exact Kd.Q_nil _ _ _ _ _ | exact Kd.S_nil _ _ _ _ _, bb_ HB.out⟩

end Go.Proofs.Ytpkocglndlmhkaa.PFnExactAddLaurent
