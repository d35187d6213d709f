/- Written by this session's program out of the kit's print and this session's contracts. -/
import Derived.Test.YtifbfloifdkacaaVFnProductsPx0
import Derived.Test.YtifbfloifdkacaaVFnProductsPx3
namespace Go.Proofs.Ytifbfloifdkacaa.PFnProducts
open Go.RowKit Go.Proofs.YtifbfloifdkacaaW.PrintWords Go.Proofs.YtifbfloifdkacaaW.PrintLast Go.Proofs.YtifbfloifdkacaaW.PrintMore
attribute [local go_sem] max2_int min2_int max_two min_two max_three min_three max_four min_four   -- for this text's walks alone
set_option linter.unusedVariables false
set_option linter.unusedSimpArgs false

/-! ### spec_l01DrawSize: function 34 -/
def spec_l01DrawSize.l0 : Nat → Int → Int → List Int → Int → Int → Int → Int → List Int → Option (Int × Int × List Int × Int × Int)
 | 0, _, _, _, _, _, _, _, _ => none
 | k + 1, x8, x9, x1000, x1001, x1002, x152000, x152001, x152002 => if x9 < (x152002.length : Int) then ((spec_l01Next.f x1000 x1001 x1002 3).bind fun bt155 => (if bt155.1 > 0 then ((spec_l01Next.f x1000 bt155.2.1 bt155.2.2 (wrap64 ((wrap64 (2 * x8)) + 1))).bind fun bt158 => (if 0 ≤ x9 then (spec_l01DrawSize.l0 k x8 (wrap64 (x9 + 1)) x1000 bt158.2.1 bt158.2.2 x152000 x152001 (x152002.set (x9 : Int).toNat (wrap64 (bt158.1 - x8)))) else (none))) else (spec_l01DrawSize.l0 k x8 (wrap64 (x9 + 1)) x1000 bt155.2.1 bt155.2.2 x152000 x152001 x152002))) else (some (x152000, x152001, x152002, x1001, x1002))
def spec_l01DrawSize.f (k : Nat) (s0_0 : List Int) (s0_1 : Int) (s0_2 : Int) (a1 : Int) (a2 : Int) : Option (Int × Int × List Int × Int × Int) := (spec_l01Zero.f a1 a2).bind fun bt146 => ((spec_l01Next.f s0_0 s0_1 s0_2 6).bind fun bt152 => (spec_l01DrawSize.l0 k (wrap64 (1 + bt152.1)) 0 s0_0 bt152.2.1 bt152.2.2 bt146.1 bt146.2.1 bt146.2.2))
theorem spec_l01DrawSize.mono_l : ∀ k, (∀ y0 y1 y2 y3 y4 y5 y6 y7, LeO (spec_l01DrawSize.l0 k y0 y1 y2 y3 y4 y5 y6 y7) (spec_l01DrawSize.l0 (k + 1) y0 y1 y2 y3 y4 y5 y6 y7))
 | 0 => fun _ _ _ _ _ _ _ _ r h => by simp [spec_l01DrawSize.l0] at h
 | k + 1 => by
  have ih0 := spec_l01DrawSize.mono_l k
  ·intro y0 y1 y2 y3 y4 y5 y6 y7
   unfold spec_l01DrawSize.l0
   repeat' first
   | (with_reducible exact ih0 _ _ _ _ _ _ _ _)
   | (with_reducible exact LeO.refl _)
   | (with_reducible exact LeO.none _)
   | (with_reducible refine LeO.ite ?_ ?_)
   | (with_reducible refine LeO.bind ?_ (fun _ => ?_))
   | exact ih0 _ _ _ _ _ _ _ _
   | exact LeO.none _
   | refine LeO.ite ?_ ?_
   | refine LeO.bind ?_ (fun _ => ?_)
theorem spec_l01DrawSize.mono : ∀ a0 a1 a2 a3 a4 k, LeO (spec_l01DrawSize.f k a0 a1 a2 a3 a4) (spec_l01DrawSize.f (k + 1) a0 a1 a2 a3 a4) := by
 intro a0 a1 a2 a3 a4 k
 have ih0 := spec_l01DrawSize.mono_l k
 unfold spec_l01DrawSize.f
 repeat' first
   | (with_reducible exact ih0 _ _ _ _ _ _ _ _)
   | (with_reducible exact LeO.refl _)
   | (with_reducible exact LeO.none _)
   | (with_reducible refine LeO.ite ?_ ?_)
   | (with_reducible refine LeO.bind ?_ (fun _ => ?_))
   | exact ih0 _ _ _ _ _ _ _ _
   | exact LeO.none _
   | refine LeO.ite ?_ ?_
   | refine LeO.bind ?_ (fun _ => ?_)
def spec_l01DrawSize.T7 : Bool × List (List Nat × List Nat) := (true, [([], []), ([0], [0]), ([], []), ([], []), ([], []), ([4], [4]), ([5], [5]), ([3, 6], [3, 6]), ([], []), ([7, 8], [7, 8]), ([1, 2, 0, 1, 2, 3, 4, 5, 6, 7, 8, 9], [1, 2]), ([10, 9, 7, 0, 1, 2, 3, 4, 5, 6, 7, 8, 9], [9, 10])])
def spec_l01DrawSize.B7 : List Nat := [0, 1, 0, 0, 0, 16, 48, 120, 0, 504, 1023, 2047]
theorem spec_l01DrawSize.tab7 : rtab .any (opsOf Try.f34 7) = spec_l01DrawSize.T7 := by kernel_rfl
theorem spec_l01DrawSize.bits7 : waitsOk spec_l01DrawSize.T7.2 spec_l01DrawSize.B7 = true := by kernel_rfl
set_option maxHeartbeats 8000000 in
set_option maxRecDepth 100000 in
theorem spec_l01DrawSize.calls (k : Nat) (g : Nat) (s0_0 : List Int) (s0_1 : Int) (s0_2 : Int) (a1 : Int) (a2 : Int) (r1 : Int) (r2 : Int) (r3 : List Int) (r4 : Int) (r5 : Int) (w0 w : World) (hI : IsS75 w0 w g s0_0 s0_1 s0_2) (hB : Below w0.heap.size w0 w) (h : spec_l01DrawSize.f k s0_0 s0_1 s0_2 a1 a2 = some (r1, r2, r3, r4, r5)) :
  Calls Try.prog 34 #[.pointer (some ⟨g, 0, none⟩), .int .i64 a1, .int .i64 a2] w fun e w' => ∃ v2_ : Value, e = .returned (.agg #[.int .i64 r1, .int .i64 r2, v2_]) ∧ Kd.R (Kd.int .i64) 2 w' w.heap.size (fun _ => True) v2_ r3 ∧ IsS75 w0 w' g s0_0 r4 r5 ∧ Below w0.heap.size w0 w' ∧ KeepBut w w' g none := by
 have hu28 := Try.underlying28
 have HI0 := am_ hI
 have HK := am_ (KeepBut.refl w g none)
 have HL := am_ hB.size
 clear hI
 have HW0 := am_ hB.size
 have HB := am_ hB
 clear hB
 have H : ((spec_l01Zero.f a1 a2).bind fun bt146 => ((spec_l01Next.f s0_0 s0_1 s0_2 6).bind fun bt152 => (spec_l01DrawSize.l0 k (wrap64 (1 + bt152.1)) 0 s0_0 bt152.2.1 bt152.2.2 bt146.1 bt146.2.1 bt146.2.2))) = some (r1, r2, r3, r4, r5) := h
 clear h
 replace H := Option.bind_eq_some_iff.mp H
 obtain ⟨⟨t146, t147, t148⟩, A40, H⟩ := H
 replace H : ((spec_l01Next.f s0_0 s0_1 s0_2 6).bind fun bt152 => (spec_l01DrawSize.l0 k (wrap64 (1 + bt152.1)) 0 s0_0 bt152.2.1 bt152.2.2 t146 t147 t148)) = some (r1, r2, r3, r4, r5) := H
 have A4 := am_ A40
 clear A40
 replace H := Option.bind_eq_some_iff.mp H
 obtain ⟨⟨t152, t153, t154⟩, A50, H⟩ := H
 replace H : (spec_l01DrawSize.l0 k (wrap64 (1 + t152)) 0 s0_0 t153 t154 t146 t147 t148) = some (r1, r2, r3, r4, r5) := H
 have A5 := am_ A50
 clear A50
 have H' := am_ H
 clear H
 go_enter Try.func34, Try.ntmps34
 go_wp2_with (first | ((with_reducible refine gate_dst (N := 6) rfl ?_); refine box_event ?hg (N := 6) ?hd (cs := #[.int .i64 0, .int .i64 0, .slice none 0 0]) (t := 28) ?hr ?_; (case hd => rfl); (case hg => rfl); (case hr => first | (go_simp; done) | (go_simp; rfl)); intro gb145 hg w6 hbox hb; have n0_ := am_ (IsS75.below (is75_ HI0) hb); have n1_ := am_ (KeepBut.trans (kb_ HK.out) (KeepBut.of_below hb g none) (.inl rfl)); have n2_ := am_ (below_step (bi75_ HB.out) hb); have n3_ := am_ (hbox); have n4_ := am_ ((by rw [hg]; exact (keep_size (w := w) (g := g) (row := none) (kb_ HK.out)) : w.heap.size ≤ gb145)); have n5_ := am_ ((Nat.le_trans HW0.out (by rw [hg]; exact (keep_size (w := w) (g := g) (row := none) (kb_ HK.out)) : w.heap.size ≤ gb145) : w0.heap.size ≤ gb145)); have n6_ := am_ ((by rw [hg]; exact Nat.ne_of_lt (IsS75.lt (show IsS75 w0 _ g s0_0 s0_1 s0_2 from is75_ HI0)) : g ≠ gb145)); have n7_ := am_ ((by rw [hg]; exact Nat.ne_of_gt (IsS75.lt (show IsS75 w0 _ g s0_0 s0_1 s0_2 from is75_ HI0)) : gb145 ≠ g)); clear HI0 HK HB; revert n0_ n1_ n2_ n3_ n4_ n5_ n6_ n7_; intro HI0 HK HB BK145 GW145 GE145 NB0_145 NB145_0; clear hb hbox hg) | ((with_reducible refine gate_callee (f := 58) rfl ?_); refine goesL_ (some 12) rfl rfl Try.func58 (by kernel_rfl) rfl #[.int .i64 a1, .int .i64 a2] rfl lm_ ?_; (with_reducible refine (spec_l01Zero.calls a1 a2 t146 t147 t148 _ A4.out).mono ?_); rintro e w7 ⟨v149, rfl, ho0, hb⟩; refine ⟨_, rfl, ?_⟩; have n0_ := am_ (Kd.R_lower ho0 (keep_size (w := w) (g := g) (row := none) (kb_ HK.out))); have n1_ := am_ (IsS75.below (is75_ HI0) hb); have n2_ := am_ (bw_ BK145 hb); have n3_ := am_ (KeepBut.trans (kb_ HK.out) (KeepBut.of_below hb g none) (.inl rfl)); have n4_ := am_ (below_step (bi75_ HB.out) hb); clear HI0 BK145 HK HB; revert n0_ n1_ n2_ n3_ n4_; intro HO150 HI0 BK145 HK HB; (try clear hb); (try clear hb2); (try clear hk); (try clear hi); (try clear ho0)) | ((with_reducible refine gate_dst (N := 7) rfl ?_); refine box_event ?hg (N := 7) ?hd (cs := #[.int .i64 0, .int .i64 0, .slice none 0 0]) (t := 28) ?hr ?_; (case hd => rfl); (case hg => rfl); (case hr => first | (go_simp; done) | (go_simp; rfl)); intro gb151 hg w8 hbox hb; have n0_ := am_ (Kd.R_below (rk_ HO150.out) hb); have n1_ := am_ (IsS75.below (is75_ HI0) hb); have n2_ := am_ (bw_ BK145 hb); have n3_ := am_ (KeepBut.trans (kb_ HK.out) (KeepBut.of_below hb g none) (.inl rfl)); have n4_ := am_ (below_step (bi75_ HB.out) hb); have n5_ := am_ (hbox); have n6_ := am_ ((by rw [hg]; exact (keep_size (w := w) (g := g) (row := none) (kb_ HK.out)) : w.heap.size ≤ gb151)); have n7_ := am_ ((Nat.le_trans HW0.out (by rw [hg]; exact (keep_size (w := w) (g := g) (row := none) (kb_ HK.out)) : w.heap.size ≤ gb151) : w0.heap.size ≤ gb151)); have n8_ := am_ (nl_ BK145 hg); have n9_ := am_ (ng_ BK145 hg); have n10_ := am_ ((by rw [hg]; exact Nat.ne_of_lt (IsS75.lt (show IsS75 w0 _ g s0_0 s0_1 s0_2 from is75_ HI0)) : g ≠ gb151)); have n11_ := am_ ((by rw [hg]; exact Nat.ne_of_gt (IsS75.lt (show IsS75 w0 _ g s0_0 s0_1 s0_2 from is75_ HI0)) : gb151 ≠ g)); clear HO150 HI0 BK145 HK HB; revert n0_ n1_ n2_ n3_ n4_ n5_ n6_ n7_ n8_ n9_ n10_ n11_; intro HO150 HI0 BK145 HK HB BK151 GW151 GE151 NB145_151 NB151_145 NB0_151 NB151_0; clear hb hbox hg; have hnb9 := NB151_145.out; have hnc9 := NB145_151.out; have hnb10 := NB151_0.out; have hnc10 := NB0_151.out; have hcz11_0 : w8.cell? ⟨gb151, 0, none⟩ = some (.int .i64 0) := bc_ BK151 0; have hcz11_1 : w8.cell? ⟨gb151, 1, none⟩ = some (.int .i64 0) := bc_ BK151 1; have hcz11_2 : w8.cell? ⟨gb151, 2, none⟩ = some (.slice none 0 0) := bc_ BK151 2; have hfz11_0 := blk_frozen BK151.out 0; have hfz11_1 := blk_frozen BK151.out 1; have hfz11_2 := blk_frozen BK151.out 2; obtain ⟨Ao12, co12, eo12⟩ := Kd.R_slice HO150.out; subst eo12) | ((with_reducible refine gate_callee (f := 35) rfl ?_); refine goesL_ (some 14) rfl rfl Try.func35 (by kernel_rfl) rfl #[.pointer (some ⟨g, 0, none⟩), .int .i64 6] rfl lm_ ?_; (with_reducible refine (spec_l01Next.calls g s0_0 s0_1 s0_2 6 t152 t153 t154 w0 _ ?side1 ?side2 A5.out).mono ?_); (case side1 => exact is75_ HI0); (case side2 => exact bi75_ HB.out); rintro e w13 ⟨rfl, hi, hb, hk⟩; refine ⟨_, rfl, ?_⟩; have n0_ := am_ (KeepBut.blk hk (g' := gb145) (o := .cells #[.int .i64 0, .int .i64 0, .slice none 0 0] 28 (0, 0)) (bk_ BK145.out) NB145_0.out (by simp)); have n1_ := am_ (Kd.R_mono (Kd.R_keep (IsS75.apart (show IsS75 w0 _ g s0_0 s0_1 s0_2 from is75_ HI0) ((rm_ (Kd.R_far (p := ⟨gb151, 2, none⟩) (Kd.R_far (p := ⟨gb151, 1, none⟩) (Kd.R_far (p := ⟨gb151, 0, none⟩) (Kd.R_types HO150.out BK151.out (by decide)) (fun _ hk => hk.2) (.int .i64 t146)) (fun _ hk => hk.2) (.int .i64 t147)) (fun _ hk => hk.2) (.slice Ao12 t148.length co12)) (fun _ h_ => h_.1))) (by decide)) hk (fun _ h => h.2)) (fun _ h => h.1)); have n2_ := am_ (KeepBut.blk hk (g' := gb151) (o := .cells #[.int .i64 t146, .int .i64 t147, .slice Ao12 t148.length co12] 28 (0, 0)) (by (with_reducible repeat (first | refine blk_drewN ?_ _ | refine blk_drew ?_ | refine blk_alloc ?_ _)); refine blk_put (cs := #[.int .i64 t146, .int .i64 t147, .slice none 0 0]) ?_ 2 _ rfl; (with_reducible repeat (first | refine blk_drewN ?_ _ | refine blk_drew ?_ | refine blk_alloc ?_ _)); refine blk_put (cs := #[.int .i64 t146, .int .i64 0, .slice none 0 0]) ?_ 1 _ rfl; (with_reducible repeat (first | refine blk_drewN ?_ _ | refine blk_drew ?_ | refine blk_alloc ?_ _)); refine blk_put (cs := #[.int .i64 0, .int .i64 0, .slice none 0 0]) ?_ 0 _ rfl; (with_reducible repeat (first | refine blk_drewN ?_ _ | refine blk_drew ?_ | refine blk_alloc ?_ _)); exact BK151.out) NB151_0.out (by simp)); have n3_ := am_ (KeepBut.trans (kb_ HK.out) hk (.inl rfl)); have n4_ := am_ (hb); have n5_ := am_ (hi); clear BK145 HO150 BK151 HK HB HI0; revert n0_ n1_ n2_ n3_ n4_ n5_; intro BK145 HO150 BK151 HK HB HI0; (try clear hb); (try clear hb2); (try clear hk); (try clear hi)))
 go_loopg [9] k (fun kq v9 w' => ∃ (x9_1 : Int) (x1001_1 : Int) (x1002_1 : Int) (x152002_1 : List Int) (u152002 : Value), v9 = .int .i64 x9_1 ∧ Aside0 (spec_l01DrawSize.l0 kq (wrap64 (1 + t152)) x9_1 s0_0 x1001_1 x1002_1 t146 t147 x152002_1 = some (r1, r2, r3, r4, r5)) ∧ Aside0 (kq ≤ k) ∧ Aside0 (Kd.R (Kd.int .i64) 2 w' w.heap.size (fun _ => True) u152002 x152002_1) ∧ Aside0 (w'.heap[gb145]? = some (.cells #[.int .i64 0, .int .i64 0, (.slice none 0 0)] 28 (0, 0))) ∧ Aside0 (w'.heap[gb151]? = some (.cells #[.int .i64 t146, .int .i64 t147, u152002] 28 (0, 0))) ∧ Aside0 (IsS75 w0 w' g s0_0 x1001_1 x1002_1) ∧ Aside0 (KeepBut w w' g none) ∧ Aside0 (Below w0.heap.size w0 w'))
 case atStart => exact ⟨(0), (t153), (t154), (t148), (.slice Ao12 t148.length co12), (by first | rfl | (simp; done) | (simp [*]; done)), H', ⟨Nat.le_refl _⟩, ⟨rk_ HO150.out⟩, ⟨bk_ BK145.out⟩, ⟨bk_ BK151.out⟩, ⟨is75_ HI0⟩, ⟨kb_ HK.out⟩, ⟨bi75_ HB.out⟩⟩
 case round =>
  clear H'
  try clear c1
  try clear p2
  try clear c3
  try clear c5
  try clear p6
  try clear c9
  try clear c10
  try clear hcz11_0
  try clear hcz11_1
  try clear hcz11_2
  try clear hfz11_0
  try clear hfz11_1
  try clear hfz11_2
  obtain ⟨x9_1, x1001_1, x1002_1, x152002_1, u152002, rfl, HA, HK1, HO_152002, BK145, BK151, HI0, HK, HB⟩ := hrel
  cases gk with
  | zero => exact absurd HA.out (by simp [spec_l01DrawSize.l0])
  | succ k1 =>
   have H := HA.out
   clear HA
   simp only [spec_l01DrawSize.l0] at H
   by_cases c14 : x9_1 < (x152002_1.length : Int)
   ·rw [if_pos c14] at H
    have c14b0 : decide (x9_1 < (x152002_1.length : Int)) = true := decide_eq_true c14
    clear c14
    replace H := Option.bind_eq_some_iff.mp H
    obtain ⟨⟨t155, t156, t157⟩, A150, H⟩ := H
    replace H : (if t155 > 0 then ((spec_l01Next.f s0_0 t156 t157 (wrap64 ((wrap64 (2 * (wrap64 (1 + t152)))) + 1))).bind fun bt158 => (if 0 ≤ x9_1 then (spec_l01DrawSize.l0 k1 (wrap64 (1 + t152)) (wrap64 (x9_1 + 1)) s0_0 bt158.2.1 bt158.2.2 t146 t147 (x152002_1.set (x9_1 : Int).toNat (wrap64 (bt158.1 - (wrap64 (1 + t152)))))) else (none))) else (spec_l01DrawSize.l0 k1 (wrap64 (1 + t152)) (wrap64 (x9_1 + 1)) s0_0 t156 t157 t146 t147 x152002_1)) = some (r1, r2, r3, r4, r5) := H
    have A15 := am_ A150
    clear A150
    by_cases c16 : t155 > 0
    ·rw [if_pos c16] at H
     have c16b0 : decide (0 < t155) = true := decide_eq_true c16
     clear c16
     replace H := Option.bind_eq_some_iff.mp H
     obtain ⟨⟨t158, t159, t160⟩, A170, H⟩ := H
     replace H : (if 0 ≤ x9_1 then (spec_l01DrawSize.l0 k1 (wrap64 (1 + t152)) (wrap64 (x9_1 + 1)) s0_0 t159 t160 t146 t147 (x152002_1.set (x9_1 : Int).toNat (wrap64 (t158 - (wrap64 (1 + t152)))))) else (none)) = some (r1, r2, r3, r4, r5) := H
     have A17 := am_ A170
     clear A170
     by_cases c18 : 0 ≤ x9_1
     ·rw [if_pos c18] at H
      have c18b0 : decide (0 ≤ x9_1) = true := decide_eq_true c18
      clear c18
      obtain ⟨y161, hy161⟩ : ∃ y_ : List Int, y_ = (x152002_1.set (x9_1 : Int).toNat (wrap64 (t158 - (wrap64 (1 + t152))))) := ⟨_, rfl⟩
      replace H : (spec_l01DrawSize.l0 k1 (wrap64 (1 + t152)) (wrap64 (x9_1 + 1)) s0_0 t159 t160 t146 t147 y161) = some (r1, r2, r3, r4, r5) := by first | (rw [hy161]; with_reducible exact H) | (have H2_ := (Option.bind_some _ _).symm.trans H; rw [hy161]; with_reducible exact H2_) | (have H2_ := (Option.bind_some _ _).symm.trans H; with_reducible exact H2_) | with_reducible exact H | (rw [hy161]; exact H) | exact H
      have Ny161 := am_ hy161
      clear hy161
      have H' := am_ H
      clear H
      have hnb20 := NB151_145.out
      have hnc20 := NB145_151.out
      have hnb21 := NB151_0.out
      have hnc21 := NB0_151.out
      have hcz22_0 : wr.cell? ⟨gb151, 0, none⟩ = some (.int .i64 t146) := bc_ BK151 0
      have hcz22_1 : wr.cell? ⟨gb151, 1, none⟩ = some (.int .i64 t147) := bc_ BK151 1
      have hcz22_2 : wr.cell? ⟨gb151, 2, none⟩ = some (u152002) := bc_ BK151 2
      have hfz22_0 := blk_frozen BK151.out 0
      have hfz22_1 := blk_frozen BK151.out 1
      have hfz22_2 := blk_frozen BK151.out 2
      obtain ⟨Ao23, co23, eo23⟩ := Kd.R_slice HO_152002.out
      subst eo23
      try go_wp2_with (first | ((with_reducible refine gate_callee (f := 35) rfl ?_); refine goesL_ (some 24) rfl rfl Try.func35 (by kernel_rfl) rfl #[.pointer (some ⟨g, 0, none⟩), .int .i64 3] rfl lm_ ?_; (with_reducible refine (spec_l01Next.calls g s0_0 x1001_1 x1002_1 3 t155 t156 t157 w0 _ ?side1 ?side2 A15.out).mono ?_); (case side1 => exact is75_ HI0); (case side2 => exact bi75_ HB.out); rintro e w24 ⟨rfl, hi, hb, hk⟩; refine ⟨_, rfl, ?_⟩; have n0_ := am_ (Kd.R_mono (Kd.R_keep (IsS75.apart (show IsS75 w0 _ g s0_0 x1001_1 x1002_1 from is75_ HI0) (rk_ HO_152002.out) (by decide)) hk (fun _ h => h.2)) (fun _ h => h.1)); have n1_ := am_ (KeepBut.blk hk (g' := gb145) (o := .cells #[.int .i64 0, .int .i64 0, .slice none 0 0] 28 (0, 0)) (bk_ BK145.out) NB145_0.out (by simp)); have n2_ := am_ (KeepBut.blk hk (g' := gb151) (o := .cells #[.int .i64 t146, .int .i64 t147, .slice Ao23 x152002_1.length co23] 28 (0, 0)) (bk_ BK151.out) NB151_0.out (by simp)); have n3_ := am_ (KeepBut.trans (kb_ HK.out) hk (.inl rfl)); have n4_ := am_ (hb); have n5_ := am_ (hi); clear HO_152002 BK145 BK151 HK HB HI0; revert n0_ n1_ n2_ n3_ n4_ n5_; intro HO_152002 BK145 BK151 HK HB HI0; (try clear hb); (try clear hb2); (try clear hk); (try clear hi)))
      have n0_ := am_ (Kd.R_drew HO_152002.out)
      have n1_ := am_ (blk_drew BK145.out)
      have n2_ := am_ (blk_drew BK151.out)
      have n3_ := am_ (IsS75.drew HI0.out)
      have n4_ := am_ (keep_drew HK.out)
      have n5_ := am_ (below_drew1 HB.out)
      clear HO_152002 BK145 BK151 HI0 HK HB; revert n0_ n1_ n2_ n3_ n4_ n5_; intro HO_152002 BK145 BK151 HI0 HK HB
      refine start_ (n := 12) (S := fun w' => w'.cell? ⟨gb151, 0, none⟩ = some (.int .i64 t146) ∧ w'.cell? ⟨gb151, 1, none⟩ = some (.int .i64 t147) ∧ w'.cell? ⟨gb151, 2, none⟩ = some (.slice Ao23 x152002_1.length co23)) (ds := [11]) #[false, false, false, false, false, false, false, false, false, false, false, false] (by kernel_rfl) rfl rfl ⟨bc_ BK151 0, bc_ BK151 1, bc_ BK151 2⟩ (fun hHeld => ?_); refine with_tabW spec_l01DrawSize.tab7 spec_l01DrawSize.bits7 (fun HT_ HW_ => ?_)
      generalize w24.drew = w25 at HO_152002 BK145 BK151 HI0 HK HB hHeld ⊢
      refine pure_ (i := 0) (N := some 26) (v := ?_) (a' := ?_) #[true, false, false, false, false, false, false, false, false, false, false, false] rfl rfl (any_of HT_.out (by kernel_rfl)) (fun _ _ _ h => h) (Or.inl ⟨by rfl, ?_⟩) ?_ ?_
      rotate_left
      ·intro w'
       go_simp
       with_reducible rfl
      rotate_left
      ·simp only [Act.put, List.setIfInBounds_toArray, List.set_cons_zero, List.set_cons_succ, i64_w, i32_w]
       rfl
      refine pure_ (i := 2) (N := some 28) (v := ?_) (a' := ?_) #[true, false, true, false, false, false, false, false, false, false, false, false] rfl rfl (any_of HT_.out (by kernel_rfl)) (fun _ _ _ h => h) (Or.inl ⟨by rfl, ?_⟩) ?_ ?_
      rotate_left
      ·intro w'
       go_simp
       with_reducible rfl
      rotate_left
      ·simp only [Act.put, List.setIfInBounds_toArray, List.set_cons_zero, List.set_cons_succ, i64_w, i32_w]
       rfl
      refine pure_ (i := 3) (N := some 29) (v := ?_) (a' := ?_) #[true, false, true, true, false, false, false, false, false, false, false, false] rfl rfl (any_of HT_.out (by kernel_rfl)) (fun _ _ _ h => h) (Or.inl ⟨by rfl, ?_⟩) ?_ ?_
      rotate_left
      ·intro w'
       go_simp
       with_reducible rfl
      rotate_left
      ·simp only [Act.put, List.setIfInBounds_toArray, List.set_cons_zero, List.set_cons_succ, i64_w, i32_w]
       rfl
      refine pure_ (i := 4) (N := some 30) (v := ?_) (a' := ?_) #[true, false, true, true, true, false, false, false, false, false, false, false] rfl rfl (any_of HT_.out (by kernel_rfl)) (fun _ _ _ h => h) (Or.inl ⟨by rfl, ?_⟩) ?_ ?_
      rotate_left
      ·intro w'
       go_simp
       with_reducible rfl
      rotate_left
      ·simp only [Act.put, List.setIfInBounds_toArray, List.set_cons_zero, List.set_cons_succ, i64_w, i32_w]
       rfl
      refine pure_ (i := 5) (N := some 31) (v := ?_) (a' := ?_) #[true, false, true, true, true, true, false, false, false, false, false, false] rfl rfl (any_of HT_.out (by kernel_rfl)) (fun _ _ _ h => h) (Or.inl ⟨by rfl, ?_⟩) ?_ ?_
      rotate_left
      ·intro w'
       go_simp
       with_reducible rfl
      rotate_left
      ·simp only [Act.put, List.setIfInBounds_toArray, List.set_cons_zero, List.set_cons_succ, i64_w, i32_w]
       rfl
      refine pure_ (i := 6) (N := some 32) (v := ?_) (a' := ?_) #[true, false, true, true, true, true, true, false, false, false, false, false] rfl rfl (any_of HT_.out (by kernel_rfl)) (fun _ _ _ h => h) (Or.inl ⟨by rfl, ?_⟩) ?_ ?_
      rotate_left
      ·intro w'
       go_simp
       with_reducible rfl
      rotate_left
      ·simp only [Act.put, List.setIfInBounds_toArray, List.set_cons_zero, List.set_cons_succ, i64_w, i32_w]
       rfl
      refine pure_ (i := 8) (N := some 34) (v := ?_) (a' := ?_) #[true, false, true, true, true, true, true, false, true, false, false, false] rfl rfl (any_of HT_.out (by kernel_rfl)) (fun _ _ _ h => h) (Or.inl ⟨by rfl, ?_⟩) ?_ ?_
      rotate_left
      ·intro w'
       go_simp
       with_reducible rfl
      rotate_left
      ·simp only [Act.put, List.setIfInBounds_toArray, List.set_cons_zero, List.set_cons_succ, i64_w, i32_w]
       rfl
      refine take_ (i := 1) (N := some 27) (v := ?_) (a' := ?_) #[true, true, true, true, true, true, true, false, true, false, false, false] rfl rfl (take_ofW HT_.out HW_.out (by kernel_rfl)) (fun _ _ _ h => h) (Or.inl ⟨by rfl, ?_⟩) hHeld ?_ ?_
      rotate_left
      ·rintro w' ⟨s0, s1, s2⟩
       go_simp
       with_reducible rfl
      rotate_left
      ·simp only [Act.put, List.setIfInBounds_toArray, List.set_cons_zero, List.set_cons_succ, i64_w, i32_w]
       rfl
      refine one_ (i := 7) (N := some 33) #[true, true, true, true, true, true, true, true, true, false, false, false] rfl rfl (one_of HT_.out (by kernel_rfl)) (by decide) (fun K hK => ?_)
      refine goes_ Try.func35 (by kernel_rfl) rfl #[.pointer (some ⟨g, 0, none⟩), .int .i64 (wrap64 ((wrap64 (2 * (wrap64 (1 + t152)))) + 1))] (by rfl) rfl rfl lm_ ?_
      with_reducible refine (spec_l01Next.calls g s0_0 t156 t157 (wrap64 ((wrap64 (2 * (wrap64 (1 + t152)))) + 1)) t158 t159 t160 w0 _ ?side1 ?side2 A17.out).mono ?_
      (case side1 => exact is75_ HI0)
      (case side2 => exact bi75_ HB.out)
      rintro e w26 ⟨rfl, hi, hb, hk⟩
      refine ⟨_, rfl, ?_⟩
      have n0_ := am_ (Kd.R_mono (Kd.R_keep (IsS75.apart (show IsS75 w0 _ g s0_0 t156 t157 from is75_ HI0) (rk_ HO_152002.out) (by decide)) hk (fun _ h => h.2)) (fun _ h => h.1))
      have n1_ := am_ (KeepBut.blk hk (g' := gb145) (o := .cells #[.int .i64 0, .int .i64 0, .slice none 0 0] 28 (0, 0)) (bk_ BK145.out) NB145_0.out (by simp))
      have n2_ := am_ (KeepBut.blk hk (g' := gb151) (o := .cells #[.int .i64 t146, .int .i64 t147, .slice Ao23 x152002_1.length co23] 28 (0, 0)) (bk_ BK151.out) NB151_0.out (by simp))
      have n3_ := am_ (KeepBut.trans (kb_ HK.out) hk (.inl rfl))
      have n4_ := am_ (hb)
      have n5_ := am_ (hi)
      clear HO_152002 BK145 BK151 HK HB HI0; revert n0_ n1_ n2_ n3_ n4_ n5_; intro HO_152002 BK145 BK151 HK HB HI0
      (try clear hb)
      (try clear hb2)
      (try clear hk)
      (try clear hi)
      have p19 : 0 ≤ (x9_1 : Int) := of_decide_eq_true (by first | (with_reducible assumption) | assumption)
      have q19 : (x9_1 : Int) < ((x152002_1.length : Int) : Int) := of_decide_eq_true (by first | (with_reducible assumption) | assumption)
      obtain ⟨go19, co19, eo19, gb19, gl19, cl19, HG19⟩ := Kd.R_form HO_152002.out (by omega)
      (first | cases eo19 | (injection eo19 with ea_ en_ ec_; (first | subst ea_ | (injection ea_ with ea_; subst ea_)); subst ec_; clear en_))
      have GB19 := am_ gb19
      have GG19 := am_ HG19
      clear gb19 gl19 HG19
      obtain ⟨hx19_0, hf19_0⟩ := Kd.R_celln 0 HO_152002.out (x9_1 : Int) p19 q19
      replace p19 := eq_true p19
      replace q19 := eq_true q19
      have HN0_go19 := am_ (show g ≠ go19 from by have h_ := IsS75.own_ne HI0.out HO_152002.out (by decide); intro e_; exact h_ (by rw [e_]; rfl))
      have HP27 := Kd.R_putn HO_152002.out (x9_1 : Int) (wrap64 (t158 - (wrap64 (1 + t152))))
      rw [← Ny161.out] at HP27
      have HQ27 := am_ HP27
      clear HP27
      refine hK.out _ _ ⟨bc_ BK151 0, bc_ BK151 1, bc_ BK151 2⟩ (fun hHeld => ?_)
      clear hK K
      refine norm_ (a' := ?_) ?_ ?_
      rotate_left
      ·show Act.put _ (some 33) _ = _
       simp only [Act.put, List.setIfInBounds_toArray, List.set_cons_zero, List.set_cons_succ, i64_w, i32_w]
       rfl
      refine pure_ (i := 9) (N := some 35) (v := ?_) (a' := ?_) #[true, true, true, true, true, true, true, true, true, true, false, false] rfl rfl (any_of HT_.out (by kernel_rfl)) (fun _ _ _ h => h) (Or.inl ⟨by rfl, ?_⟩) ?_ ?_
      rotate_left
      ·intro w'
       go_simp
       with_reducible rfl
      rotate_left
      ·simp only [Act.put, List.setIfInBounds_toArray, List.set_cons_zero, List.set_cons_succ, i64_w, i32_w]
       rfl
      refine pure_ (i := 10) (N := some 36) (v := ?_) (a' := ?_) #[true, true, true, true, true, true, true, true, true, true, true, false] rfl rfl (any_of HT_.out (by kernel_rfl)) (fun _ _ _ h => h) (Or.inl ⟨by rfl, ?_⟩) ?_ ?_
      rotate_left
      ·intro w'
       go_simp
       with_reducible rfl
      rotate_left
      ·simp only [Act.put, List.setIfInBounds_toArray, List.set_cons_zero, List.set_cons_succ, i64_w, i32_w]
       rfl
      refine last_ (i := 11) (N := none) #[true, true, true, true, true, true, true, true, true, true, true, true] rfl rfl (one_of HT_.out (by kernel_rfl)) (by decide) (fun K hK => ?_)
      refine skip_ (w1 := ?_) (by rfl) rfl ?_ ?_
      rotate_left
      ·go_simp
       rfl
      refine hK.out _ _ ?_
      clear hK K
      refine done_ (done_of HT_.out (by kernel_rfl)) ?_
      try go_wp2
      go_roundg k1
      case measure => have := HK1.out; omega
      case rel => exact ⟨(wrap64 (x9_1 + 1)), (t159), (t160), (y161), (.slice (some ⟨go19, 0, none⟩) x152002_1.length co23), (by first | rfl | (simp; done) | (simp [*]; done)), H', ⟨by have := HK1.out; omega⟩, ⟨rk_ HQ27.out⟩, ⟨by (with_reducible repeat (first | refine blk_drewN ?_ _ | refine blk_drew ?_ | refine blk_alloc ?_ _)); refine blk_far ?_ (by have h_ := Kd.R_ne HO_152002.out BK145.out (by decide); intro e_; exact h_ (by rw [e_]; rfl)) _; (with_reducible repeat (first | refine blk_drewN ?_ _ | refine blk_drew ?_ | refine blk_alloc ?_ _)); exact BK145.out⟩, ⟨by (with_reducible repeat (first | refine blk_drewN ?_ _ | refine blk_drew ?_ | refine blk_alloc ?_ _)); refine blk_far ?_ (by have h_ := Kd.R_ne HO_152002.out BK151.out (by decide); intro e_; exact h_ (by rw [e_]; rfl)) _; (with_reducible repeat (first | refine blk_drewN ?_ _ | refine blk_drew ?_ | refine blk_alloc ?_ _)); exact BK151.out⟩, ⟨by repeat (first | (with_reducible first | exact HI0.out | apply IsS75.alloc | apply IsS75.drewN | apply IsS75.drew | apply IsS75.set_1 | apply IsS75.set_2 | refine IsS75.far ?_ HN0_go19.out _ | refine IsS75.far ?_ NB0_145.out _ | refine IsS75.far ?_ NB0_151.out _) | exact HI0.out)⟩, ⟨by repeat (first | (with_reducible first | exact HK.out | apply KeepBut.set_ | apply keep_drewN | apply keep_drew | apply keep_alloc | refine keep_far ?_ GB19.out _ | refine keep_far ?_ GW145.out _ | refine keep_far ?_ GW151.out _) | exact HK.out)⟩, ⟨by repeat (first | (with_reducible first | exact HB.out | apply below_alloc | apply pw_below_drewN | apply below_drew1 | refine below_set ?_ (Nat.le_trans HL.out GB19.out) | refine below_set ?_ (IsS75.ge HI0.out) | refine below_set ?_ GE145.out | refine below_set ?_ GE151.out) | exact HB.out)⟩⟩
     ·rw [if_neg c18] at H
      exact absurd H (by simp)
    ·rw [if_neg c16] at H
     have c16b0 : decide (0 < t155) = false := decide_eq_false c16
     clear c16
     have H' := am_ H
     clear H
     have hnb28 := NB151_145.out
     have hnc28 := NB145_151.out
     have hnb29 := NB151_0.out
     have hnc29 := NB0_151.out
     have hcz30_0 : wr.cell? ⟨gb151, 0, none⟩ = some (.int .i64 t146) := bc_ BK151 0
     have hcz30_1 : wr.cell? ⟨gb151, 1, none⟩ = some (.int .i64 t147) := bc_ BK151 1
     have hcz30_2 : wr.cell? ⟨gb151, 2, none⟩ = some (u152002) := bc_ BK151 2
     have hfz30_0 := blk_frozen BK151.out 0
     have hfz30_1 := blk_frozen BK151.out 1
     have hfz30_2 := blk_frozen BK151.out 2
     obtain ⟨Ao31, co31, eo31⟩ := Kd.R_slice HO_152002.out
     subst eo31
     go_wp2_with (first | ((with_reducible refine gate_callee (f := 35) rfl ?_); refine goesL_ (some 24) rfl rfl Try.func35 (by kernel_rfl) rfl #[.pointer (some ⟨g, 0, none⟩), .int .i64 3] rfl lm_ ?_; (with_reducible refine (spec_l01Next.calls g s0_0 x1001_1 x1002_1 3 t155 t156 t157 w0 _ ?side1 ?side2 A15.out).mono ?_); (case side1 => exact is75_ HI0); (case side2 => exact bi75_ HB.out); rintro e w32 ⟨rfl, hi, hb, hk⟩; refine ⟨_, rfl, ?_⟩; have n0_ := am_ (Kd.R_mono (Kd.R_keep (IsS75.apart (show IsS75 w0 _ g s0_0 x1001_1 x1002_1 from is75_ HI0) (rk_ HO_152002.out) (by decide)) hk (fun _ h => h.2)) (fun _ h => h.1)); have n1_ := am_ (KeepBut.blk hk (g' := gb145) (o := .cells #[.int .i64 0, .int .i64 0, .slice none 0 0] 28 (0, 0)) (bk_ BK145.out) NB145_0.out (by simp)); have n2_ := am_ (KeepBut.blk hk (g' := gb151) (o := .cells #[.int .i64 t146, .int .i64 t147, .slice Ao31 x152002_1.length co31] 28 (0, 0)) (bk_ BK151.out) NB151_0.out (by simp)); have n3_ := am_ (KeepBut.trans (kb_ HK.out) hk (.inl rfl)); have n4_ := am_ (hb); have n5_ := am_ (hi); clear HO_152002 BK145 BK151 HK HB HI0; revert n0_ n1_ n2_ n3_ n4_ n5_; intro HO_152002 BK145 BK151 HK HB HI0; (try clear hb); (try clear hb2); (try clear hk); (try clear hi)))
     go_roundg k1
     case measure => have := HK1.out; omega
     case rel => exact ⟨(wrap64 (x9_1 + 1)), (t156), (t157), (x152002_1), (.slice Ao31 x152002_1.length co31), (by first | rfl | (simp; done) | (simp [*]; done)), H', ⟨by have := HK1.out; omega⟩, ⟨rk_ HO_152002.out⟩, ⟨bk_ BK145.out⟩, ⟨bk_ BK151.out⟩, ⟨is75_ HI0⟩, ⟨kb_ HK.out⟩, ⟨bi75_ HB.out⟩⟩
   ·rw [if_neg c14] at H
    have c14b0 : decide (x9_1 < (x152002_1.length : Int)) = false := decide_eq_false c14
    clear c14
    simp only [Option.some.injEq, Prod.mk.injEq] at H
    obtain ⟨rfl, rfl, rfl, rfl, rfl⟩ := H
    have hnb33 := NB151_145.out
    have hnc33 := NB145_151.out
    have hnb34 := NB151_0.out
    have hnc34 := NB0_151.out
    have hcz35_0 : wr.cell? ⟨gb151, 0, none⟩ = some (.int .i64 t146) := bc_ BK151 0
    have hcz35_1 : wr.cell? ⟨gb151, 1, none⟩ = some (.int .i64 t147) := bc_ BK151 1
    have hcz35_2 : wr.cell? ⟨gb151, 2, none⟩ = some (u152002) := bc_ BK151 2
    have hfz35_0 := blk_frozen BK151.out 0
    have hfz35_1 := blk_frozen BK151.out 1
    have hfz35_2 := blk_frozen BK151.out 2
    obtain ⟨Ao36, co36, eo36⟩ := Kd.R_slice HO_152002.out
    subst eo36
    have hnb37 := NB145_0.out
    have hnc37 := NB0_145.out
    have hcz38_0 : wr.cell? ⟨gb145, 0, none⟩ = some (.int .i64 0) := bc_ BK145 0
    have hcz38_1 : wr.cell? ⟨gb145, 1, none⟩ = some (.int .i64 0) := bc_ BK145 1
    have hcz38_2 : wr.cell? ⟨gb145, 2, none⟩ = some (.slice none 0 0) := bc_ BK145 2
    have hfz38_0 := blk_frozen BK145.out 0
    have hfz38_1 := blk_frozen BK145.out 1
    have hfz38_2 := blk_frozen BK145.out 2
    go_wp2
    refine bodyPost_ret (results_cell_row rfl _ _ gb145 28 #[.int .i64 t146, .int .i64 t147, .slice Ao36 x152002_1.length co36] (0, 0) _ rfl (by (with_reducible repeat (first | refine blk_drewN ?_ _ | refine blk_drew ?_ | refine blk_alloc ?_ _)); refine blk_put (cs := #[.int .i64 t146, .int .i64 t147, .slice none 0 0]) ?_ 2 _ rfl; (with_reducible repeat (first | refine blk_drewN ?_ _ | refine blk_drew ?_ | refine blk_alloc ?_ _)); refine blk_put (cs := #[.int .i64 t146, .int .i64 0, .slice none 0 0]) ?_ 1 _ rfl; (with_reducible repeat (first | refine blk_drewN ?_ _ | refine blk_drew ?_ | refine blk_alloc ?_ _)); refine blk_put (cs := #[.int .i64 0, .int .i64 0, .slice none 0 0]) ?_ 0 _ rfl; (with_reducible repeat (first | refine blk_drewN ?_ _ | refine blk_drew ?_ | refine blk_alloc ?_ _)); exact BK145.out) Try.underlying28 rfl (by kernel_rfl)) rfl ?_
    exact ⟨_, by first | rfl | (simp [errW_none, errW_some] <;> rfl) | (simp [*, errW_none, errW_some] <;> rfl), rm_ (Kd.R_far (p := ⟨gb145, 2, none⟩) (Kd.R_far (p := ⟨gb145, 1, none⟩) (Kd.R_far (p := ⟨gb145, 0, none⟩) (Kd.R_types HO_152002.out BK145.out (by decide)) (fun _ hk => hk.2) (.int .i64 t146)) (fun _ hk => hk.2) (.int .i64 t147)) (fun _ hk => hk.2) (.slice Ao36 x152002_1.length co36)) (fun _ hk => trivial), is75_ HI0, bi75_ HB.out, kb_ HK.out⟩

/-! ### spec_l01DrawMatrix: function 33 -/
def spec_l01DrawMatrix.f (k : Nat) (s0_0 : List Int) (s0_1 : Int) (s0_2 : Int) : Option (Int × Int × List Int × Int × Int) := (spec_l01Next.f s0_0 s0_1 s0_2 5).bind fun bt163 => ((spec_l01Next.f s0_0 bt163.2.1 bt163.2.2 5).bind fun bt166 => ((spec_l01DrawSize.f k s0_0 bt166.2.1 bt166.2.2 bt163.1 bt166.1).bind fun bt169 => ((spec_l01Next.f s0_0 bt169.2.2.2.1 bt169.2.2.2.2 24).bind fun bt177 => (if bt177.1 = 0 then (some (wrap64 (bt169.1 + 1), bt169.2.1, bt169.2.2.1, bt177.2.1, bt177.2.2)) else (if bt177.1 = 1 then (if bt169.2.2.1.length < 17592186044416 then (some (bt169.1, bt169.2.1, (bt169.2.2.1 ++ [0]), bt177.2.1, bt177.2.2)) else (none)) else (if bt177.1 = 2 then (if (bt169.2.2.1.length : Int) > 0 then ((spec_l01Next.f s0_0 bt177.2.1 bt177.2.2 (bt169.2.2.1.length : Int)).bind fun bt183 => ((some (([1000000000000, 1000000000001, (-1000000000000), (-1000000000001), (-9223372036854775808)] : List Int) : List Int)).bind fun y186 => ((spec_l01Next.f s0_0 bt183.2.1 bt183.2.2 5).bind fun bt189 => (if 0 ≤ bt189.1 then (if bt189.1 < (y186.length : Int) then (if 0 ≤ bt183.1 then (if bt183.1 < (bt169.2.2.1.length : Int) then (some (bt169.1, bt169.2.1, (bt169.2.2.1.set (bt183.1 : Int).toNat (rd y186 bt189.1)), bt189.2.1, bt189.2.2)) else (none)) else (none)) else (none)) else (none))))) else (some (bt169.1, bt169.2.1, bt169.2.2.1, bt177.2.1, bt177.2.2))) else (if bt177.1 = 3 then ((some (([48, 49, (-1)] : List Int) : List Int)).bind fun y194 => ((spec_l01Next.f s0_0 bt177.2.1 bt177.2.2 3).bind fun bt197 => (if 0 ≤ bt197.1 then (if bt197.1 < (y194.length : Int) then (some (0, rd y194 bt197.1, ([] : List Int), bt197.2.1, bt197.2.2)) else (none)) else (none)))) else (some (bt169.1, bt169.2.1, bt169.2.2.1, bt177.2.1, bt177.2.2)))))))))
theorem spec_l01DrawMatrix.mono : ∀ a0 a1 a2 k, LeO (spec_l01DrawMatrix.f k a0 a1 a2) (spec_l01DrawMatrix.f (k + 1) a0 a1 a2) := by
 intro a0 a1 a2 k
 unfold spec_l01DrawMatrix.f
 repeat' first
   | (with_reducible exact spec_l01DrawSize.mono _ _ _ _ _ _)
   | (with_reducible exact LeO.refl _)
   | (with_reducible exact LeO.none _)
   | (with_reducible refine LeO.ite ?_ ?_)
   | (with_reducible refine LeO.bind ?_ (fun _ => ?_))
   | exact spec_l01DrawSize.mono _ _ _ _ _ _
   | exact LeO.none _
   | refine LeO.ite ?_ ?_
   | refine LeO.bind ?_ (fun _ => ?_)
def spec_l01DrawMatrix.T10 : Bool × List (List Nat × List Nat) := (true, [([], []), ([0], [0]), ([], []), ([], []), ([], []), ([4], [4]), ([3, 5], [3, 5]), ([6], [6]), ([1, 2, 0, 1, 2, 3, 4, 5, 6, 7], [1, 2]), ([8, 7, 5, 0, 1, 2, 3, 4, 5, 6, 7], [7, 8])])
def spec_l01DrawMatrix.B10 : List Nat := [0, 1, 0, 0, 0, 16, 56, 120, 255, 511]
theorem spec_l01DrawMatrix.tab10 : rtab .any (opsOf Try.f33 10) = spec_l01DrawMatrix.T10 := by kernel_rfl
theorem spec_l01DrawMatrix.bits10 : waitsOk spec_l01DrawMatrix.T10.2 spec_l01DrawMatrix.B10 = true := by kernel_rfl
set_option maxHeartbeats 8000000 in
set_option maxRecDepth 100000 in
theorem spec_l01DrawMatrix.calls (k : Nat) (g : Nat) (s0_0 : List Int) (s0_1 : Int) (s0_2 : Int) (r1 : Int) (r2 : Int) (r3 : List Int) (r4 : Int) (r5 : Int) (w0 w : World) (hI : IsS75 w0 w g s0_0 s0_1 s0_2) (hB : Below w0.heap.size w0 w) (h : spec_l01DrawMatrix.f k s0_0 s0_1 s0_2 = some (r1, r2, r3, r4, r5)) :
  Calls Try.prog 33 #[.pointer (some ⟨g, 0, none⟩)] w fun e w' => ∃ v2_ : Value, e = .returned (.agg #[.int .i64 r1, .int .i64 r2, v2_]) ∧ Kd.R (Kd.int .i64) 2 w' w.heap.size (fun _ => True) v2_ r3 ∧ IsS75 w0 w' g s0_0 r4 r5 ∧ Below w0.heap.size w0 w' ∧ KeepBut w w' g none := by
 have hu28 := Try.underlying28
 have HI0 := am_ hI
 have HK := am_ (KeepBut.refl w g none)
 have HL := am_ hB.size
 clear hI
 have HW0 := am_ hB.size
 have HB := am_ hB
 clear hB
 have H : ((spec_l01Next.f s0_0 s0_1 s0_2 5).bind fun bt163 => ((spec_l01Next.f s0_0 bt163.2.1 bt163.2.2 5).bind fun bt166 => ((spec_l01DrawSize.f k s0_0 bt166.2.1 bt166.2.2 bt163.1 bt166.1).bind fun bt169 => ((spec_l01Next.f s0_0 bt169.2.2.2.1 bt169.2.2.2.2 24).bind fun bt177 => (if bt177.1 = 0 then (some (wrap64 (bt169.1 + 1), bt169.2.1, bt169.2.2.1, bt177.2.1, bt177.2.2)) else (if bt177.1 = 1 then (if bt169.2.2.1.length < 17592186044416 then (some (bt169.1, bt169.2.1, (bt169.2.2.1 ++ [0]), bt177.2.1, bt177.2.2)) else (none)) else (if bt177.1 = 2 then (if (bt169.2.2.1.length : Int) > 0 then ((spec_l01Next.f s0_0 bt177.2.1 bt177.2.2 (bt169.2.2.1.length : Int)).bind fun bt183 => ((some (([1000000000000, 1000000000001, (-1000000000000), (-1000000000001), (-9223372036854775808)] : List Int) : List Int)).bind fun y186 => ((spec_l01Next.f s0_0 bt183.2.1 bt183.2.2 5).bind fun bt189 => (if 0 ≤ bt189.1 then (if bt189.1 < (y186.length : Int) then (if 0 ≤ bt183.1 then (if bt183.1 < (bt169.2.2.1.length : Int) then (some (bt169.1, bt169.2.1, (bt169.2.2.1.set (bt183.1 : Int).toNat (rd y186 bt189.1)), bt189.2.1, bt189.2.2)) else (none)) else (none)) else (none)) else (none))))) else (some (bt169.1, bt169.2.1, bt169.2.2.1, bt177.2.1, bt177.2.2))) else (if bt177.1 = 3 then ((some (([48, 49, (-1)] : List Int) : List Int)).bind fun y194 => ((spec_l01Next.f s0_0 bt177.2.1 bt177.2.2 3).bind fun bt197 => (if 0 ≤ bt197.1 then (if bt197.1 < (y194.length : Int) then (some (0, rd y194 bt197.1, ([] : List Int), bt197.2.1, bt197.2.2)) else (none)) else (none)))) else (some (bt169.1, bt169.2.1, bt169.2.2.1, bt177.2.1, bt177.2.2)))))))))) = some (r1, r2, r3, r4, r5) := h
 clear h
 replace H := Option.bind_eq_some_iff.mp H
 obtain ⟨⟨t163, t164, t165⟩, A20, H⟩ := H
 replace H : ((spec_l01Next.f s0_0 t164 t165 5).bind fun bt166 => ((spec_l01DrawSize.f k s0_0 bt166.2.1 bt166.2.2 t163 bt166.1).bind fun bt169 => ((spec_l01Next.f s0_0 bt169.2.2.2.1 bt169.2.2.2.2 24).bind fun bt177 => (if bt177.1 = 0 then (some (wrap64 (bt169.1 + 1), bt169.2.1, bt169.2.2.1, bt177.2.1, bt177.2.2)) else (if bt177.1 = 1 then (if bt169.2.2.1.length < 17592186044416 then (some (bt169.1, bt169.2.1, (bt169.2.2.1 ++ [0]), bt177.2.1, bt177.2.2)) else (none)) else (if bt177.1 = 2 then (if (bt169.2.2.1.length : Int) > 0 then ((spec_l01Next.f s0_0 bt177.2.1 bt177.2.2 (bt169.2.2.1.length : Int)).bind fun bt183 => ((some (([1000000000000, 1000000000001, (-1000000000000), (-1000000000001), (-9223372036854775808)] : List Int) : List Int)).bind fun y186 => ((spec_l01Next.f s0_0 bt183.2.1 bt183.2.2 5).bind fun bt189 => (if 0 ≤ bt189.1 then (if bt189.1 < (y186.length : Int) then (if 0 ≤ bt183.1 then (if bt183.1 < (bt169.2.2.1.length : Int) then (some (bt169.1, bt169.2.1, (bt169.2.2.1.set (bt183.1 : Int).toNat (rd y186 bt189.1)), bt189.2.1, bt189.2.2)) else (none)) else (none)) else (none)) else (none))))) else (some (bt169.1, bt169.2.1, bt169.2.2.1, bt177.2.1, bt177.2.2))) else (if bt177.1 = 3 then ((some (([48, 49, (-1)] : List Int) : List Int)).bind fun y194 => ((spec_l01Next.f s0_0 bt177.2.1 bt177.2.2 3).bind fun bt197 => (if 0 ≤ bt197.1 then (if bt197.1 < (y194.length : Int) then (some (0, rd y194 bt197.1, ([] : List Int), bt197.2.1, bt197.2.2)) else (none)) else (none)))) else (some (bt169.1, bt169.2.1, bt169.2.2.1, bt177.2.1, bt177.2.2))))))))) = some (r1, r2, r3, r4, r5) := H
 have A2 := am_ A20
 clear A20
 replace H := Option.bind_eq_some_iff.mp H
 obtain ⟨⟨t166, t167, t168⟩, A30, H⟩ := H
 replace H : ((spec_l01DrawSize.f k s0_0 t167 t168 t163 t166).bind fun bt169 => ((spec_l01Next.f s0_0 bt169.2.2.2.1 bt169.2.2.2.2 24).bind fun bt177 => (if bt177.1 = 0 then (some (wrap64 (bt169.1 + 1), bt169.2.1, bt169.2.2.1, bt177.2.1, bt177.2.2)) else (if bt177.1 = 1 then (if bt169.2.2.1.length < 17592186044416 then (some (bt169.1, bt169.2.1, (bt169.2.2.1 ++ [0]), bt177.2.1, bt177.2.2)) else (none)) else (if bt177.1 = 2 then (if (bt169.2.2.1.length : Int) > 0 then ((spec_l01Next.f s0_0 bt177.2.1 bt177.2.2 (bt169.2.2.1.length : Int)).bind fun bt183 => ((some (([1000000000000, 1000000000001, (-1000000000000), (-1000000000001), (-9223372036854775808)] : List Int) : List Int)).bind fun y186 => ((spec_l01Next.f s0_0 bt183.2.1 bt183.2.2 5).bind fun bt189 => (if 0 ≤ bt189.1 then (if bt189.1 < (y186.length : Int) then (if 0 ≤ bt183.1 then (if bt183.1 < (bt169.2.2.1.length : Int) then (some (bt169.1, bt169.2.1, (bt169.2.2.1.set (bt183.1 : Int).toNat (rd y186 bt189.1)), bt189.2.1, bt189.2.2)) else (none)) else (none)) else (none)) else (none))))) else (some (bt169.1, bt169.2.1, bt169.2.2.1, bt177.2.1, bt177.2.2))) else (if bt177.1 = 3 then ((some (([48, 49, (-1)] : List Int) : List Int)).bind fun y194 => ((spec_l01Next.f s0_0 bt177.2.1 bt177.2.2 3).bind fun bt197 => (if 0 ≤ bt197.1 then (if bt197.1 < (y194.length : Int) then (some (0, rd y194 bt197.1, ([] : List Int), bt197.2.1, bt197.2.2)) else (none)) else (none)))) else (some (bt169.1, bt169.2.1, bt169.2.2.1, bt177.2.1, bt177.2.2)))))))) = some (r1, r2, r3, r4, r5) := H
 have A3 := am_ A30
 clear A30
 replace H := Option.bind_eq_some_iff.mp H
 obtain ⟨⟨t169, t170, t171, t174, t175⟩, A40, H⟩ := H
 replace H : ((spec_l01Next.f s0_0 t174 t175 24).bind fun bt177 => (if bt177.1 = 0 then (some (wrap64 (t169 + 1), t170, t171, bt177.2.1, bt177.2.2)) else (if bt177.1 = 1 then (if t171.length < 17592186044416 then (some (t169, t170, (t171 ++ [0]), bt177.2.1, bt177.2.2)) else (none)) else (if bt177.1 = 2 then (if (t171.length : Int) > 0 then ((spec_l01Next.f s0_0 bt177.2.1 bt177.2.2 (t171.length : Int)).bind fun bt183 => ((some (([1000000000000, 1000000000001, (-1000000000000), (-1000000000001), (-9223372036854775808)] : List Int) : List Int)).bind fun y186 => ((spec_l01Next.f s0_0 bt183.2.1 bt183.2.2 5).bind fun bt189 => (if 0 ≤ bt189.1 then (if bt189.1 < (y186.length : Int) then (if 0 ≤ bt183.1 then (if bt183.1 < (t171.length : Int) then (some (t169, t170, (t171.set (bt183.1 : Int).toNat (rd y186 bt189.1)), bt189.2.1, bt189.2.2)) else (none)) else (none)) else (none)) else (none))))) else (some (t169, t170, t171, bt177.2.1, bt177.2.2))) else (if bt177.1 = 3 then ((some (([48, 49, (-1)] : List Int) : List Int)).bind fun y194 => ((spec_l01Next.f s0_0 bt177.2.1 bt177.2.2 3).bind fun bt197 => (if 0 ≤ bt197.1 then (if bt197.1 < (y194.length : Int) then (some (0, rd y194 bt197.1, ([] : List Int), bt197.2.1, bt197.2.2)) else (none)) else (none)))) else (some (t169, t170, t171, bt177.2.1, bt177.2.2))))))) = some (r1, r2, r3, r4, r5) := H
 have A4 := am_ A40
 clear A40
 replace H := Option.bind_eq_some_iff.mp H
 obtain ⟨⟨t177, t178, t179⟩, A50, H⟩ := H
 replace H : (if t177 = 0 then (some (wrap64 (t169 + 1), t170, t171, t178, t179)) else (if t177 = 1 then (if t171.length < 17592186044416 then (some (t169, t170, (t171 ++ [0]), t178, t179)) else (none)) else (if t177 = 2 then (if (t171.length : Int) > 0 then ((spec_l01Next.f s0_0 t178 t179 (t171.length : Int)).bind fun bt183 => ((some (([1000000000000, 1000000000001, (-1000000000000), (-1000000000001), (-9223372036854775808)] : List Int) : List Int)).bind fun y186 => ((spec_l01Next.f s0_0 bt183.2.1 bt183.2.2 5).bind fun bt189 => (if 0 ≤ bt189.1 then (if bt189.1 < (y186.length : Int) then (if 0 ≤ bt183.1 then (if bt183.1 < (t171.length : Int) then (some (t169, t170, (t171.set (bt183.1 : Int).toNat (rd y186 bt189.1)), bt189.2.1, bt189.2.2)) else (none)) else (none)) else (none)) else (none))))) else (some (t169, t170, t171, t178, t179))) else (if t177 = 3 then ((some (([48, 49, (-1)] : List Int) : List Int)).bind fun y194 => ((spec_l01Next.f s0_0 t178 t179 3).bind fun bt197 => (if 0 ≤ bt197.1 then (if bt197.1 < (y194.length : Int) then (some (0, rd y194 bt197.1, ([] : List Int), bt197.2.1, bt197.2.2)) else (none)) else (none)))) else (some (t169, t170, t171, t178, t179)))))) = some (r1, r2, r3, r4, r5) := H
 have A5 := am_ A50
 clear A50
 by_cases c6 : t177 = 0
 ·rw [if_pos c6] at H
  have c6b0 : (t177 == 0) = true := beq_iff_eq.mpr c6
  have c6b1 : (t177 != 0) = false := bne_eq_false_iff_eq.mpr c6
  clear c6
  simp only [Option.some.injEq, Prod.mk.injEq] at H
  obtain ⟨rfl, rfl, rfl, rfl, rfl⟩ := H
  go_enter Try.func33, Try.ntmps33
  go_wp2_with (first | ((with_reducible refine gate_dst (N := 2) rfl ?_); refine box_event ?hg (N := 2) ?hd (cs := #[.int .i64 0, .int .i64 0, .slice none 0 0]) (t := 28) ?hr ?_; (case hd => rfl); (case hg => rfl); (case hr => first | (go_simp; done) | (go_simp; rfl)); intro gb162 hg w7 hbox hb; have n0_ := am_ (IsS75.below (is75_ HI0) hb); have n1_ := am_ (KeepBut.trans (kb_ HK.out) (KeepBut.of_below hb g none) (.inl rfl)); have n2_ := am_ (below_step (bi75_ HB.out) hb); have n3_ := am_ (hbox); have n4_ := am_ ((by rw [hg]; exact (keep_size (w := w) (g := g) (row := none) (kb_ HK.out)) : w.heap.size ≤ gb162)); have n5_ := am_ ((Nat.le_trans HW0.out (by rw [hg]; exact (keep_size (w := w) (g := g) (row := none) (kb_ HK.out)) : w.heap.size ≤ gb162) : w0.heap.size ≤ gb162)); have n6_ := am_ ((by rw [hg]; exact Nat.ne_of_lt (IsS75.lt (show IsS75 w0 _ g s0_0 s0_1 s0_2 from is75_ HI0)) : g ≠ gb162)); have n7_ := am_ ((by rw [hg]; exact Nat.ne_of_gt (IsS75.lt (show IsS75 w0 _ g s0_0 s0_1 s0_2 from is75_ HI0)) : gb162 ≠ g)); clear HI0 HK HB; revert n0_ n1_ n2_ n3_ n4_ n5_ n6_ n7_; intro HI0 HK HB BK162 GW162 GE162 NB0_162 NB162_0; clear hb hbox hg) | ((with_reducible refine gate_callee (f := 35) rfl ?_); refine goesL_ (some 7) rfl rfl Try.func35 (by kernel_rfl) rfl #[.pointer (some ⟨g, 0, none⟩), .int .i64 5] rfl lm_ ?_; (with_reducible refine (spec_l01Next.calls g s0_0 s0_1 s0_2 5 t163 t164 t165 w0 _ ?side1 ?side2 A2.out).mono ?_); (case side1 => exact is75_ HI0); (case side2 => exact bi75_ HB.out); rintro e w8 ⟨rfl, hi, hb, hk⟩; refine ⟨_, rfl, ?_⟩; have n0_ := am_ (KeepBut.blk hk (g' := gb162) (o := .cells #[.int .i64 0, .int .i64 0, .slice none 0 0] 28 (0, 0)) (bk_ BK162.out) NB162_0.out (by simp)); have n1_ := am_ (KeepBut.trans (kb_ HK.out) hk (.inl rfl)); have n2_ := am_ (hb); have n3_ := am_ (hi); clear BK162 HK HB HI0; revert n0_ n1_ n2_ n3_; intro BK162 HK HB HI0; (try clear hb); (try clear hb2); (try clear hk); (try clear hi)) | ((with_reducible refine gate_callee (f := 35) rfl ?_); refine goesL_ (some 9) rfl rfl Try.func35 (by kernel_rfl) rfl #[.pointer (some ⟨g, 0, none⟩), .int .i64 5] rfl lm_ ?_; (with_reducible refine (spec_l01Next.calls g s0_0 t164 t165 5 t166 t167 t168 w0 _ ?side1 ?side2 A3.out).mono ?_); (case side1 => exact is75_ HI0); (case side2 => exact bi75_ HB.out); rintro e w9 ⟨rfl, hi, hb, hk⟩; refine ⟨_, rfl, ?_⟩; have n0_ := am_ (KeepBut.blk hk (g' := gb162) (o := .cells #[.int .i64 0, .int .i64 0, .slice none 0 0] 28 (0, 0)) (bk_ BK162.out) NB162_0.out (by simp)); have n1_ := am_ (KeepBut.trans (kb_ HK.out) hk (.inl rfl)); have n2_ := am_ (hb); have n3_ := am_ (hi); clear BK162 HK HB HI0; revert n0_ n1_ n2_ n3_; intro BK162 HK HB HI0; (try clear hb); (try clear hb2); (try clear hk); (try clear hi)) | ((with_reducible refine gate_callee (f := 34) rfl ?_); refine goesL_ (some 10) rfl rfl Try.func34 (by kernel_rfl) rfl #[.pointer (some ⟨g, 0, none⟩), .int .i64 t163, .int .i64 t166] rfl lm_ ?_; (with_reducible refine (spec_l01DrawSize.calls k g s0_0 t167 t168 t163 t166 t169 t170 t171 t174 t175 w0 _ ?side1 ?side2 A4.out).mono ?_); (case side1 => exact is75_ HI0); (case side2 => exact bi75_ HB.out); rintro e w10 ⟨v172, rfl, ho0, hi, hb, hk⟩; refine ⟨_, rfl, ?_⟩; have n0_ := am_ (KeepBut.blk hk (g' := gb162) (o := .cells #[.int .i64 0, .int .i64 0, .slice none 0 0] 28 (0, 0)) (bk_ BK162.out) NB162_0.out (by simp)); have n1_ := am_ (Kd.R_lower ho0 (keep_size (w := w) (g := g) (row := none) (kb_ HK.out))); have n2_ := am_ (KeepBut.trans (kb_ HK.out) hk (.inl rfl)); have n3_ := am_ (hb); have n4_ := am_ (hi); clear BK162 HK HB HI0; revert n0_ n1_ n2_ n3_ n4_; intro BK162 HO173 HK HB HI0; (try clear hb); (try clear hb2); (try clear hk); (try clear hi); (try clear ho0)) | ((with_reducible refine gate_dst (N := 3) rfl ?_); refine box_event ?hg (N := 3) ?hd (cs := #[.int .i64 0, .int .i64 0, .slice none 0 0]) (t := 28) ?hr ?_; (case hd => rfl); (case hg => rfl); (case hr => first | (go_simp; done) | (go_simp; rfl)); intro gb176 hg w11 hbox hb; have n0_ := am_ (Kd.R_below (rk_ HO173.out) hb); have n1_ := am_ (IsS75.below (is75_ HI0) hb); have n2_ := am_ (bw_ BK162 hb); have n3_ := am_ (KeepBut.trans (kb_ HK.out) (KeepBut.of_below hb g none) (.inl rfl)); have n4_ := am_ (below_step (bi75_ HB.out) hb); have n5_ := am_ (hbox); have n6_ := am_ ((by rw [hg]; exact (keep_size (w := w) (g := g) (row := none) (kb_ HK.out)) : w.heap.size ≤ gb176)); have n7_ := am_ ((Nat.le_trans HW0.out (by rw [hg]; exact (keep_size (w := w) (g := g) (row := none) (kb_ HK.out)) : w.heap.size ≤ gb176) : w0.heap.size ≤ gb176)); have n8_ := am_ (nl_ BK162 hg); have n9_ := am_ (ng_ BK162 hg); have n10_ := am_ ((by rw [hg]; exact Nat.ne_of_lt (IsS75.lt (show IsS75 w0 _ g s0_0 t174 t175 from is75_ HI0)) : g ≠ gb176)); have n11_ := am_ ((by rw [hg]; exact Nat.ne_of_gt (IsS75.lt (show IsS75 w0 _ g s0_0 t174 t175 from is75_ HI0)) : gb176 ≠ g)); clear HO173 HI0 BK162 HK HB; revert n0_ n1_ n2_ n3_ n4_ n5_ n6_ n7_ n8_ n9_ n10_ n11_; intro HO173 HI0 BK162 HK HB BK176 GW176 GE176 NB162_176 NB176_162 NB0_176 NB176_0; clear hb hbox hg; have hnb12 := NB176_162.out; have hnc12 := NB162_176.out; have hnb13 := NB176_0.out; have hnc13 := NB0_176.out; have hcz14_0 : w11.cell? ⟨gb176, 0, none⟩ = some (.int .i64 0) := bc_ BK176 0; have hcz14_1 : w11.cell? ⟨gb176, 1, none⟩ = some (.int .i64 0) := bc_ BK176 1; have hcz14_2 : w11.cell? ⟨gb176, 2, none⟩ = some (.slice none 0 0) := bc_ BK176 2; have hfz14_0 := blk_frozen BK176.out 0; have hfz14_1 := blk_frozen BK176.out 1; have hfz14_2 := blk_frozen BK176.out 2; obtain ⟨Ao15, co15, eo15⟩ := Kd.R_slice HO173.out; subst eo15) | ((with_reducible refine gate_callee (f := 35) rfl ?_); refine goesL_ (some 12) rfl rfl Try.func35 (by kernel_rfl) rfl #[.pointer (some ⟨g, 0, none⟩), .int .i64 24] rfl lm_ ?_; (with_reducible refine (spec_l01Next.calls g s0_0 t174 t175 24 t177 t178 t179 w0 _ ?side1 ?side2 A5.out).mono ?_); (case side1 => exact is75_ HI0); (case side2 => exact bi75_ HB.out); rintro e w16 ⟨rfl, hi, hb, hk⟩; refine ⟨_, rfl, ?_⟩; have n0_ := am_ (KeepBut.blk hk (g' := gb162) (o := .cells #[.int .i64 0, .int .i64 0, .slice none 0 0] 28 (0, 0)) (bk_ BK162.out) NB162_0.out (by simp)); have n1_ := am_ (Kd.R_mono (Kd.R_keep (IsS75.apart (show IsS75 w0 _ g s0_0 t174 t175 from is75_ HI0) ((rm_ (Kd.R_far (p := ⟨gb176, 2, none⟩) (Kd.R_far (p := ⟨gb176, 1, none⟩) (Kd.R_far (p := ⟨gb176, 0, none⟩) (Kd.R_types HO173.out BK176.out (by decide)) (fun _ hk => hk.2) (.int .i64 t169)) (fun _ hk => hk.2) (.int .i64 t170)) (fun _ hk => hk.2) (.slice Ao15 t171.length co15)) (fun _ h_ => h_.1))) (by decide)) hk (fun _ h => h.2)) (fun _ h => h.1)); have n2_ := am_ (KeepBut.blk hk (g' := gb176) (o := .cells #[.int .i64 t169, .int .i64 t170, .slice Ao15 t171.length co15] 28 (0, 0)) (by (with_reducible repeat (first | refine blk_drewN ?_ _ | refine blk_drew ?_ | refine blk_alloc ?_ _)); refine blk_put (cs := #[.int .i64 t169, .int .i64 t170, .slice none 0 0]) ?_ 2 _ rfl; (with_reducible repeat (first | refine blk_drewN ?_ _ | refine blk_drew ?_ | refine blk_alloc ?_ _)); refine blk_put (cs := #[.int .i64 t169, .int .i64 0, .slice none 0 0]) ?_ 1 _ rfl; (with_reducible repeat (first | refine blk_drewN ?_ _ | refine blk_drew ?_ | refine blk_alloc ?_ _)); refine blk_put (cs := #[.int .i64 0, .int .i64 0, .slice none 0 0]) ?_ 0 _ rfl; (with_reducible repeat (first | refine blk_drewN ?_ _ | refine blk_drew ?_ | refine blk_alloc ?_ _)); exact BK176.out) NB176_0.out (by simp)); have n3_ := am_ (KeepBut.trans (kb_ HK.out) hk (.inl rfl)); have n4_ := am_ (hb); have n5_ := am_ (hi); clear BK162 HO173 BK176 HK HB HI0; revert n0_ n1_ n2_ n3_ n4_ n5_; intro BK162 HO173 BK176 HK HB HI0; (try clear hb); (try clear hb2); (try clear hk); (try clear hi); have hcz17_0 : w16.cell? ⟨gb176, 0, none⟩ = some (.int .i64 t169) := bc_ BK176 0; have hcz17_1 : w16.cell? ⟨gb176, 1, none⟩ = some (.int .i64 t170) := bc_ BK176 1; have hcz17_2 : w16.cell? ⟨gb176, 2, none⟩ = some (.slice Ao15 t171.length co15) := bc_ BK176 2; have hfz17_0 := blk_frozen BK176.out 0; have hfz17_1 := blk_frozen BK176.out 1; have hfz17_2 := blk_frozen BK176.out 2; have hnb18 := NB162_0.out; have hnc18 := NB0_162.out; have hcz19_0 : w16.cell? ⟨gb162, 0, none⟩ = some (.int .i64 0) := bc_ BK162 0; have hcz19_1 : w16.cell? ⟨gb162, 1, none⟩ = some (.int .i64 0) := bc_ BK162 1; have hcz19_2 : w16.cell? ⟨gb162, 2, none⟩ = some (.slice none 0 0) := bc_ BK162 2; have hfz19_0 := blk_frozen BK162.out 0; have hfz19_1 := blk_frozen BK162.out 1; have hfz19_2 := blk_frozen BK162.out 2))
  refine bodyPost_ret (results_cell_row rfl _ _ gb162 28 #[.int .i64 (wrap64 (t169 + 1)), .int .i64 t170, .slice Ao15 t171.length co15] (0, 0) _ rfl (by (with_reducible repeat (first | refine blk_drewN ?_ _ | refine blk_drew ?_ | refine blk_alloc ?_ _)); refine blk_put (cs := #[.int .i64 (wrap64 (t169 + 1)), .int .i64 t170, .slice none 0 0]) ?_ 2 _ rfl; (with_reducible repeat (first | refine blk_drewN ?_ _ | refine blk_drew ?_ | refine blk_alloc ?_ _)); refine blk_put (cs := #[.int .i64 (wrap64 (t169 + 1)), .int .i64 0, .slice none 0 0]) ?_ 1 _ rfl; (with_reducible repeat (first | refine blk_drewN ?_ _ | refine blk_drew ?_ | refine blk_alloc ?_ _)); refine blk_put (cs := #[.int .i64 0, .int .i64 0, .slice none 0 0]) ?_ 0 _ rfl; (with_reducible repeat (first | refine blk_drewN ?_ _ | refine blk_drew ?_ | refine blk_alloc ?_ _)); refine blk_far ?_ NB162_176.out _; (with_reducible repeat (first | refine blk_drewN ?_ _ | refine blk_drew ?_ | refine blk_alloc ?_ _)); exact BK162.out) Try.underlying28 rfl (by kernel_rfl)) rfl ?_
  exact ⟨_, by first | rfl | (simp [errW_none, errW_some] <;> rfl) | (simp [*, errW_none, errW_some] <;> rfl), rm_ (Kd.R_far (p := ⟨gb162, 2, none⟩) (Kd.R_far (p := ⟨gb162, 1, none⟩) (Kd.R_far (p := ⟨gb162, 0, none⟩) (Kd.R_far (p := ⟨gb176, 0, none⟩) (Kd.R_types (Kd.R_types HO173.out BK176.out (by decide)) BK162.out (by decide)) (fun _ hk => hk.1.2) (.int .i64 (wrap64 (t169 + 1)))) (fun _ hk => hk.2) (.int .i64 (wrap64 (t169 + 1)))) (fun _ hk => hk.2) (.int .i64 t170)) (fun _ hk => hk.2) (.slice Ao15 t171.length co15)) (fun _ hk => trivial), is75_ HI0, bi75_ HB.out, kb_ HK.out⟩
 ·rw [if_neg c6] at H
  have c6b0 : (t177 == 0) = false := beq_eq_false_iff_ne.mpr c6
  have c6b1 : (t177 != 0) = true := bne_iff_ne.mpr c6
  by_cases c20 : t177 = 1
  ·rw [if_pos c20] at H
   have c20b0 : (t177 == 1) = true := beq_iff_eq.mpr c20
   have c20b1 : (t177 != 1) = false := bne_eq_false_iff_eq.mpr c20
   clear c20
   by_cases c21 : t171.length < 17592186044416
   ·rw [if_pos c21] at H
    have LMc21 := am_ c21
    clear c21
    obtain ⟨y180, hy180⟩ : ∃ y_ : List Int, y_ = (t171 ++ [0]) := ⟨_, rfl⟩
    replace H : (some (t169, t170, y180, t178, t179)) = some (r1, r2, r3, r4, r5) := by first | (rw [hy180]; with_reducible exact H) | (have H2_ := (Option.bind_some _ _).symm.trans H; rw [hy180]; with_reducible exact H2_) | (have H2_ := (Option.bind_some _ _).symm.trans H; with_reducible exact H2_) | with_reducible exact H | (rw [hy180]; exact H) | exact H
    have Ny180 := am_ hy180
    clear hy180
    simp only [Option.some.injEq, Prod.mk.injEq] at H
    obtain ⟨rfl, rfl, rfl, rfl, rfl⟩ := H
    go_enter Try.func33, Try.ntmps33
    go_wp2_with (first | ((with_reducible refine gate_dst (N := 2) rfl ?_); refine box_event ?hg (N := 2) ?hd (cs := #[.int .i64 0, .int .i64 0, .slice none 0 0]) (t := 28) ?hr ?_; (case hd => rfl); (case hg => rfl); (case hr => first | (go_simp; done) | (go_simp; rfl)); intro gb162 hg w22 hbox hb; have n0_ := am_ (IsS75.below (is75_ HI0) hb); have n1_ := am_ (KeepBut.trans (kb_ HK.out) (KeepBut.of_below hb g none) (.inl rfl)); have n2_ := am_ (below_step (bi75_ HB.out) hb); have n3_ := am_ (hbox); have n4_ := am_ ((by rw [hg]; exact (keep_size (w := w) (g := g) (row := none) (kb_ HK.out)) : w.heap.size ≤ gb162)); have n5_ := am_ ((Nat.le_trans HW0.out (by rw [hg]; exact (keep_size (w := w) (g := g) (row := none) (kb_ HK.out)) : w.heap.size ≤ gb162) : w0.heap.size ≤ gb162)); have n6_ := am_ ((by rw [hg]; exact Nat.ne_of_lt (IsS75.lt (show IsS75 w0 _ g s0_0 s0_1 s0_2 from is75_ HI0)) : g ≠ gb162)); have n7_ := am_ ((by rw [hg]; exact Nat.ne_of_gt (IsS75.lt (show IsS75 w0 _ g s0_0 s0_1 s0_2 from is75_ HI0)) : gb162 ≠ g)); clear HI0 HK HB; revert n0_ n1_ n2_ n3_ n4_ n5_ n6_ n7_; intro HI0 HK HB BK162 GW162 GE162 NB0_162 NB162_0; clear hb hbox hg) | ((with_reducible refine gate_callee (f := 35) rfl ?_); refine goesL_ (some 7) rfl rfl Try.func35 (by kernel_rfl) rfl #[.pointer (some ⟨g, 0, none⟩), .int .i64 5] rfl lm_ ?_; (with_reducible refine (spec_l01Next.calls g s0_0 s0_1 s0_2 5 t163 t164 t165 w0 _ ?side1 ?side2 A2.out).mono ?_); (case side1 => exact is75_ HI0); (case side2 => exact bi75_ HB.out); rintro e w23 ⟨rfl, hi, hb, hk⟩; refine ⟨_, rfl, ?_⟩; have n0_ := am_ (KeepBut.blk hk (g' := gb162) (o := .cells #[.int .i64 0, .int .i64 0, .slice none 0 0] 28 (0, 0)) (bk_ BK162.out) NB162_0.out (by simp)); have n1_ := am_ (KeepBut.trans (kb_ HK.out) hk (.inl rfl)); have n2_ := am_ (hb); have n3_ := am_ (hi); clear BK162 HK HB HI0; revert n0_ n1_ n2_ n3_; intro BK162 HK HB HI0; (try clear hb); (try clear hb2); (try clear hk); (try clear hi)) | ((with_reducible refine gate_callee (f := 35) rfl ?_); refine goesL_ (some 9) rfl rfl Try.func35 (by kernel_rfl) rfl #[.pointer (some ⟨g, 0, none⟩), .int .i64 5] rfl lm_ ?_; (with_reducible refine (spec_l01Next.calls g s0_0 t164 t165 5 t166 t167 t168 w0 _ ?side1 ?side2 A3.out).mono ?_); (case side1 => exact is75_ HI0); (case side2 => exact bi75_ HB.out); rintro e w24 ⟨rfl, hi, hb, hk⟩; refine ⟨_, rfl, ?_⟩; have n0_ := am_ (KeepBut.blk hk (g' := gb162) (o := .cells #[.int .i64 0, .int .i64 0, .slice none 0 0] 28 (0, 0)) (bk_ BK162.out) NB162_0.out (by simp)); have n1_ := am_ (KeepBut.trans (kb_ HK.out) hk (.inl rfl)); have n2_ := am_ (hb); have n3_ := am_ (hi); clear BK162 HK HB HI0; revert n0_ n1_ n2_ n3_; intro BK162 HK HB HI0; (try clear hb); (try clear hb2); (try clear hk); (try clear hi)) | ((with_reducible refine gate_callee (f := 34) rfl ?_); refine goesL_ (some 10) rfl rfl Try.func34 (by kernel_rfl) rfl #[.pointer (some ⟨g, 0, none⟩), .int .i64 t163, .int .i64 t166] rfl lm_ ?_; (with_reducible refine (spec_l01DrawSize.calls k g s0_0 t167 t168 t163 t166 t169 t170 t171 t174 t175 w0 _ ?side1 ?side2 A4.out).mono ?_); (case side1 => exact is75_ HI0); (case side2 => exact bi75_ HB.out); rintro e w25 ⟨v172, rfl, ho0, hi, hb, hk⟩; refine ⟨_, rfl, ?_⟩; have n0_ := am_ (KeepBut.blk hk (g' := gb162) (o := .cells #[.int .i64 0, .int .i64 0, .slice none 0 0] 28 (0, 0)) (bk_ BK162.out) NB162_0.out (by simp)); have n1_ := am_ (Kd.R_lower ho0 (keep_size (w := w) (g := g) (row := none) (kb_ HK.out))); have n2_ := am_ (KeepBut.trans (kb_ HK.out) hk (.inl rfl)); have n3_ := am_ (hb); have n4_ := am_ (hi); clear BK162 HK HB HI0; revert n0_ n1_ n2_ n3_ n4_; intro BK162 HO173 HK HB HI0; (try clear hb); (try clear hb2); (try clear hk); (try clear hi); (try clear ho0)) | ((with_reducible refine gate_dst (N := 3) rfl ?_); refine box_event ?hg (N := 3) ?hd (cs := #[.int .i64 0, .int .i64 0, .slice none 0 0]) (t := 28) ?hr ?_; (case hd => rfl); (case hg => rfl); (case hr => first | (go_simp; done) | (go_simp; rfl)); intro gb176 hg w26 hbox hb; have n0_ := am_ (Kd.R_below (rk_ HO173.out) hb); have n1_ := am_ (IsS75.below (is75_ HI0) hb); have n2_ := am_ (bw_ BK162 hb); have n3_ := am_ (KeepBut.trans (kb_ HK.out) (KeepBut.of_below hb g none) (.inl rfl)); have n4_ := am_ (below_step (bi75_ HB.out) hb); have n5_ := am_ (hbox); have n6_ := am_ ((by rw [hg]; exact (keep_size (w := w) (g := g) (row := none) (kb_ HK.out)) : w.heap.size ≤ gb176)); have n7_ := am_ ((Nat.le_trans HW0.out (by rw [hg]; exact (keep_size (w := w) (g := g) (row := none) (kb_ HK.out)) : w.heap.size ≤ gb176) : w0.heap.size ≤ gb176)); have n8_ := am_ (nl_ BK162 hg); have n9_ := am_ (ng_ BK162 hg); have n10_ := am_ ((by rw [hg]; exact Nat.ne_of_lt (IsS75.lt (show IsS75 w0 _ g s0_0 t174 t175 from is75_ HI0)) : g ≠ gb176)); have n11_ := am_ ((by rw [hg]; exact Nat.ne_of_gt (IsS75.lt (show IsS75 w0 _ g s0_0 t174 t175 from is75_ HI0)) : gb176 ≠ g)); clear HO173 HI0 BK162 HK HB; revert n0_ n1_ n2_ n3_ n4_ n5_ n6_ n7_ n8_ n9_ n10_ n11_; intro HO173 HI0 BK162 HK HB BK176 GW176 GE176 NB162_176 NB176_162 NB0_176 NB176_0; clear hb hbox hg; have hnb27 := NB176_162.out; have hnc27 := NB162_176.out; have hnb28 := NB176_0.out; have hnc28 := NB0_176.out; have hcz29_0 : w26.cell? ⟨gb176, 0, none⟩ = some (.int .i64 0) := bc_ BK176 0; have hcz29_1 : w26.cell? ⟨gb176, 1, none⟩ = some (.int .i64 0) := bc_ BK176 1; have hcz29_2 : w26.cell? ⟨gb176, 2, none⟩ = some (.slice none 0 0) := bc_ BK176 2; have hfz29_0 := blk_frozen BK176.out 0; have hfz29_1 := blk_frozen BK176.out 1; have hfz29_2 := blk_frozen BK176.out 2; obtain ⟨Ao30, co30, eo30⟩ := Kd.R_slice HO173.out; subst eo30) | ((with_reducible refine gate_callee (f := 35) rfl ?_); refine goesL_ (some 12) rfl rfl Try.func35 (by kernel_rfl) rfl #[.pointer (some ⟨g, 0, none⟩), .int .i64 24] rfl lm_ ?_; (with_reducible refine (spec_l01Next.calls g s0_0 t174 t175 24 t177 t178 t179 w0 _ ?side1 ?side2 A5.out).mono ?_); (case side1 => exact is75_ HI0); (case side2 => exact bi75_ HB.out); rintro e w31 ⟨rfl, hi, hb, hk⟩; refine ⟨_, rfl, ?_⟩; have n0_ := am_ (KeepBut.blk hk (g' := gb162) (o := .cells #[.int .i64 0, .int .i64 0, .slice none 0 0] 28 (0, 0)) (bk_ BK162.out) NB162_0.out (by simp)); have n1_ := am_ (Kd.R_mono (Kd.R_keep (IsS75.apart (show IsS75 w0 _ g s0_0 t174 t175 from is75_ HI0) ((rm_ (Kd.R_far (p := ⟨gb176, 2, none⟩) (Kd.R_far (p := ⟨gb176, 1, none⟩) (Kd.R_far (p := ⟨gb176, 0, none⟩) (Kd.R_types HO173.out BK176.out (by decide)) (fun _ hk => hk.2) (.int .i64 t169)) (fun _ hk => hk.2) (.int .i64 t170)) (fun _ hk => hk.2) (.slice Ao30 t171.length co30)) (fun _ h_ => h_.1))) (by decide)) hk (fun _ h => h.2)) (fun _ h => h.1)); have n2_ := am_ (KeepBut.blk hk (g' := gb176) (o := .cells #[.int .i64 t169, .int .i64 t170, .slice Ao30 t171.length co30] 28 (0, 0)) (by (with_reducible repeat (first | refine blk_drewN ?_ _ | refine blk_drew ?_ | refine blk_alloc ?_ _)); refine blk_put (cs := #[.int .i64 t169, .int .i64 t170, .slice none 0 0]) ?_ 2 _ rfl; (with_reducible repeat (first | refine blk_drewN ?_ _ | refine blk_drew ?_ | refine blk_alloc ?_ _)); refine blk_put (cs := #[.int .i64 t169, .int .i64 0, .slice none 0 0]) ?_ 1 _ rfl; (with_reducible repeat (first | refine blk_drewN ?_ _ | refine blk_drew ?_ | refine blk_alloc ?_ _)); refine blk_put (cs := #[.int .i64 0, .int .i64 0, .slice none 0 0]) ?_ 0 _ rfl; (with_reducible repeat (first | refine blk_drewN ?_ _ | refine blk_drew ?_ | refine blk_alloc ?_ _)); exact BK176.out) NB176_0.out (by simp)); have n3_ := am_ (KeepBut.trans (kb_ HK.out) hk (.inl rfl)); have n4_ := am_ (hb); have n5_ := am_ (hi); clear BK162 HO173 BK176 HK HB HI0; revert n0_ n1_ n2_ n3_ n4_ n5_; intro BK162 HO173 BK176 HK HB HI0; (try clear hb); (try clear hb2); (try clear hk); (try clear hi); have hcz32_0 : w31.cell? ⟨gb176, 0, none⟩ = some (.int .i64 t169) := bc_ BK176 0; have hcz32_1 : w31.cell? ⟨gb176, 1, none⟩ = some (.int .i64 t170) := bc_ BK176 1; have hcz32_2 : w31.cell? ⟨gb176, 2, none⟩ = some (.slice Ao30 t171.length co30) := bc_ BK176 2; have hfz32_0 := blk_frozen BK176.out 0; have hfz32_1 := blk_frozen BK176.out 1; have hfz32_2 := blk_frozen BK176.out 2) | ((with_reducible refine gate_builtin (b := .append) (xs := #[.tmp 22, .tmp 23]) rfl ?_); at_builtin; refine Kd.R_append (Kd.int .i64) w.heap.size rfl (.tmp 22) (.tmp 23) 22 2 (.int .i64 0) 8 rfl Try.underlying22 info2 rfl (by decide) (by omega) (.slice Ao30 t171.length co30) t171 0 [.int .i64 0] (fun _ => True) (fun _ => False) rfl rfl ?aP (fun _ hk => hk.elim) ?aF ?aO (Below.refl _ _) ?aS ?aL ?_; (case aP => exact rfl); (case aF => exact (fun _ _ => trivial)); (case aO => exact (rk_ HO173.out)); (case aS => exact (keep_size (w := w) (g := g) (row := none) (kb_ HK.out))); (case aL => have := LMc21.out; omega); intro v181 w33 ho hb hg hat; rw [← Ny180.out] at ho; have n0_ := am_ (IsS75.grown (is75_ HI0) hg (IsS75.own_ne HI0.out HO173.out (by decide))); have n1_ := am_ (blk_grown (g := gb162) (o := .cells #[.int .i64 0, .int .i64 0, .slice none 0 0] 28 (0, 0)) (bk_ BK162.out) hg (Kd.R_ne HO173.out BK162.out (by decide))); have n2_ := am_ (blk_grown (g := gb176) (o := .cells #[.int .i64 t169, .int .i64 t170, .slice Ao30 t171.length co30] 28 (0, 0)) (bk_ BK176.out) hg (Kd.R_ne HO173.out BK176.out (by decide))); have n3_ := am_ (below_weaken (bi75_ HB.out) HL.out hb); have n4_ := am_ (KeepBut.trans (kb_ HK.out) (KeepBut.of_grown hg g) (Kd.R_base2 HO173.out)); have n5_ := am_ (ho); clear HI0 BK162 BK176 HB HK HO173; revert n0_ n1_ n2_ n3_ n4_ n5_; intro HI0 BK162 BK176 HB HK HO182; clear ho hb hg hat; obtain ⟨Ao34, co34, eo34⟩ := Kd.R_slice HO182.out; subst eo34; have hcz35_0 : w33.cell? ⟨gb176, 0, none⟩ = some (.int .i64 t169) := bc_ BK176 0; have hcz35_1 : w33.cell? ⟨gb176, 1, none⟩ = some (.int .i64 t170) := bc_ BK176 1; have hcz35_2 : w33.cell? ⟨gb176, 2, none⟩ = some (.slice Ao30 t171.length co30) := bc_ BK176 2; have hfz35_0 := blk_frozen BK176.out 0; have hfz35_1 := blk_frozen BK176.out 1; have hfz35_2 := blk_frozen BK176.out 2; have hnb36 := NB162_0.out; have hnc36 := NB0_162.out; have hcz37_0 : w33.cell? ⟨gb162, 0, none⟩ = some (.int .i64 0) := bc_ BK162 0; have hcz37_1 : w33.cell? ⟨gb162, 1, none⟩ = some (.int .i64 0) := bc_ BK162 1; have hcz37_2 : w33.cell? ⟨gb162, 2, none⟩ = some (.slice none 0 0) := bc_ BK162 2; have hfz37_0 := blk_frozen BK162.out 0; have hfz37_1 := blk_frozen BK162.out 1; have hfz37_2 := blk_frozen BK162.out 2))
    refine bodyPost_ret (results_cell_row rfl _ _ gb162 28 #[.int .i64 t169, .int .i64 t170, .slice Ao34 y180.length co34] (0, 0) _ rfl (by (with_reducible repeat (first | refine blk_drewN ?_ _ | refine blk_drew ?_ | refine blk_alloc ?_ _)); refine blk_put (cs := #[.int .i64 t169, .int .i64 t170, .slice none 0 0]) ?_ 2 _ rfl; (with_reducible repeat (first | refine blk_drewN ?_ _ | refine blk_drew ?_ | refine blk_alloc ?_ _)); refine blk_put (cs := #[.int .i64 t169, .int .i64 0, .slice none 0 0]) ?_ 1 _ rfl; (with_reducible repeat (first | refine blk_drewN ?_ _ | refine blk_drew ?_ | refine blk_alloc ?_ _)); refine blk_put (cs := #[.int .i64 0, .int .i64 0, .slice none 0 0]) ?_ 0 _ rfl; (with_reducible repeat (first | refine blk_drewN ?_ _ | refine blk_drew ?_ | refine blk_alloc ?_ _)); refine blk_far ?_ NB162_176.out _; (with_reducible repeat (first | refine blk_drewN ?_ _ | refine blk_drew ?_ | refine blk_alloc ?_ _)); exact BK162.out) Try.underlying28 rfl (by kernel_rfl)) rfl ?_
    exact ⟨_, by first | rfl | (simp [errW_none, errW_some] <;> rfl) | (simp [*, errW_none, errW_some] <;> rfl), rm_ (Kd.R_far (p := ⟨gb162, 2, none⟩) (Kd.R_far (p := ⟨gb162, 1, none⟩) (Kd.R_far (p := ⟨gb162, 0, none⟩) (Kd.R_far (p := ⟨gb176, 2, none⟩) (Kd.R_types (Kd.R_types HO182.out BK176.out (by decide)) BK162.out (by decide)) (fun _ hk => hk.1.2) (.slice Ao34 y180.length co34)) (fun _ hk => hk.2) (.int .i64 t169)) (fun _ hk => hk.2) (.int .i64 t170)) (fun _ hk => hk.2) (.slice Ao34 y180.length co34)) (fun _ hk => trivial), is75_ HI0, bi75_ HB.out, kb_ HK.out⟩
   ·rw [if_neg c21] at H
    exact absurd H (by simp)
  ·rw [if_neg c20] at H
   have c20b0 : (t177 == 1) = false := beq_eq_false_iff_ne.mpr c20
   have c20b1 : (t177 != 1) = true := bne_iff_ne.mpr c20
   by_cases c38 : t177 = 2
   ·rw [if_pos c38] at H
    have c38b0 : (t177 == 2) = true := beq_iff_eq.mpr c38
    have c38b1 : (t177 != 2) = false := bne_eq_false_iff_eq.mpr c38
    clear c38
    by_cases c39 : (t171.length : Int) > 0
    ·rw [if_pos c39] at H
     have c39b0 : decide (0 < (t171.length : Int)) = true := decide_eq_true c39
     have c39b1 : decide (0 < t171.length) = true := decide_eq_true (by omega)
     clear c39
     replace H := Option.bind_eq_some_iff.mp H
     obtain ⟨⟨t183, t184, t185⟩, A400, H⟩ := H
     replace H : ((some (([1000000000000, 1000000000001, (-1000000000000), (-1000000000001), (-9223372036854775808)] : List Int) : List Int)).bind fun y186 => ((spec_l01Next.f s0_0 t184 t185 5).bind fun bt189 => (if 0 ≤ bt189.1 then (if bt189.1 < (y186.length : Int) then (if 0 ≤ t183 then (if t183 < (t171.length : Int) then (some (t169, t170, (t171.set (t183 : Int).toNat (rd y186 bt189.1)), bt189.2.1, bt189.2.2)) else (none)) else (none)) else (none)) else (none)))) = some (r1, r2, r3, r4, r5) := H
     have A40 := am_ A400
     clear A400
     obtain ⟨y186, hy186⟩ : ∃ y_ : List Int, y_ = (([1000000000000, 1000000000001, (-1000000000000), (-1000000000001), (-9223372036854775808)] : List Int)) := ⟨_, rfl⟩
     replace H : ((spec_l01Next.f s0_0 t184 t185 5).bind fun bt189 => (if 0 ≤ bt189.1 then (if bt189.1 < (y186.length : Int) then (if 0 ≤ t183 then (if t183 < (t171.length : Int) then (some (t169, t170, (t171.set (t183 : Int).toNat (rd y186 bt189.1)), bt189.2.1, bt189.2.2)) else (none)) else (none)) else (none)) else (none))) = some (r1, r2, r3, r4, r5) := by first | (rw [hy186]; with_reducible exact H) | (have H2_ := (Option.bind_some _ _).symm.trans H; rw [hy186]; with_reducible exact H2_) | (have H2_ := (Option.bind_some _ _).symm.trans H; with_reducible exact H2_) | with_reducible exact H | (rw [hy186]; exact H) | exact H
     have Ny186 := am_ hy186
     clear hy186
     replace H := Option.bind_eq_some_iff.mp H
     obtain ⟨⟨t189, t190, t191⟩, A410, H⟩ := H
     replace H : (if 0 ≤ t189 then (if t189 < (y186.length : Int) then (if 0 ≤ t183 then (if t183 < (t171.length : Int) then (some (t169, t170, (t171.set (t183 : Int).toNat (rd y186 t189)), t190, t191)) else (none)) else (none)) else (none)) else (none)) = some (r1, r2, r3, r4, r5) := H
     have A41 := am_ A410
     clear A410
     by_cases c42 : 0 ≤ t189
     ·rw [if_pos c42] at H
      have c42b0 : decide (0 ≤ t189) = true := decide_eq_true c42
      clear c42
      by_cases c43 : t189 < (y186.length : Int)
      ·rw [if_pos c43] at H
       have c43b0 : decide (t189 < (y186.length : Int)) = true := decide_eq_true c43
       clear c43
       by_cases c44 : 0 ≤ t183
       ·rw [if_pos c44] at H
        have c44b0 : decide (0 ≤ t183) = true := decide_eq_true c44
        clear c44
        by_cases c45 : t183 < (t171.length : Int)
        ·rw [if_pos c45] at H
         have c45b0 : decide (t183 < (t171.length : Int)) = true := decide_eq_true c45
         clear c45
         obtain ⟨y193, hy193⟩ : ∃ y_ : List Int, y_ = (t171.set (t183 : Int).toNat (rd y186 t189)) := ⟨_, rfl⟩
         replace H : (some (t169, t170, y193, t190, t191)) = some (r1, r2, r3, r4, r5) := by first | (rw [hy193]; with_reducible exact H) | (have H2_ := (Option.bind_some _ _).symm.trans H; rw [hy193]; with_reducible exact H2_) | (have H2_ := (Option.bind_some _ _).symm.trans H; with_reducible exact H2_) | with_reducible exact H | (rw [hy193]; exact H) | exact H
         have Ny193 := am_ hy193
         clear hy193
         simp only [Option.some.injEq, Prod.mk.injEq] at H
         obtain ⟨rfl, rfl, rfl, rfl, rfl⟩ := H
         go_enter Try.func33, Try.ntmps33
         try go_wp2_with (first | ((with_reducible refine gate_dst (N := 2) rfl ?_); refine box_event ?hg (N := 2) ?hd (cs := #[.int .i64 0, .int .i64 0, .slice none 0 0]) (t := 28) ?hr ?_; (case hd => rfl); (case hg => rfl); (case hr => first | (go_simp; done) | (go_simp; rfl)); intro gb162 hg w47 hbox hb; have n0_ := am_ (IsS75.below (is75_ HI0) hb); have n1_ := am_ (KeepBut.trans (kb_ HK.out) (KeepBut.of_below hb g none) (.inl rfl)); have n2_ := am_ (below_step (bi75_ HB.out) hb); have n3_ := am_ (hbox); have n4_ := am_ ((by rw [hg]; exact (keep_size (w := w) (g := g) (row := none) (kb_ HK.out)) : w.heap.size ≤ gb162)); have n5_ := am_ ((Nat.le_trans HW0.out (by rw [hg]; exact (keep_size (w := w) (g := g) (row := none) (kb_ HK.out)) : w.heap.size ≤ gb162) : w0.heap.size ≤ gb162)); have n6_ := am_ ((by rw [hg]; exact Nat.ne_of_lt (IsS75.lt (show IsS75 w0 _ g s0_0 s0_1 s0_2 from is75_ HI0)) : g ≠ gb162)); have n7_ := am_ ((by rw [hg]; exact Nat.ne_of_gt (IsS75.lt (show IsS75 w0 _ g s0_0 s0_1 s0_2 from is75_ HI0)) : gb162 ≠ g)); clear HI0 HK HB; revert n0_ n1_ n2_ n3_ n4_ n5_ n6_ n7_; intro HI0 HK HB BK162 GW162 GE162 NB0_162 NB162_0; clear hb hbox hg) | ((with_reducible refine gate_callee (f := 35) rfl ?_); refine goesL_ (some 7) rfl rfl Try.func35 (by kernel_rfl) rfl #[.pointer (some ⟨g, 0, none⟩), .int .i64 5] rfl lm_ ?_; (with_reducible refine (spec_l01Next.calls g s0_0 s0_1 s0_2 5 t163 t164 t165 w0 _ ?side1 ?side2 A2.out).mono ?_); (case side1 => exact is75_ HI0); (case side2 => exact bi75_ HB.out); rintro e w48 ⟨rfl, hi, hb, hk⟩; refine ⟨_, rfl, ?_⟩; have n0_ := am_ (KeepBut.blk hk (g' := gb162) (o := .cells #[.int .i64 0, .int .i64 0, .slice none 0 0] 28 (0, 0)) (bk_ BK162.out) NB162_0.out (by simp)); have n1_ := am_ (KeepBut.trans (kb_ HK.out) hk (.inl rfl)); have n2_ := am_ (hb); have n3_ := am_ (hi); clear BK162 HK HB HI0; revert n0_ n1_ n2_ n3_; intro BK162 HK HB HI0; (try clear hb); (try clear hb2); (try clear hk); (try clear hi)) | ((with_reducible refine gate_callee (f := 35) rfl ?_); refine goesL_ (some 9) rfl rfl Try.func35 (by kernel_rfl) rfl #[.pointer (some ⟨g, 0, none⟩), .int .i64 5] rfl lm_ ?_; (with_reducible refine (spec_l01Next.calls g s0_0 t164 t165 5 t166 t167 t168 w0 _ ?side1 ?side2 A3.out).mono ?_); (case side1 => exact is75_ HI0); (case side2 => exact bi75_ HB.out); rintro e w49 ⟨rfl, hi, hb, hk⟩; refine ⟨_, rfl, ?_⟩; have n0_ := am_ (KeepBut.blk hk (g' := gb162) (o := .cells #[.int .i64 0, .int .i64 0, .slice none 0 0] 28 (0, 0)) (bk_ BK162.out) NB162_0.out (by simp)); have n1_ := am_ (KeepBut.trans (kb_ HK.out) hk (.inl rfl)); have n2_ := am_ (hb); have n3_ := am_ (hi); clear BK162 HK HB HI0; revert n0_ n1_ n2_ n3_; intro BK162 HK HB HI0; (try clear hb); (try clear hb2); (try clear hk); (try clear hi)) | ((with_reducible refine gate_callee (f := 34) rfl ?_); refine goesL_ (some 10) rfl rfl Try.func34 (by kernel_rfl) rfl #[.pointer (some ⟨g, 0, none⟩), .int .i64 t163, .int .i64 t166] rfl lm_ ?_; (with_reducible refine (spec_l01DrawSize.calls k g s0_0 t167 t168 t163 t166 t169 t170 t171 t174 t175 w0 _ ?side1 ?side2 A4.out).mono ?_); (case side1 => exact is75_ HI0); (case side2 => exact bi75_ HB.out); rintro e w50 ⟨v172, rfl, ho0, hi, hb, hk⟩; refine ⟨_, rfl, ?_⟩; have n0_ := am_ (KeepBut.blk hk (g' := gb162) (o := .cells #[.int .i64 0, .int .i64 0, .slice none 0 0] 28 (0, 0)) (bk_ BK162.out) NB162_0.out (by simp)); have n1_ := am_ (Kd.R_lower ho0 (keep_size (w := w) (g := g) (row := none) (kb_ HK.out))); have n2_ := am_ (KeepBut.trans (kb_ HK.out) hk (.inl rfl)); have n3_ := am_ (hb); have n4_ := am_ (hi); clear BK162 HK HB HI0; revert n0_ n1_ n2_ n3_ n4_; intro BK162 HO173 HK HB HI0; (try clear hb); (try clear hb2); (try clear hk); (try clear hi); (try clear ho0)) | ((with_reducible refine gate_dst (N := 3) rfl ?_); refine box_event ?hg (N := 3) ?hd (cs := #[.int .i64 0, .int .i64 0, .slice none 0 0]) (t := 28) ?hr ?_; (case hd => rfl); (case hg => rfl); (case hr => first | (go_simp; done) | (go_simp; rfl)); intro gb176 hg w51 hbox hb; have n0_ := am_ (Kd.R_below (rk_ HO173.out) hb); have n1_ := am_ (IsS75.below (is75_ HI0) hb); have n2_ := am_ (bw_ BK162 hb); have n3_ := am_ (KeepBut.trans (kb_ HK.out) (KeepBut.of_below hb g none) (.inl rfl)); have n4_ := am_ (below_step (bi75_ HB.out) hb); have n5_ := am_ (hbox); have n6_ := am_ ((by rw [hg]; exact (keep_size (w := w) (g := g) (row := none) (kb_ HK.out)) : w.heap.size ≤ gb176)); have n7_ := am_ ((Nat.le_trans HW0.out (by rw [hg]; exact (keep_size (w := w) (g := g) (row := none) (kb_ HK.out)) : w.heap.size ≤ gb176) : w0.heap.size ≤ gb176)); have n8_ := am_ (nl_ BK162 hg); have n9_ := am_ (ng_ BK162 hg); have n10_ := am_ ((by rw [hg]; exact Nat.ne_of_lt (IsS75.lt (show IsS75 w0 _ g s0_0 t174 t175 from is75_ HI0)) : g ≠ gb176)); have n11_ := am_ ((by rw [hg]; exact Nat.ne_of_gt (IsS75.lt (show IsS75 w0 _ g s0_0 t174 t175 from is75_ HI0)) : gb176 ≠ g)); clear HO173 HI0 BK162 HK HB; revert n0_ n1_ n2_ n3_ n4_ n5_ n6_ n7_ n8_ n9_ n10_ n11_; intro HO173 HI0 BK162 HK HB BK176 GW176 GE176 NB162_176 NB176_162 NB0_176 NB176_0; clear hb hbox hg; have hnb52 := NB176_162.out; have hnc52 := NB162_176.out; have hnb53 := NB176_0.out; have hnc53 := NB0_176.out; have hcz54_0 : w51.cell? ⟨gb176, 0, none⟩ = some (.int .i64 0) := bc_ BK176 0; have hcz54_1 : w51.cell? ⟨gb176, 1, none⟩ = some (.int .i64 0) := bc_ BK176 1; have hcz54_2 : w51.cell? ⟨gb176, 2, none⟩ = some (.slice none 0 0) := bc_ BK176 2; have hfz54_0 := blk_frozen BK176.out 0; have hfz54_1 := blk_frozen BK176.out 1; have hfz54_2 := blk_frozen BK176.out 2; obtain ⟨Ao55, co55, eo55⟩ := Kd.R_slice HO173.out; subst eo55) | ((with_reducible refine gate_callee (f := 35) rfl ?_); refine goesL_ (some 12) rfl rfl Try.func35 (by kernel_rfl) rfl #[.pointer (some ⟨g, 0, none⟩), .int .i64 24] rfl lm_ ?_; (with_reducible refine (spec_l01Next.calls g s0_0 t174 t175 24 t177 t178 t179 w0 _ ?side1 ?side2 A5.out).mono ?_); (case side1 => exact is75_ HI0); (case side2 => exact bi75_ HB.out); rintro e w56 ⟨rfl, hi, hb, hk⟩; refine ⟨_, rfl, ?_⟩; have n0_ := am_ (KeepBut.blk hk (g' := gb162) (o := .cells #[.int .i64 0, .int .i64 0, .slice none 0 0] 28 (0, 0)) (bk_ BK162.out) NB162_0.out (by simp)); have n1_ := am_ (Kd.R_mono (Kd.R_keep (IsS75.apart (show IsS75 w0 _ g s0_0 t174 t175 from is75_ HI0) ((rm_ (Kd.R_far (p := ⟨gb176, 2, none⟩) (Kd.R_far (p := ⟨gb176, 1, none⟩) (Kd.R_far (p := ⟨gb176, 0, none⟩) (Kd.R_types HO173.out BK176.out (by decide)) (fun _ hk => hk.2) (.int .i64 t169)) (fun _ hk => hk.2) (.int .i64 t170)) (fun _ hk => hk.2) (.slice Ao55 t171.length co55)) (fun _ h_ => h_.1))) (by decide)) hk (fun _ h => h.2)) (fun _ h => h.1)); have n2_ := am_ (KeepBut.blk hk (g' := gb176) (o := .cells #[.int .i64 t169, .int .i64 t170, .slice Ao55 t171.length co55] 28 (0, 0)) (by (with_reducible repeat (first | refine blk_drewN ?_ _ | refine blk_drew ?_ | refine blk_alloc ?_ _)); refine blk_put (cs := #[.int .i64 t169, .int .i64 t170, .slice none 0 0]) ?_ 2 _ rfl; (with_reducible repeat (first | refine blk_drewN ?_ _ | refine blk_drew ?_ | refine blk_alloc ?_ _)); refine blk_put (cs := #[.int .i64 t169, .int .i64 0, .slice none 0 0]) ?_ 1 _ rfl; (with_reducible repeat (first | refine blk_drewN ?_ _ | refine blk_drew ?_ | refine blk_alloc ?_ _)); refine blk_put (cs := #[.int .i64 0, .int .i64 0, .slice none 0 0]) ?_ 0 _ rfl; (with_reducible repeat (first | refine blk_drewN ?_ _ | refine blk_drew ?_ | refine blk_alloc ?_ _)); exact BK176.out) NB176_0.out (by simp)); have n3_ := am_ (KeepBut.trans (kb_ HK.out) hk (.inl rfl)); have n4_ := am_ (hb); have n5_ := am_ (hi); clear BK162 HO173 BK176 HK HB HI0; revert n0_ n1_ n2_ n3_ n4_ n5_; intro BK162 HO173 BK176 HK HB HI0; (try clear hb); (try clear hb2); (try clear hk); (try clear hi); have hcz57_0 : w56.cell? ⟨gb176, 0, none⟩ = some (.int .i64 t169) := bc_ BK176 0; have hcz57_1 : w56.cell? ⟨gb176, 1, none⟩ = some (.int .i64 t170) := bc_ BK176 1; have hcz57_2 : w56.cell? ⟨gb176, 2, none⟩ = some (.slice Ao55 t171.length co55) := bc_ BK176 2; have hfz57_0 := blk_frozen BK176.out 0; have hfz57_1 := blk_frozen BK176.out 1; have hfz57_2 := blk_frozen BK176.out 2) | ((with_reducible refine gate_callee (f := 35) rfl ?_); refine goesL_ (some 36) rfl rfl Try.func35 (by kernel_rfl) rfl #[.pointer (some ⟨g, 0, none⟩), .int .i64 (t171.length : Int)] rfl lm_ ?_; (with_reducible refine (spec_l01Next.calls g s0_0 t178 t179 (t171.length : Int) t183 t184 t185 w0 _ ?side1 ?side2 A40.out).mono ?_); (case side1 => exact is75_ HI0); (case side2 => exact bi75_ HB.out); rintro e w58 ⟨rfl, hi, hb, hk⟩; refine ⟨_, rfl, ?_⟩; have n0_ := am_ (KeepBut.blk hk (g' := gb162) (o := .cells #[.int .i64 0, .int .i64 0, .slice none 0 0] 28 (0, 0)) (bk_ BK162.out) NB162_0.out (by simp)); have n1_ := am_ (Kd.R_mono (Kd.R_keep (IsS75.apart (show IsS75 w0 _ g s0_0 t178 t179 from is75_ HI0) (rk_ HO173.out) (by decide)) hk (fun _ h => h.2)) (fun _ h => h.1)); have n2_ := am_ (KeepBut.blk hk (g' := gb176) (o := .cells #[.int .i64 t169, .int .i64 t170, .slice Ao55 t171.length co55] 28 (0, 0)) (bk_ BK176.out) NB176_0.out (by simp)); have n3_ := am_ (KeepBut.trans (kb_ HK.out) hk (.inl rfl)); have n4_ := am_ (hb); have n5_ := am_ (hi); clear BK162 HO173 BK176 HK HB HI0; revert n0_ n1_ n2_ n3_ n4_ n5_; intro BK162 HO173 BK176 HK HB HI0; (try clear hb); (try clear hb2); (try clear hk); (try clear hi)))
         have pi192 : (0 ≤ (t189 : Int)) = True := eq_true (of_decide_eq_true (by first | (with_reducible assumption) | assumption))
         have qi192 : (t189 < (y186.length : Int)) = True := eq_true (of_decide_eq_true (by first | (with_reducible assumption) | assumption))
         have n0_ := am_ (Kd.R_drew HO173.out)
         have n1_ := am_ (blk_drew BK162.out)
         have n2_ := am_ (blk_drew BK176.out)
         have n3_ := am_ (IsS75.drew HI0.out)
         have n4_ := am_ (keep_drew HK.out)
         have n5_ := am_ (below_drew1 HB.out)
         clear HO173 BK162 BK176 HI0 HK HB; revert n0_ n1_ n2_ n3_ n4_ n5_; intro HO173 BK162 BK176 HI0 HK HB
         refine start_ (n := 10) (S := fun w' => w'.cell? ⟨gb176, 0, none⟩ = some (.int .i64 t169) ∧ w'.cell? ⟨gb176, 1, none⟩ = some (.int .i64 t170) ∧ w'.cell? ⟨gb176, 2, none⟩ = some (.slice Ao55 t171.length co55)) (ds := [9]) #[false, false, false, false, false, false, false, false, false, false] (by kernel_rfl) rfl rfl ⟨bc_ BK176 0, bc_ BK176 1, bc_ BK176 2⟩ (fun hHeld => ?_); refine with_tabW spec_l01DrawMatrix.tab10 spec_l01DrawMatrix.bits10 (fun HT_ HW_ => ?_)
         generalize w58.drew = w59 at HO173 BK162 BK176 HI0 HK HB hHeld ⊢
         refine pure_ (i := 0) (N := some 37) (v := ?_) (a' := ?_) #[true, false, false, false, false, false, false, false, false, false] rfl rfl (any_of HT_.out (by kernel_rfl)) (fun _ _ _ h => h) (Or.inl ⟨by rfl, ?_⟩) ?_ ?_
         rotate_left
         ·intro w'
          go_simp
          with_reducible rfl
         rotate_left
         ·simp only [Act.put, List.setIfInBounds_toArray, List.set_cons_zero, List.set_cons_succ, i64_w, i32_w]
          rfl
         refine pure_ (i := 2) (N := some 39) (v := ?_) (a' := ?_) #[true, false, true, false, false, false, false, false, false, false] rfl rfl (any_of HT_.out (by kernel_rfl)) (fun _ _ _ h => h) (Or.inl ⟨by rfl, ?_⟩) ?_ ?_
         rotate_left
         ·intro w'
          go_simp
          with_reducible rfl
         rotate_left
         ·simp only [Act.put, List.setIfInBounds_toArray, List.set_cons_zero, List.set_cons_succ, i64_w, i32_w]
          rfl
         refine pure_ (i := 4) (N := some 41) (v := ?_) (a' := ?_) #[true, false, true, false, true, false, false, false, false, false] rfl rfl (any_of HT_.out (by kernel_rfl)) (fun _ _ _ h => h) (Or.inl ⟨by rfl, ?_⟩) ?_ ?_
         rotate_left
         ·intro w'
          go_simp
          with_reducible rfl
         rotate_left
         ·simp only [Act.put, List.setIfInBounds_toArray, List.set_cons_zero, List.set_cons_succ, i64_w, i32_w]
          rfl
         refine take_ (i := 1) (N := some 38) (v := ?_) (a' := ?_) #[true, true, true, false, true, false, false, false, false, false] rfl rfl (take_ofW HT_.out HW_.out (by kernel_rfl)) (fun _ _ _ h => h) (Or.inl ⟨by rfl, ?_⟩) hHeld ?_ ?_
         rotate_left
         ·rintro w' ⟨s0, s1, s2⟩
          go_simp
          with_reducible rfl
         rotate_left
         ·simp only [Act.put, List.setIfInBounds_toArray, List.set_cons_zero, List.set_cons_succ, i64_w, i32_w]
          rfl
         refine join_ (σ := Value × Addr) 4 #[true, true, true, true, true, true, false, false, false, false] (fun s_ => [(40, s_.1), (42, .int .i64 t189)]) (fun s_ w' => (w'.cell? ⟨gb176, 0, none⟩ = some (.int .i64 t169) ∧ w'.cell? ⟨gb176, 1, none⟩ = some (.int .i64 t170) ∧ w'.cell? ⟨gb176, 2, none⟩ = some (.slice Ao55 t171.length co55)) ∧ (Kd.R (Kd.int .i64) 2 w' w.heap.size (fun k_ => some k_ ≠ (s_.1 : Value).ownBlock) (.slice Ao55 t171.length co55) t171) ∧ (Kd.R (Kd.int .i64) 2 w' w.heap.size (fun k_ => some k_ ≠ (.slice Ao55 t171.length co55 : Value).ownBlock) s_.1 y186) ∧ (∃ c_, (s_.1 : Value) = .slice (some s_.2) y186.length c_) ∧ (w'.heap[gb162]? = some (.cells #[.int .i64 0, .int .i64 0, .slice none 0 0] 28 (0, 0))) ∧ (w'.heap[gb176]? = some (.cells #[.int .i64 t169, .int .i64 t170, .slice Ao55 t171.length co55] 28 (0, 0))) ∧ (IsS75 w0 w' g s0_0 t190 t191) ∧ (KeepBut w w' g none) ∧ (Below w0.heap.size w0 w')) ?_ ?_
         rotate_left
         ·intro hCont
          refine two_ (i := 3) (j := 5) (Ni := some 40) (Nj := some 42) #[true, true, true, true, true, false, false, false, false, false] #[true, true, true, false, true, true, false, false, false, false] rfl rfl rfl rfl (two_of HT_.out (by kernel_rfl)) (by decide) (by decide) (fun K hK => ?_) (fun K hK => ?_)
          ·skip
           refine Kd.R_lit_step (Kd.int .i64) _ 2 ?hg (N := 40) ?hd (xs := ([1000000000000, 1000000000001, (-1000000000000), (-1000000000001), (-9223372036854775808)] : List Int)) (inner := [.int .i64 1000000000000, .int .i64 1000000000001, .int .i64 (-1000000000000), .int .i64 (-1000000000001), .int .i64 (-9223372036854775808)]) (ok := fun _ => True) (okp := fun _ => True) ?hr ?hp (fun _ hk => hk) trivial (Below.refl _ _) (Nat.le_refl _) (by simp) ?_; (case hd => rfl); (case hg => rfl); (case hr => first | (go_simp; done) | (go_simp; rfl)); (case hp => exact (Reps.one (show Kd.M (Kd.int .i64) _ _ _ 1000000000000 [.int .i64 1000000000000] from rfl) (Reps.one (show Kd.M (Kd.int .i64) _ _ _ 1000000000001 [.int .i64 1000000000001] from rfl) (Reps.one (show Kd.M (Kd.int .i64) _ _ _ (-1000000000000) [.int .i64 (-1000000000000)] from rfl) (Reps.one (show Kd.M (Kd.int .i64) _ _ _ (-1000000000001) [.int .i64 (-1000000000001)] from rfl) (Reps.one (show Kd.M (Kd.int .i64) _ _ _ (-9223372036854775808) [.int .i64 (-9223372036854775808)] from rfl) (Reps.none _ _)))))))
           intro v187 w60 ho61 hb hg_ hnew_
           clear hg_ hnew_
           (first | rw [← Ny186.out] at ho61 | (simp only [Int.reduceToNat] at ho61; rw [← Ny186.out] at ho61))
           have n0_ := am_ (Kd.R_elder' (rk_ HO173.out) (Kd.R_base ho61) hb)
           have n1_ := am_ (Kd.R_lower (Kd.R_new' ho61 (Kd.R_lt (rk_ HO173.out))) (keep_size (w := w) (g := g) (row := none) (kb_ HK.out)))
           have n2_ := am_ (IsS75.below (is75_ HI0) hb)
           have n3_ := am_ (bw_ BK162 hb)
           have n4_ := am_ (bw_ BK176 hb)
           have n5_ := am_ (KeepBut.trans (kb_ HK.out) (KeepBut.of_below hb g none) (.inl rfl))
           have n6_ := am_ (below_step (bi75_ HB.out) hb)
           clear HO173 HI0 BK162 BK176 HK HB; revert n0_ n1_ n2_ n3_ n4_ n5_ n6_; intro HO173 HO188 HI0 BK162 BK176 HK HB
           clear hb ho61
           obtain ⟨Ao62, co62, eo62⟩ := Kd.R_slice HO188.out
           subst eo62
           obtain ⟨ado62, fo62, _⟩ := Kd.at_int (Kd.R_reads' HO188.out).2.2 0 (by decide) (by rw [Ny186.out]; simp)
           cases fo62
           refine hK.out _ _ ⟨bc_ BK176 0, bc_ BK176 1, bc_ BK176 2⟩ (fun hHeld => ?_)
           clear hK K
           refine norm_ (a' := ?_) ?_ ?_
           rotate_left
           ·show Act.put _ (some 40) _ = _
            simp only [Act.put, List.setIfInBounds_toArray, List.set_cons_zero, List.set_cons_succ, i64_w, i32_w]
            rfl
           refine one_ (i := 5) (N := some 42) #[true, true, true, true, true, true, false, false, false, false] rfl rfl (one_of HT_.out (by kernel_rfl)) (by decide) (fun K hK => ?_)
           refine goes_ Try.func35 (by kernel_rfl) rfl #[.pointer (some ⟨g, 0, none⟩), .int .i64 5] (by rfl) rfl rfl lm_ ?_
           with_reducible refine (spec_l01Next.calls g s0_0 t184 t185 5 t189 t190 t191 w0 _ ?side1 ?side2 A41.out).mono ?_
           (case side1 => exact is75_ HI0)
           (case side2 => exact bi75_ HB.out)
           rintro e w63 ⟨rfl, hi, hb, hk⟩
           refine ⟨_, rfl, ?_⟩
           have n0_ := am_ (KeepBut.blk hk (g' := gb162) (o := .cells #[.int .i64 0, .int .i64 0, .slice none 0 0] 28 (0, 0)) (bk_ BK162.out) NB162_0.out (by simp))
           have n1_ := am_ (Kd.R_mono (Kd.R_keep (IsS75.apart (show IsS75 w0 _ g s0_0 t184 t185 from is75_ HI0) (rk_ HO173.out) (by decide)) hk (fun _ h => h.2)) (fun _ h => h.1))
           have n2_ := am_ (KeepBut.blk hk (g' := gb176) (o := .cells #[.int .i64 t169, .int .i64 t170, .slice Ao55 t171.length co55] 28 (0, 0)) (bk_ BK176.out) NB176_0.out (by simp))
           have n3_ := am_ (Kd.R_mono (Kd.R_keep (IsS75.apart (show IsS75 w0 _ g s0_0 t184 t185 from is75_ HI0) (rk_ HO188.out) (by decide)) hk (fun _ h => h.2)) (fun _ h => h.1))
           have n4_ := am_ (KeepBut.trans (kb_ HK.out) hk (.inl rfl))
           have n5_ := am_ (hb)
           have n6_ := am_ (hi)
           clear BK162 HO173 BK176 HO188 HK HB HI0; revert n0_ n1_ n2_ n3_ n4_ n5_ n6_; intro BK162 HO173 BK176 HO188 HK HB HI0
           (try clear hb)
           (try clear hb2)
           (try clear hk)
           (try clear hi)
           refine hK.out _ _ ⟨bc_ BK176 0, bc_ BK176 1, bc_ BK176 2⟩ (fun hHeld => ?_)
           clear hK K
           refine norm_ (a' := ?_) ?_ ?_
           rotate_left
           ·show Act.put _ (some 42) _ = _
            simp only [Act.put, List.setIfInBounds_toArray, List.set_cons_zero, List.set_cons_succ, i64_w, i32_w]
            rfl
           exact norm_ (by simp only [putAll, Act.put, List.setIfInBounds_toArray, List.set_cons_zero, List.set_cons_succ]) (hCont (.slice (some ado62) y186.length co62, ado62) _ ⟨hHeld, (rm_ HO173.out (fun _ hk => hk.2)), (rm_ HO188.out (fun _ hk => hk.2)), ⟨_, rfl⟩, (bk_ BK162.out), (bk_ BK176.out), (is75_ HI0), (kb_ HK.out), (bi75_ HB.out)⟩)
          ·skip
           refine goes_ Try.func35 (by kernel_rfl) rfl #[.pointer (some ⟨g, 0, none⟩), .int .i64 5] (by rfl) rfl rfl lm_ ?_
           with_reducible refine (spec_l01Next.calls g s0_0 t184 t185 5 t189 t190 t191 w0 _ ?side1 ?side2 A41.out).mono ?_
           (case side1 => exact is75_ HI0)
           (case side2 => exact bi75_ HB.out)
           rintro e w60 ⟨rfl, hi, hb, hk⟩
           refine ⟨_, rfl, ?_⟩
           have n0_ := am_ (KeepBut.blk hk (g' := gb162) (o := .cells #[.int .i64 0, .int .i64 0, .slice none 0 0] 28 (0, 0)) (bk_ BK162.out) NB162_0.out (by simp))
           have n1_ := am_ (Kd.R_mono (Kd.R_keep (IsS75.apart (show IsS75 w0 _ g s0_0 t184 t185 from is75_ HI0) (rk_ HO173.out) (by decide)) hk (fun _ h => h.2)) (fun _ h => h.1))
           have n2_ := am_ (KeepBut.blk hk (g' := gb176) (o := .cells #[.int .i64 t169, .int .i64 t170, .slice Ao55 t171.length co55] 28 (0, 0)) (bk_ BK176.out) NB176_0.out (by simp))
           have n3_ := am_ (KeepBut.trans (kb_ HK.out) hk (.inl rfl))
           have n4_ := am_ (hb)
           have n5_ := am_ (hi)
           clear BK162 HO173 BK176 HK HB HI0; revert n0_ n1_ n2_ n3_ n4_ n5_; intro BK162 HO173 BK176 HK HB HI0
           (try clear hb)
           (try clear hb2)
           (try clear hk)
           (try clear hi)
           refine hK.out _ _ ⟨bc_ BK176 0, bc_ BK176 1, bc_ BK176 2⟩ (fun hHeld => ?_)
           clear hK K
           refine norm_ (a' := ?_) ?_ ?_
           rotate_left
           ·show Act.put _ (some 42) _ = _
            simp only [Act.put, List.setIfInBounds_toArray, List.set_cons_zero, List.set_cons_succ, i64_w, i32_w]
            rfl
           refine one_ (i := 3) (N := some 40) #[true, true, true, true, true, true, false, false, false, false] rfl rfl (one_of HT_.out (by kernel_rfl)) (by decide) (fun K hK => ?_)
           refine Kd.R_lit_step (Kd.int .i64) _ 2 ?hg (N := 40) ?hd (xs := ([1000000000000, 1000000000001, (-1000000000000), (-1000000000001), (-9223372036854775808)] : List Int)) (inner := [.int .i64 1000000000000, .int .i64 1000000000001, .int .i64 (-1000000000000), .int .i64 (-1000000000001), .int .i64 (-9223372036854775808)]) (ok := fun _ => True) (okp := fun _ => True) ?hr ?hp (fun _ hk => hk) trivial (Below.refl _ _) (Nat.le_refl _) (by simp) ?_; (case hd => rfl); (case hg => rfl); (case hr => first | (go_simp; done) | (go_simp; rfl)); (case hp => exact (Reps.one (show Kd.M (Kd.int .i64) _ _ _ 1000000000000 [.int .i64 1000000000000] from rfl) (Reps.one (show Kd.M (Kd.int .i64) _ _ _ 1000000000001 [.int .i64 1000000000001] from rfl) (Reps.one (show Kd.M (Kd.int .i64) _ _ _ (-1000000000000) [.int .i64 (-1000000000000)] from rfl) (Reps.one (show Kd.M (Kd.int .i64) _ _ _ (-1000000000001) [.int .i64 (-1000000000001)] from rfl) (Reps.one (show Kd.M (Kd.int .i64) _ _ _ (-9223372036854775808) [.int .i64 (-9223372036854775808)] from rfl) (Reps.none _ _)))))))
           intro v187 w61 ho62 hb hg_ hnew_
           clear hg_ hnew_
           (first | rw [← Ny186.out] at ho62 | (simp only [Int.reduceToNat] at ho62; rw [← Ny186.out] at ho62))
           have n0_ := am_ (Kd.R_elder' (rk_ HO173.out) (Kd.R_base ho62) hb)
           have n1_ := am_ (Kd.R_lower (Kd.R_new' ho62 (Kd.R_lt (rk_ HO173.out))) (keep_size (w := w) (g := g) (row := none) (kb_ HK.out)))
           have n2_ := am_ (IsS75.below (is75_ HI0) hb)
           have n3_ := am_ (bw_ BK162 hb)
           have n4_ := am_ (bw_ BK176 hb)
           have n5_ := am_ (KeepBut.trans (kb_ HK.out) (KeepBut.of_below hb g none) (.inl rfl))
           have n6_ := am_ (below_step (bi75_ HB.out) hb)
           clear HO173 HI0 BK162 BK176 HK HB; revert n0_ n1_ n2_ n3_ n4_ n5_ n6_; intro HO173 HO188 HI0 BK162 BK176 HK HB
           clear hb ho62
           obtain ⟨Ao63, co63, eo63⟩ := Kd.R_slice HO188.out
           subst eo63
           obtain ⟨ado63, fo63, _⟩ := Kd.at_int (Kd.R_reads' HO188.out).2.2 0 (by decide) (by rw [Ny186.out]; simp)
           cases fo63
           refine hK.out _ _ ⟨bc_ BK176 0, bc_ BK176 1, bc_ BK176 2⟩ (fun hHeld => ?_)
           clear hK K
           refine norm_ (a' := ?_) ?_ ?_
           rotate_left
           ·show Act.put _ (some 40) _ = _
            simp only [Act.put, List.setIfInBounds_toArray, List.set_cons_zero, List.set_cons_succ, i64_w, i32_w]
            rfl
           exact norm_ (by simp only [putAll, Act.put, List.setIfInBounds_toArray, List.set_cons_zero, List.set_cons_succ]) (hCont (.slice (some ado63) y186.length co63, ado63) _ ⟨hHeld, (rm_ HO173.out (fun _ hk => hk.2)), (rm_ HO188.out (fun _ hk => hk.2)), ⟨_, rfl⟩, (bk_ BK162.out), (bk_ BK176.out), (is75_ HI0), (kb_ HK.out), (bi75_ HB.out)⟩)
         rintro ⟨v187, adz_v187⟩ w64 ⟨hS_, h0_, h1_, h2_, h3_, h4_, h5_, h6_, h7_⟩
         have n0_ : Aside0 (Kd.R (Kd.int .i64) 2 w64 w.heap.size (fun k_ => some k_ ≠ (v187 : Value).ownBlock) (.slice Ao55 t171.length co55) t171) := ⟨h0_⟩
         have n1_ : Aside0 (Kd.R (Kd.int .i64) 2 w64 w.heap.size (fun k_ => some k_ ≠ (.slice Ao55 t171.length co55 : Value).ownBlock) v187 y186) := ⟨h1_⟩
         have n2_ : Aside0 (∃ c_, (v187 : Value) = .slice (some adz_v187) y186.length c_) := ⟨h2_⟩
         have n3_ : Aside0 (w64.heap[gb162]? = some (.cells #[.int .i64 0, .int .i64 0, .slice none 0 0] 28 (0, 0))) := ⟨h3_⟩
         have n4_ : Aside0 (w64.heap[gb176]? = some (.cells #[.int .i64 t169, .int .i64 t170, .slice Ao55 t171.length co55] 28 (0, 0))) := ⟨h4_⟩
         have n5_ : Aside0 (IsS75 w0 w64 g s0_0 t190 t191) := ⟨h5_⟩
         have n6_ : Aside0 (KeepBut w w64 g none) := ⟨h6_⟩
         have n7_ : Aside0 (Below w0.heap.size w0 w64) := ⟨h7_⟩
         clear HO173
         clear BK162
         clear BK176
         clear HI0
         clear HK
         clear HB
         clear h0_ h1_ h2_ h3_ h4_ h5_ h6_ h7_
         have HO173 := n0_
         have HO188 := n1_
         have HA_HO188 := n2_
         have BK162 := n3_
         have BK176 := n4_
         have HI0 := n5_
         have HK := n6_
         have HB := n7_
         clear n0_ n1_ n2_ n3_ n4_ n5_ n6_ n7_
         have hHeld : w64.cell? ⟨gb176, 0, none⟩ = some (.int .i64 t169) ∧ w64.cell? ⟨gb176, 1, none⟩ = some (.int .i64 t170) ∧ w64.cell? ⟨gb176, 2, none⟩ = some (.slice Ao55 t171.length co55) := hS_
         obtain ⟨co65, eo65⟩ := HA_HO188.out
         clear HA_HO188
         subst eo65
         have p46 : 0 ≤ (t183 : Int) := of_decide_eq_true (by first | (with_reducible assumption) | assumption)
         have q46 : (t183 : Int) < ((t171.length : Int) : Int) := of_decide_eq_true (by first | (with_reducible assumption) | assumption)
         obtain ⟨go46, co46, eo46, gb46, gl46, cl46, HG46⟩ := Kd.R_form HO173.out (by omega)
         (first | cases eo46 | (injection eo46 with ea_ en_ ec_; (first | subst ea_ | (injection ea_ with ea_; subst ea_)); subst ec_; clear en_))
         have GB46 := am_ gb46
         have GG46 := am_ HG46
         clear gb46 gl46 HG46
         obtain ⟨hx46_0, hf46_0⟩ := Kd.R_celln 0 HO173.out (t183 : Int) p46 q46
         replace p46 := eq_true p46
         replace q46 := eq_true q46
         have HN0_go46 := am_ (show g ≠ go46 from by have h_ := IsS75.own_ne HI0.out HO173.out (by decide); intro e_; exact h_ (by rw [e_]; rfl))
         have HP66 := Kd.R_putn HO173.out (t183 : Int) (rd y186 t189)
         rw [← Ny193.out] at HP66
         have HQ66 := am_ HP66
         clear HP66
         refine norm_ (a' := ?_) ?_ ?_
         rotate_left
         ·simp only [putAll, Act.put, List.setIfInBounds_toArray, List.set_cons_zero, List.set_cons_succ]
          rfl
         refine pure_ (i := 6) (N := some 43) (v := ?_) (a' := ?_) #[true, true, true, true, true, true, true, false, false, false] rfl rfl (any_of HT_.out (by kernel_rfl)) (fun _ _ _ h => h) (Or.inl ⟨by rfl, ?_⟩) ?_ ?_
         rotate_left
         ·intro w'
          go_simp
          with_reducible rfl
         rotate_left
         ·simp only [Act.put, List.setIfInBounds_toArray, List.set_cons_zero, List.set_cons_succ, i64_w, i32_w]
          rfl
         refine one_ (i := 7) (N := some 44) #[true, true, true, true, true, true, true, true, false, false] rfl rfl (one_of HT_.out (by kernel_rfl)) (by decide) (fun K hK => ?_)
         (have p192 : 0 ≤ (t189 : Int) := of_decide_eq_true (by first | (with_reducible assumption) | assumption); have q192 : t189 < (y186.length : Int) := of_decide_eq_true (by first | (with_reducible assumption) | assumption); obtain ⟨ad192, e192, hx192_0⟩ := Kd.at_int (Kd.R_reads' HO188.out).2.2 t189 p192 q192; obtain rfl : adz_v187 = ad192 := (by injection e192))
         refine value_ (w1 := ?_) (v := ?_) (by rfl) rfl ?_ ?_
         rotate_left 2
         ·go_simp
          constructor
          ·rfl
          ·rfl
         clear hx192_0
         refine hK.out _ _ ⟨bc_ BK176 0, bc_ BK176 1, bc_ BK176 2⟩ (fun hHeld => ?_)
         clear hK K
         refine norm_ (a' := ?_) ?_ ?_
         rotate_left
         ·show Act.put _ (some 44) _ = _
          simp only [Act.put, List.setIfInBounds_toArray, List.set_cons_zero, List.set_cons_succ, i64_w, i32_w]
          rfl
         refine pure_ (i := 8) (N := some 45) (v := ?_) (a' := ?_) #[true, true, true, true, true, true, true, true, true, false] rfl rfl (any_of HT_.out (by kernel_rfl)) (fun _ _ _ h => h) (Or.inl ⟨by rfl, ?_⟩) ?_ ?_
         rotate_left
         ·intro w'
          go_simp
          with_reducible rfl
         rotate_left
         ·simp only [Act.put, List.setIfInBounds_toArray, List.set_cons_zero, List.set_cons_succ, i64_w, i32_w]
          rfl
         refine last_ (i := 9) (N := none) #[true, true, true, true, true, true, true, true, true, true] rfl rfl (one_of HT_.out (by kernel_rfl)) (by decide) (fun K hK => ?_)
         refine skip_ (w1 := ?_) (by rfl) rfl ?_ ?_
         rotate_left
         ·go_simp
          rfl
         refine hK.out _ _ ?_
         clear hK K
         refine done_ (done_of HT_.out (by kernel_rfl)) ?_
         have n0_ : Aside0 (Kd.R (Kd.int .i64) 2 (w64.setCell ⟨go46, (t183 : Int).toNat, none⟩ (.int .i64 (rd y186 t189))) w.heap.size (fun k_ => some k_ ≠ (.slice (some adz_v187) y186.length co65 : Value).ownBlock) (.slice (some ⟨go46, 0, none⟩) t171.length co55) y193) := ⟨rk_ HQ66.out⟩
         have n1_ : Aside0 (Kd.R (Kd.int .i64) 2 (w64.setCell ⟨go46, (t183 : Int).toNat, none⟩ (.int .i64 (rd y186 t189))) w.heap.size (fun k_ => some k_ ≠ (.slice (some ⟨go46, 0, none⟩) t171.length co55 : Value).ownBlock) (.slice (some adz_v187) y186.length co65) y186) := ⟨rm_ (Kd.R_far (p := ⟨go46, (t183 : Int).toNat, none⟩) (Kd.R_mono HO188.out (fun k_ hk => (⟨hk, fun e_ => hk (by rw [e_]; rfl)⟩ : _ ∧ k_ ≠ go46))) (fun _ hk => hk.2) (.int .i64 (rd y186 t189))) (fun _ hk => hk.1)⟩
         have n2_ : Aside0 ((w64.setCell ⟨go46, (t183 : Int).toNat, none⟩ (.int .i64 (rd y186 t189))).heap[gb162]? = some (.cells #[.int .i64 0, .int .i64 0, .slice none 0 0] 28 (0, 0))) := ⟨by (with_reducible repeat (first | refine blk_drewN ?_ _ | refine blk_drew ?_ | refine blk_alloc ?_ _)); refine blk_far ?_ (by have h_ := Kd.R_ne HO173.out BK162.out (by decide); intro e_; exact h_ (by rw [e_]; rfl)) _; (with_reducible repeat (first | refine blk_drewN ?_ _ | refine blk_drew ?_ | refine blk_alloc ?_ _)); exact BK162.out⟩
         have n3_ : Aside0 ((w64.setCell ⟨go46, (t183 : Int).toNat, none⟩ (.int .i64 (rd y186 t189))).heap[gb176]? = some (.cells #[.int .i64 t169, .int .i64 t170, .slice (some ⟨go46, 0, none⟩) t171.length co55] 28 (0, 0))) := ⟨by (with_reducible repeat (first | refine blk_drewN ?_ _ | refine blk_drew ?_ | refine blk_alloc ?_ _)); refine blk_far ?_ (by have h_ := Kd.R_ne HO173.out BK176.out (by decide); intro e_; exact h_ (by rw [e_]; rfl)) _; (with_reducible repeat (first | refine blk_drewN ?_ _ | refine blk_drew ?_ | refine blk_alloc ?_ _)); exact BK176.out⟩
         have n4_ : Aside0 (IsS75 w0 (w64.setCell ⟨go46, (t183 : Int).toNat, none⟩ (.int .i64 (rd y186 t189))) g s0_0 t190 t191) := ⟨by repeat (first | (with_reducible first | exact HI0.out | apply IsS75.alloc | apply IsS75.drewN | apply IsS75.drew | apply IsS75.set_1 | apply IsS75.set_2 | refine IsS75.far ?_ HN0_go46.out _ | refine IsS75.far ?_ NB0_162.out _ | refine IsS75.far ?_ NB0_176.out _) | exact HI0.out)⟩
         have n5_ : Aside0 (KeepBut w (w64.setCell ⟨go46, (t183 : Int).toNat, none⟩ (.int .i64 (rd y186 t189))) g none) := ⟨by repeat (first | (with_reducible first | exact HK.out | apply KeepBut.set_ | apply keep_drewN | apply keep_drew | apply keep_alloc | refine keep_far ?_ GB46.out _ | refine keep_far ?_ GW162.out _ | refine keep_far ?_ GW176.out _) | exact HK.out)⟩
         have n6_ : Aside0 (Below w0.heap.size w0 (w64.setCell ⟨go46, (t183 : Int).toNat, none⟩ (.int .i64 (rd y186 t189)))) := ⟨by repeat (first | (with_reducible first | exact HB.out | apply below_alloc | apply pw_below_drewN | apply below_drew1 | refine below_set ?_ (Nat.le_trans HL.out GB46.out) | refine below_set ?_ (IsS75.ge HI0.out) | refine below_set ?_ GE162.out | refine below_set ?_ GE176.out) | exact HB.out)⟩
         (try clear HO173)
         (try clear HO188)
         (try clear BK162)
         (try clear BK176)
         (try clear HI0)
         (try clear HK)
         (try clear HB)
         generalize (w64.setCell ⟨go46, (t183 : Int).toNat, none⟩ (.int .i64 (rd y186 t189))) = w67 at n0_ n1_ n2_ n3_ n4_ n5_ n6_ ⊢
         have HO173 := n0_
         have HO188 := n1_
         have BK162 := n2_
         have BK176 := n3_
         have HI0 := n4_
         have HK := n5_
         have HB := n6_
         clear n0_ n1_ n2_ n3_ n4_ n5_ n6_
         have hcz68_0 : w67.cell? ⟨gb176, 0, none⟩ = some (.int .i64 t169) := bc_ BK176 0
         have hcz68_1 : w67.cell? ⟨gb176, 1, none⟩ = some (.int .i64 t170) := bc_ BK176 1
         have hcz68_2 : w67.cell? ⟨gb176, 2, none⟩ = some (.slice (some ⟨go46, 0, none⟩) t171.length co55) := bc_ BK176 2
         have hfz68_0 := blk_frozen BK176.out 0
         have hfz68_1 := blk_frozen BK176.out 1
         have hfz68_2 := blk_frozen BK176.out 2
         have hnb69 := NB162_0.out
         have hnc69 := NB0_162.out
         have hcz70_0 : w67.cell? ⟨gb162, 0, none⟩ = some (.int .i64 0) := bc_ BK162 0
         have hcz70_1 : w67.cell? ⟨gb162, 1, none⟩ = some (.int .i64 0) := bc_ BK162 1
         have hcz70_2 : w67.cell? ⟨gb162, 2, none⟩ = some (.slice none 0 0) := bc_ BK162 2
         have hfz70_0 := blk_frozen BK162.out 0
         have hfz70_1 := blk_frozen BK162.out 1
         have hfz70_2 := blk_frozen BK162.out 2
         try go_wp2
         refine bodyPost_ret (results_cell_row rfl _ _ gb162 28 #[.int .i64 t169, .int .i64 t170, .slice (some ⟨go46, 0, none⟩) t171.length co55] (0, 0) _ rfl (by (with_reducible repeat (first | refine blk_drewN ?_ _ | refine blk_drew ?_ | refine blk_alloc ?_ _)); refine blk_put (cs := #[.int .i64 t169, .int .i64 t170, .slice none 0 0]) ?_ 2 _ rfl; (with_reducible repeat (first | refine blk_drewN ?_ _ | refine blk_drew ?_ | refine blk_alloc ?_ _)); refine blk_put (cs := #[.int .i64 t169, .int .i64 0, .slice none 0 0]) ?_ 1 _ rfl; (with_reducible repeat (first | refine blk_drewN ?_ _ | refine blk_drew ?_ | refine blk_alloc ?_ _)); refine blk_put (cs := #[.int .i64 0, .int .i64 0, .slice none 0 0]) ?_ 0 _ rfl; (with_reducible repeat (first | refine blk_drewN ?_ _ | refine blk_drew ?_ | refine blk_alloc ?_ _)); exact BK162.out) Try.underlying28 rfl (by kernel_rfl)) rfl ?_
         exact ⟨_, by first | rfl | (simp [errW_none, errW_some] <;> rfl) | (simp [*, errW_none, errW_some] <;> rfl), rm_ (Kd.R_far (p := ⟨gb162, 2, none⟩) (Kd.R_far (p := ⟨gb162, 1, none⟩) (Kd.R_far (p := ⟨gb162, 0, none⟩) (Kd.R_types HO173.out BK162.out (by decide)) (fun _ hk => hk.2) (.int .i64 t169)) (fun _ hk => hk.2) (.int .i64 t170)) (fun _ hk => hk.2) (.slice (some ⟨go46, 0, none⟩) t171.length co55)) (fun _ hk => trivial), is75_ HI0, bi75_ HB.out, kb_ HK.out⟩
        ·rw [if_neg c45] at H
         exact absurd H (by simp)
       ·rw [if_neg c44] at H
        exact absurd H (by simp)
      ·rw [if_neg c43] at H
       exact absurd H (by simp)
     ·rw [if_neg c42] at H
      exact absurd H (by simp)
    ·rw [if_neg c39] at H
     have c39b0 : decide (0 < (t171.length : Int)) = false := decide_eq_false c39
     have c39b1 : decide (0 < t171.length) = false := decide_eq_false (by omega)
     clear c39
     simp only [Option.some.injEq, Prod.mk.injEq] at H
     obtain ⟨rfl, rfl, rfl, rfl, rfl⟩ := H
     go_enter Try.func33, Try.ntmps33
     go_wp2_with (first | ((with_reducible refine gate_dst (N := 2) rfl ?_); refine box_event ?hg (N := 2) ?hd (cs := #[.int .i64 0, .int .i64 0, .slice none 0 0]) (t := 28) ?hr ?_; (case hd => rfl); (case hg => rfl); (case hr => first | (go_simp; done) | (go_simp; rfl)); intro gb162 hg w71 hbox hb; have n0_ := am_ (IsS75.below (is75_ HI0) hb); have n1_ := am_ (KeepBut.trans (kb_ HK.out) (KeepBut.of_below hb g none) (.inl rfl)); have n2_ := am_ (below_step (bi75_ HB.out) hb); have n3_ := am_ (hbox); have n4_ := am_ ((by rw [hg]; exact (keep_size (w := w) (g := g) (row := none) (kb_ HK.out)) : w.heap.size ≤ gb162)); have n5_ := am_ ((Nat.le_trans HW0.out (by rw [hg]; exact (keep_size (w := w) (g := g) (row := none) (kb_ HK.out)) : w.heap.size ≤ gb162) : w0.heap.size ≤ gb162)); have n6_ := am_ ((by rw [hg]; exact Nat.ne_of_lt (IsS75.lt (show IsS75 w0 _ g s0_0 s0_1 s0_2 from is75_ HI0)) : g ≠ gb162)); have n7_ := am_ ((by rw [hg]; exact Nat.ne_of_gt (IsS75.lt (show IsS75 w0 _ g s0_0 s0_1 s0_2 from is75_ HI0)) : gb162 ≠ g)); clear HI0 HK HB; revert n0_ n1_ n2_ n3_ n4_ n5_ n6_ n7_; intro HI0 HK HB BK162 GW162 GE162 NB0_162 NB162_0; clear hb hbox hg) | ((with_reducible refine gate_callee (f := 35) rfl ?_); refine goesL_ (some 7) rfl rfl Try.func35 (by kernel_rfl) rfl #[.pointer (some ⟨g, 0, none⟩), .int .i64 5] rfl lm_ ?_; (with_reducible refine (spec_l01Next.calls g s0_0 s0_1 s0_2 5 t163 t164 t165 w0 _ ?side1 ?side2 A2.out).mono ?_); (case side1 => exact is75_ HI0); (case side2 => exact bi75_ HB.out); rintro e w72 ⟨rfl, hi, hb, hk⟩; refine ⟨_, rfl, ?_⟩; have n0_ := am_ (KeepBut.blk hk (g' := gb162) (o := .cells #[.int .i64 0, .int .i64 0, .slice none 0 0] 28 (0, 0)) (bk_ BK162.out) NB162_0.out (by simp)); have n1_ := am_ (KeepBut.trans (kb_ HK.out) hk (.inl rfl)); have n2_ := am_ (hb); have n3_ := am_ (hi); clear BK162 HK HB HI0; revert n0_ n1_ n2_ n3_; intro BK162 HK HB HI0; (try clear hb); (try clear hb2); (try clear hk); (try clear hi)) | ((with_reducible refine gate_callee (f := 35) rfl ?_); refine goesL_ (some 9) rfl rfl Try.func35 (by kernel_rfl) rfl #[.pointer (some ⟨g, 0, none⟩), .int .i64 5] rfl lm_ ?_; (with_reducible refine (spec_l01Next.calls g s0_0 t164 t165 5 t166 t167 t168 w0 _ ?side1 ?side2 A3.out).mono ?_); (case side1 => exact is75_ HI0); (case side2 => exact bi75_ HB.out); rintro e w73 ⟨rfl, hi, hb, hk⟩; refine ⟨_, rfl, ?_⟩; have n0_ := am_ (KeepBut.blk hk (g' := gb162) (o := .cells #[.int .i64 0, .int .i64 0, .slice none 0 0] 28 (0, 0)) (bk_ BK162.out) NB162_0.out (by simp)); have n1_ := am_ (KeepBut.trans (kb_ HK.out) hk (.inl rfl)); have n2_ := am_ (hb); have n3_ := am_ (hi); clear BK162 HK HB HI0; revert n0_ n1_ n2_ n3_; intro BK162 HK HB HI0; (try clear hb); (try clear hb2); (try clear hk); (try clear hi)) | ((with_reducible refine gate_callee (f := 34) rfl ?_); refine goesL_ (some 10) rfl rfl Try.func34 (by kernel_rfl) rfl #[.pointer (some ⟨g, 0, none⟩), .int .i64 t163, .int .i64 t166] rfl lm_ ?_; (with_reducible refine (spec_l01DrawSize.calls k g s0_0 t167 t168 t163 t166 t169 t170 t171 t174 t175 w0 _ ?side1 ?side2 A4.out).mono ?_); (case side1 => exact is75_ HI0); (case side2 => exact bi75_ HB.out); rintro e w74 ⟨v172, rfl, ho0, hi, hb, hk⟩; refine ⟨_, rfl, ?_⟩; have n0_ := am_ (KeepBut.blk hk (g' := gb162) (o := .cells #[.int .i64 0, .int .i64 0, .slice none 0 0] 28 (0, 0)) (bk_ BK162.out) NB162_0.out (by simp)); have n1_ := am_ (Kd.R_lower ho0 (keep_size (w := w) (g := g) (row := none) (kb_ HK.out))); have n2_ := am_ (KeepBut.trans (kb_ HK.out) hk (.inl rfl)); have n3_ := am_ (hb); have n4_ := am_ (hi); clear BK162 HK HB HI0; revert n0_ n1_ n2_ n3_ n4_; intro BK162 HO173 HK HB HI0; (try clear hb); (try clear hb2); (try clear hk); (try clear hi); (try clear ho0)) | ((with_reducible refine gate_dst (N := 3) rfl ?_); refine box_event ?hg (N := 3) ?hd (cs := #[.int .i64 0, .int .i64 0, .slice none 0 0]) (t := 28) ?hr ?_; (case hd => rfl); (case hg => rfl); (case hr => first | (go_simp; done) | (go_simp; rfl)); intro gb176 hg w75 hbox hb; have n0_ := am_ (Kd.R_below (rk_ HO173.out) hb); have n1_ := am_ (IsS75.below (is75_ HI0) hb); have n2_ := am_ (bw_ BK162 hb); have n3_ := am_ (KeepBut.trans (kb_ HK.out) (KeepBut.of_below hb g none) (.inl rfl)); have n4_ := am_ (below_step (bi75_ HB.out) hb); have n5_ := am_ (hbox); have n6_ := am_ ((by rw [hg]; exact (keep_size (w := w) (g := g) (row := none) (kb_ HK.out)) : w.heap.size ≤ gb176)); have n7_ := am_ ((Nat.le_trans HW0.out (by rw [hg]; exact (keep_size (w := w) (g := g) (row := none) (kb_ HK.out)) : w.heap.size ≤ gb176) : w0.heap.size ≤ gb176)); have n8_ := am_ (nl_ BK162 hg); have n9_ := am_ (ng_ BK162 hg); have n10_ := am_ ((by rw [hg]; exact Nat.ne_of_lt (IsS75.lt (show IsS75 w0 _ g s0_0 t174 t175 from is75_ HI0)) : g ≠ gb176)); have n11_ := am_ ((by rw [hg]; exact Nat.ne_of_gt (IsS75.lt (show IsS75 w0 _ g s0_0 t174 t175 from is75_ HI0)) : gb176 ≠ g)); clear HO173 HI0 BK162 HK HB; revert n0_ n1_ n2_ n3_ n4_ n5_ n6_ n7_ n8_ n9_ n10_ n11_; intro HO173 HI0 BK162 HK HB BK176 GW176 GE176 NB162_176 NB176_162 NB0_176 NB176_0; clear hb hbox hg; have hnb76 := NB176_162.out; have hnc76 := NB162_176.out; have hnb77 := NB176_0.out; have hnc77 := NB0_176.out; have hcz78_0 : w75.cell? ⟨gb176, 0, none⟩ = some (.int .i64 0) := bc_ BK176 0; have hcz78_1 : w75.cell? ⟨gb176, 1, none⟩ = some (.int .i64 0) := bc_ BK176 1; have hcz78_2 : w75.cell? ⟨gb176, 2, none⟩ = some (.slice none 0 0) := bc_ BK176 2; have hfz78_0 := blk_frozen BK176.out 0; have hfz78_1 := blk_frozen BK176.out 1; have hfz78_2 := blk_frozen BK176.out 2; obtain ⟨Ao79, co79, eo79⟩ := Kd.R_slice HO173.out; subst eo79) | ((with_reducible refine gate_callee (f := 35) rfl ?_); refine goesL_ (some 12) rfl rfl Try.func35 (by kernel_rfl) rfl #[.pointer (some ⟨g, 0, none⟩), .int .i64 24] rfl lm_ ?_; (with_reducible refine (spec_l01Next.calls g s0_0 t174 t175 24 t177 t178 t179 w0 _ ?side1 ?side2 A5.out).mono ?_); (case side1 => exact is75_ HI0); (case side2 => exact bi75_ HB.out); rintro e w80 ⟨rfl, hi, hb, hk⟩; refine ⟨_, rfl, ?_⟩; have n0_ := am_ (KeepBut.blk hk (g' := gb162) (o := .cells #[.int .i64 0, .int .i64 0, .slice none 0 0] 28 (0, 0)) (bk_ BK162.out) NB162_0.out (by simp)); have n1_ := am_ (Kd.R_mono (Kd.R_keep (IsS75.apart (show IsS75 w0 _ g s0_0 t174 t175 from is75_ HI0) ((rm_ (Kd.R_far (p := ⟨gb176, 2, none⟩) (Kd.R_far (p := ⟨gb176, 1, none⟩) (Kd.R_far (p := ⟨gb176, 0, none⟩) (Kd.R_types HO173.out BK176.out (by decide)) (fun _ hk => hk.2) (.int .i64 t169)) (fun _ hk => hk.2) (.int .i64 t170)) (fun _ hk => hk.2) (.slice Ao79 t171.length co79)) (fun _ h_ => h_.1))) (by decide)) hk (fun _ h => h.2)) (fun _ h => h.1)); have n2_ := am_ (KeepBut.blk hk (g' := gb176) (o := .cells #[.int .i64 t169, .int .i64 t170, .slice Ao79 t171.length co79] 28 (0, 0)) (by (with_reducible repeat (first | refine blk_drewN ?_ _ | refine blk_drew ?_ | refine blk_alloc ?_ _)); refine blk_put (cs := #[.int .i64 t169, .int .i64 t170, .slice none 0 0]) ?_ 2 _ rfl; (with_reducible repeat (first | refine blk_drewN ?_ _ | refine blk_drew ?_ | refine blk_alloc ?_ _)); refine blk_put (cs := #[.int .i64 t169, .int .i64 0, .slice none 0 0]) ?_ 1 _ rfl; (with_reducible repeat (first | refine blk_drewN ?_ _ | refine blk_drew ?_ | refine blk_alloc ?_ _)); refine blk_put (cs := #[.int .i64 0, .int .i64 0, .slice none 0 0]) ?_ 0 _ rfl; (with_reducible repeat (first | refine blk_drewN ?_ _ | refine blk_drew ?_ | refine blk_alloc ?_ _)); exact BK176.out) NB176_0.out (by simp)); have n3_ := am_ (KeepBut.trans (kb_ HK.out) hk (.inl rfl)); have n4_ := am_ (hb); have n5_ := am_ (hi); clear BK162 HO173 BK176 HK HB HI0; revert n0_ n1_ n2_ n3_ n4_ n5_; intro BK162 HO173 BK176 HK HB HI0; (try clear hb); (try clear hb2); (try clear hk); (try clear hi); have hcz81_0 : w80.cell? ⟨gb176, 0, none⟩ = some (.int .i64 t169) := bc_ BK176 0; have hcz81_1 : w80.cell? ⟨gb176, 1, none⟩ = some (.int .i64 t170) := bc_ BK176 1; have hcz81_2 : w80.cell? ⟨gb176, 2, none⟩ = some (.slice Ao79 t171.length co79) := bc_ BK176 2; have hfz81_0 := blk_frozen BK176.out 0; have hfz81_1 := blk_frozen BK176.out 1; have hfz81_2 := blk_frozen BK176.out 2; have hnb82 := NB162_0.out; have hnc82 := NB0_162.out; have hcz83_0 : w80.cell? ⟨gb162, 0, none⟩ = some (.int .i64 0) := bc_ BK162 0; have hcz83_1 : w80.cell? ⟨gb162, 1, none⟩ = some (.int .i64 0) := bc_ BK162 1; have hcz83_2 : w80.cell? ⟨gb162, 2, none⟩ = some (.slice none 0 0) := bc_ BK162 2; have hfz83_0 := blk_frozen BK162.out 0; have hfz83_1 := blk_frozen BK162.out 1; have hfz83_2 := blk_frozen BK162.out 2))
     refine bodyPost_ret (results_cell_row rfl _ _ gb162 28 #[.int .i64 t169, .int .i64 t170, .slice Ao79 t171.length co79] (0, 0) _ rfl (by (with_reducible repeat (first | refine blk_drewN ?_ _ | refine blk_drew ?_ | refine blk_alloc ?_ _)); refine blk_put (cs := #[.int .i64 t169, .int .i64 t170, .slice none 0 0]) ?_ 2 _ rfl; (with_reducible repeat (first | refine blk_drewN ?_ _ | refine blk_drew ?_ | refine blk_alloc ?_ _)); refine blk_put (cs := #[.int .i64 t169, .int .i64 0, .slice none 0 0]) ?_ 1 _ rfl; (with_reducible repeat (first | refine blk_drewN ?_ _ | refine blk_drew ?_ | refine blk_alloc ?_ _)); refine blk_put (cs := #[.int .i64 0, .int .i64 0, .slice none 0 0]) ?_ 0 _ rfl; (with_reducible repeat (first | refine blk_drewN ?_ _ | refine blk_drew ?_ | refine blk_alloc ?_ _)); exact BK162.out) Try.underlying28 rfl (by kernel_rfl)) rfl ?_
     exact ⟨_, by first | rfl | (simp [errW_none, errW_some] <;> rfl) | (simp [*, errW_none, errW_some] <;> rfl), rm_ (Kd.R_far (p := ⟨gb162, 2, none⟩) (Kd.R_far (p := ⟨gb162, 1, none⟩) (Kd.R_far (p := ⟨gb162, 0, none⟩) (Kd.R_types HO173.out BK162.out (by decide)) (fun _ hk => hk.2) (.int .i64 t169)) (fun _ hk => hk.2) (.int .i64 t170)) (fun _ hk => hk.2) (.slice Ao79 t171.length co79)) (fun _ hk => trivial), is75_ HI0, bi75_ HB.out, kb_ HK.out⟩
   ·rw [if_neg c38] at H
    have c38b0 : (t177 == 2) = false := beq_eq_false_iff_ne.mpr c38
    have c38b1 : (t177 != 2) = true := bne_iff_ne.mpr c38
    by_cases c84 : t177 = 3
    ·rw [if_pos c84] at H
     have c84b0 : (t177 == 3) = true := beq_iff_eq.mpr c84
     have c84b1 : (t177 != 3) = false := bne_eq_false_iff_eq.mpr c84
     clear c84
     obtain ⟨y194, hy194⟩ : ∃ y_ : List Int, y_ = (([48, 49, (-1)] : List Int)) := ⟨_, rfl⟩
     replace H : ((spec_l01Next.f s0_0 t178 t179 3).bind fun bt197 => (if 0 ≤ bt197.1 then (if bt197.1 < (y194.length : Int) then (some (0, rd y194 bt197.1, ([] : List Int), bt197.2.1, bt197.2.2)) else (none)) else (none))) = some (r1, r2, r3, r4, r5) := by first | (rw [hy194]; with_reducible exact H) | (have H2_ := (Option.bind_some _ _).symm.trans H; rw [hy194]; with_reducible exact H2_) | (have H2_ := (Option.bind_some _ _).symm.trans H; with_reducible exact H2_) | with_reducible exact H | (rw [hy194]; exact H) | exact H
     have Ny194 := am_ hy194
     clear hy194
     replace H := Option.bind_eq_some_iff.mp H
     obtain ⟨⟨t197, t198, t199⟩, A850, H⟩ := H
     replace H : (if 0 ≤ t197 then (if t197 < (y194.length : Int) then (some (0, rd y194 t197, ([] : List Int), t198, t199)) else (none)) else (none)) = some (r1, r2, r3, r4, r5) := H
     have A85 := am_ A850
     clear A850
     by_cases c86 : 0 ≤ t197
     ·rw [if_pos c86] at H
      have c86b0 : decide (0 ≤ t197) = true := decide_eq_true c86
      clear c86
      by_cases c87 : t197 < (y194.length : Int)
      ·rw [if_pos c87] at H
       have c87b0 : decide (t197 < (y194.length : Int)) = true := decide_eq_true c87
       clear c87
       simp only [Option.some.injEq, Prod.mk.injEq] at H
       obtain ⟨rfl, rfl, rfl, rfl, rfl⟩ := H
       go_enter Try.func33, Try.ntmps33
       go_wp2_with (first | ((with_reducible refine gate_dst (N := 2) rfl ?_); refine box_event ?hg (N := 2) ?hd (cs := #[.int .i64 0, .int .i64 0, .slice none 0 0]) (t := 28) ?hr ?_; (case hd => rfl); (case hg => rfl); (case hr => first | (go_simp; done) | (go_simp; rfl)); intro gb162 hg w88 hbox hb; have n0_ := am_ (IsS75.below (is75_ HI0) hb); have n1_ := am_ (KeepBut.trans (kb_ HK.out) (KeepBut.of_below hb g none) (.inl rfl)); have n2_ := am_ (below_step (bi75_ HB.out) hb); have n3_ := am_ (hbox); have n4_ := am_ ((by rw [hg]; exact (keep_size (w := w) (g := g) (row := none) (kb_ HK.out)) : w.heap.size ≤ gb162)); have n5_ := am_ ((Nat.le_trans HW0.out (by rw [hg]; exact (keep_size (w := w) (g := g) (row := none) (kb_ HK.out)) : w.heap.size ≤ gb162) : w0.heap.size ≤ gb162)); have n6_ := am_ ((by rw [hg]; exact Nat.ne_of_lt (IsS75.lt (show IsS75 w0 _ g s0_0 s0_1 s0_2 from is75_ HI0)) : g ≠ gb162)); have n7_ := am_ ((by rw [hg]; exact Nat.ne_of_gt (IsS75.lt (show IsS75 w0 _ g s0_0 s0_1 s0_2 from is75_ HI0)) : gb162 ≠ g)); clear HI0 HK HB; revert n0_ n1_ n2_ n3_ n4_ n5_ n6_ n7_; intro HI0 HK HB BK162 GW162 GE162 NB0_162 NB162_0; clear hb hbox hg) | ((with_reducible refine gate_callee (f := 35) rfl ?_); refine goesL_ (some 7) rfl rfl Try.func35 (by kernel_rfl) rfl #[.pointer (some ⟨g, 0, none⟩), .int .i64 5] rfl lm_ ?_; (with_reducible refine (spec_l01Next.calls g s0_0 s0_1 s0_2 5 t163 t164 t165 w0 _ ?side1 ?side2 A2.out).mono ?_); (case side1 => exact is75_ HI0); (case side2 => exact bi75_ HB.out); rintro e w89 ⟨rfl, hi, hb, hk⟩; refine ⟨_, rfl, ?_⟩; have n0_ := am_ (KeepBut.blk hk (g' := gb162) (o := .cells #[.int .i64 0, .int .i64 0, .slice none 0 0] 28 (0, 0)) (bk_ BK162.out) NB162_0.out (by simp)); have n1_ := am_ (KeepBut.trans (kb_ HK.out) hk (.inl rfl)); have n2_ := am_ (hb); have n3_ := am_ (hi); clear BK162 HK HB HI0; revert n0_ n1_ n2_ n3_; intro BK162 HK HB HI0; (try clear hb); (try clear hb2); (try clear hk); (try clear hi)) | ((with_reducible refine gate_callee (f := 35) rfl ?_); refine goesL_ (some 9) rfl rfl Try.func35 (by kernel_rfl) rfl #[.pointer (some ⟨g, 0, none⟩), .int .i64 5] rfl lm_ ?_; (with_reducible refine (spec_l01Next.calls g s0_0 t164 t165 5 t166 t167 t168 w0 _ ?side1 ?side2 A3.out).mono ?_); (case side1 => exact is75_ HI0); (case side2 => exact bi75_ HB.out); rintro e w90 ⟨rfl, hi, hb, hk⟩; refine ⟨_, rfl, ?_⟩; have n0_ := am_ (KeepBut.blk hk (g' := gb162) (o := .cells #[.int .i64 0, .int .i64 0, .slice none 0 0] 28 (0, 0)) (bk_ BK162.out) NB162_0.out (by simp)); have n1_ := am_ (KeepBut.trans (kb_ HK.out) hk (.inl rfl)); have n2_ := am_ (hb); have n3_ := am_ (hi); clear BK162 HK HB HI0; revert n0_ n1_ n2_ n3_; intro BK162 HK HB HI0; (try clear hb); (try clear hb2); (try clear hk); (try clear hi)) | ((with_reducible refine gate_callee (f := 34) rfl ?_); refine goesL_ (some 10) rfl rfl Try.func34 (by kernel_rfl) rfl #[.pointer (some ⟨g, 0, none⟩), .int .i64 t163, .int .i64 t166] rfl lm_ ?_; (with_reducible refine (spec_l01DrawSize.calls k g s0_0 t167 t168 t163 t166 t169 t170 t171 t174 t175 w0 _ ?side1 ?side2 A4.out).mono ?_); (case side1 => exact is75_ HI0); (case side2 => exact bi75_ HB.out); rintro e w91 ⟨v172, rfl, ho0, hi, hb, hk⟩; refine ⟨_, rfl, ?_⟩; have n0_ := am_ (KeepBut.blk hk (g' := gb162) (o := .cells #[.int .i64 0, .int .i64 0, .slice none 0 0] 28 (0, 0)) (bk_ BK162.out) NB162_0.out (by simp)); have n1_ := am_ (Kd.R_lower ho0 (keep_size (w := w) (g := g) (row := none) (kb_ HK.out))); have n2_ := am_ (KeepBut.trans (kb_ HK.out) hk (.inl rfl)); have n3_ := am_ (hb); have n4_ := am_ (hi); clear BK162 HK HB HI0; revert n0_ n1_ n2_ n3_ n4_; intro BK162 HO173 HK HB HI0; (try clear hb); (try clear hb2); (try clear hk); (try clear hi); (try clear ho0)) | ((with_reducible refine gate_dst (N := 3) rfl ?_); refine box_event ?hg (N := 3) ?hd (cs := #[.int .i64 0, .int .i64 0, .slice none 0 0]) (t := 28) ?hr ?_; (case hd => rfl); (case hg => rfl); (case hr => first | (go_simp; done) | (go_simp; rfl)); intro gb176 hg w92 hbox hb; have n0_ := am_ (Kd.R_below (rk_ HO173.out) hb); have n1_ := am_ (IsS75.below (is75_ HI0) hb); have n2_ := am_ (bw_ BK162 hb); have n3_ := am_ (KeepBut.trans (kb_ HK.out) (KeepBut.of_below hb g none) (.inl rfl)); have n4_ := am_ (below_step (bi75_ HB.out) hb); have n5_ := am_ (hbox); have n6_ := am_ ((by rw [hg]; exact (keep_size (w := w) (g := g) (row := none) (kb_ HK.out)) : w.heap.size ≤ gb176)); have n7_ := am_ ((Nat.le_trans HW0.out (by rw [hg]; exact (keep_size (w := w) (g := g) (row := none) (kb_ HK.out)) : w.heap.size ≤ gb176) : w0.heap.size ≤ gb176)); have n8_ := am_ (nl_ BK162 hg); have n9_ := am_ (ng_ BK162 hg); have n10_ := am_ ((by rw [hg]; exact Nat.ne_of_lt (IsS75.lt (show IsS75 w0 _ g s0_0 t174 t175 from is75_ HI0)) : g ≠ gb176)); have n11_ := am_ ((by rw [hg]; exact Nat.ne_of_gt (IsS75.lt (show IsS75 w0 _ g s0_0 t174 t175 from is75_ HI0)) : gb176 ≠ g)); clear HO173 HI0 BK162 HK HB; revert n0_ n1_ n2_ n3_ n4_ n5_ n6_ n7_ n8_ n9_ n10_ n11_; intro HO173 HI0 BK162 HK HB BK176 GW176 GE176 NB162_176 NB176_162 NB0_176 NB176_0; clear hb hbox hg; have hnb93 := NB176_162.out; have hnc93 := NB162_176.out; have hnb94 := NB176_0.out; have hnc94 := NB0_176.out; have hcz95_0 : w92.cell? ⟨gb176, 0, none⟩ = some (.int .i64 0) := bc_ BK176 0; have hcz95_1 : w92.cell? ⟨gb176, 1, none⟩ = some (.int .i64 0) := bc_ BK176 1; have hcz95_2 : w92.cell? ⟨gb176, 2, none⟩ = some (.slice none 0 0) := bc_ BK176 2; have hfz95_0 := blk_frozen BK176.out 0; have hfz95_1 := blk_frozen BK176.out 1; have hfz95_2 := blk_frozen BK176.out 2; obtain ⟨Ao96, co96, eo96⟩ := Kd.R_slice HO173.out; subst eo96) | ((with_reducible refine gate_callee (f := 35) rfl ?_); refine goesL_ (some 12) rfl rfl Try.func35 (by kernel_rfl) rfl #[.pointer (some ⟨g, 0, none⟩), .int .i64 24] rfl lm_ ?_; (with_reducible refine (spec_l01Next.calls g s0_0 t174 t175 24 t177 t178 t179 w0 _ ?side1 ?side2 A5.out).mono ?_); (case side1 => exact is75_ HI0); (case side2 => exact bi75_ HB.out); rintro e w97 ⟨rfl, hi, hb, hk⟩; refine ⟨_, rfl, ?_⟩; have n0_ := am_ (KeepBut.blk hk (g' := gb162) (o := .cells #[.int .i64 0, .int .i64 0, .slice none 0 0] 28 (0, 0)) (bk_ BK162.out) NB162_0.out (by simp)); have n1_ := am_ (Kd.R_mono (Kd.R_keep (IsS75.apart (show IsS75 w0 _ g s0_0 t174 t175 from is75_ HI0) ((rm_ (Kd.R_far (p := ⟨gb176, 2, none⟩) (Kd.R_far (p := ⟨gb176, 1, none⟩) (Kd.R_far (p := ⟨gb176, 0, none⟩) (Kd.R_types HO173.out BK176.out (by decide)) (fun _ hk => hk.2) (.int .i64 t169)) (fun _ hk => hk.2) (.int .i64 t170)) (fun _ hk => hk.2) (.slice Ao96 t171.length co96)) (fun _ h_ => h_.1))) (by decide)) hk (fun _ h => h.2)) (fun _ h => h.1)); have n2_ := am_ (KeepBut.blk hk (g' := gb176) (o := .cells #[.int .i64 t169, .int .i64 t170, .slice Ao96 t171.length co96] 28 (0, 0)) (by (with_reducible repeat (first | refine blk_drewN ?_ _ | refine blk_drew ?_ | refine blk_alloc ?_ _)); refine blk_put (cs := #[.int .i64 t169, .int .i64 t170, .slice none 0 0]) ?_ 2 _ rfl; (with_reducible repeat (first | refine blk_drewN ?_ _ | refine blk_drew ?_ | refine blk_alloc ?_ _)); refine blk_put (cs := #[.int .i64 t169, .int .i64 0, .slice none 0 0]) ?_ 1 _ rfl; (with_reducible repeat (first | refine blk_drewN ?_ _ | refine blk_drew ?_ | refine blk_alloc ?_ _)); refine blk_put (cs := #[.int .i64 0, .int .i64 0, .slice none 0 0]) ?_ 0 _ rfl; (with_reducible repeat (first | refine blk_drewN ?_ _ | refine blk_drew ?_ | refine blk_alloc ?_ _)); exact BK176.out) NB176_0.out (by simp)); have n3_ := am_ (KeepBut.trans (kb_ HK.out) hk (.inl rfl)); have n4_ := am_ (hb); have n5_ := am_ (hi); clear BK162 HO173 BK176 HK HB HI0; revert n0_ n1_ n2_ n3_ n4_ n5_; intro BK162 HO173 BK176 HK HB HI0; (try clear hb); (try clear hb2); (try clear hk); (try clear hi)) | ((with_reducible refine gate_dst (N := 48) rfl ?_); refine Kd.R_lit (Kd.int .i64) _ 2 ?hg (N := 48) ?hd (xs := ([48, 49, (-1)] : List Int)) (inner := [.int .i64 48, .int .i64 49, .int .i64 (-1)]) (ok := fun _ => True) (okp := fun _ => True) ?hr ?hp (fun _ hk => hk) trivial (Below.refl _ _) (Nat.le_refl _) (by simp) ?_; (case hd => rfl); (case hg => rfl); (case hr => first | (go_simp; done) | (go_simp; rfl)); (case hp => exact (Reps.one (show Kd.M (Kd.int .i64) _ _ _ 48 [.int .i64 48] from rfl) (Reps.one (show Kd.M (Kd.int .i64) _ _ _ 49 [.int .i64 49] from rfl) (Reps.one (show Kd.M (Kd.int .i64) _ _ _ (-1) [.int .i64 (-1)] from rfl) (Reps.none _ _))))); intro v195 w98 ho99 hb hg_ hnew_; clear hg_ hnew_; (first | rw [← Ny194.out] at ho99 | (simp only [Int.reduceToNat] at ho99; rw [← Ny194.out] at ho99)); have n0_ := am_ (Kd.R_elder' (rk_ HO173.out) (Kd.R_base ho99) hb); have n1_ := am_ (Kd.R_lower (Kd.R_new' ho99 (Kd.R_lt (rk_ HO173.out))) (keep_size (w := w) (g := g) (row := none) (kb_ HK.out))); have n2_ := am_ (IsS75.below (is75_ HI0) hb); have n3_ := am_ (bw_ BK162 hb); have n4_ := am_ (bw_ BK176 hb); have n5_ := am_ (KeepBut.trans (kb_ HK.out) (KeepBut.of_below hb g none) (.inl rfl)); have n6_ := am_ (below_step (bi75_ HB.out) hb); clear HO173 HI0 BK162 BK176 HK HB; revert n0_ n1_ n2_ n3_ n4_ n5_ n6_; intro HO173 HO196 HI0 BK162 BK176 HK HB; clear hb ho99) | ((with_reducible refine gate_callee (f := 35) rfl ?_); refine goesL_ (some 50) rfl rfl Try.func35 (by kernel_rfl) rfl #[.pointer (some ⟨g, 0, none⟩), .int .i64 3] rfl lm_ ?_; (with_reducible refine (spec_l01Next.calls g s0_0 t178 t179 3 t197 t198 t199 w0 _ ?side1 ?side2 A85.out).mono ?_); (case side1 => exact is75_ HI0); (case side2 => exact bi75_ HB.out); rintro e w100 ⟨rfl, hi, hb, hk⟩; refine ⟨_, rfl, ?_⟩; have n0_ := am_ (KeepBut.blk hk (g' := gb162) (o := .cells #[.int .i64 0, .int .i64 0, .slice none 0 0] 28 (0, 0)) (bk_ BK162.out) NB162_0.out (by simp)); have n1_ := am_ (Kd.R_mono (Kd.R_keep (IsS75.apart (show IsS75 w0 _ g s0_0 t178 t179 from is75_ HI0) (rk_ HO173.out) (by decide)) hk (fun _ h => h.2)) (fun _ h => h.1)); have n2_ := am_ (KeepBut.blk hk (g' := gb176) (o := .cells #[.int .i64 t169, .int .i64 t170, .slice Ao96 t171.length co96] 28 (0, 0)) (bk_ BK176.out) NB176_0.out (by simp)); have n3_ := am_ (Kd.R_mono (Kd.R_keep (IsS75.apart (show IsS75 w0 _ g s0_0 t178 t179 from is75_ HI0) (rk_ HO196.out) (by decide)) hk (fun _ h => h.2)) (fun _ h => h.1)); have n4_ := am_ (KeepBut.trans (kb_ HK.out) hk (.inl rfl)); have n5_ := am_ (hb); have n6_ := am_ (hi); clear BK162 HO173 BK176 HO196 HK HB HI0; revert n0_ n1_ n2_ n3_ n4_ n5_ n6_; intro BK162 HO173 BK176 HO196 HK HB HI0; (try clear hb); (try clear hb2); (try clear hk); (try clear hi); obtain ⟨Ao101, co101, eo101⟩ := Kd.R_slice HO196.out; subst eo101; have p200 : 0 ≤ (t197 : Int) := of_decide_eq_true (by first | (with_reducible assumption) | assumption); have q200 : t197 < (y194.length : Int) := of_decide_eq_true (by first | (with_reducible assumption) | assumption); obtain ⟨ad200, e200, hx200_0⟩ := Kd.at_int (Kd.R_reads' HO196.out).2.2 t197 p200 q200; cases e200; replace p200 := eq_true p200; replace q200 := eq_true q200; have hcz102_0 : w100.cell? ⟨gb176, 0, none⟩ = some (.int .i64 t169) := bc_ BK176 0; have hcz102_1 : w100.cell? ⟨gb176, 1, none⟩ = some (.int .i64 t170) := bc_ BK176 1; have hcz102_2 : w100.cell? ⟨gb176, 2, none⟩ = some (.slice Ao96 t171.length co96) := bc_ BK176 2; have hfz102_0 := blk_frozen BK176.out 0; have hfz102_1 := blk_frozen BK176.out 1; have hfz102_2 := blk_frozen BK176.out 2; have hnb103 := NB162_0.out; have hnc103 := NB0_162.out; have hcz104_0 : w100.cell? ⟨gb162, 0, none⟩ = some (.int .i64 0) := bc_ BK162 0; have hcz104_1 : w100.cell? ⟨gb162, 1, none⟩ = some (.int .i64 0) := bc_ BK162 1; have hcz104_2 : w100.cell? ⟨gb162, 2, none⟩ = some (.slice none 0 0) := bc_ BK162 2; have hfz104_0 := blk_frozen BK162.out 0; have hfz104_1 := blk_frozen BK162.out 1; have hfz104_2 := blk_frozen BK162.out 2))
       refine bodyPost_ret (results_cell_row rfl _ _ gb162 28 #[.int .i64 0, .int .i64 (rd y194 t197), .slice none 0 0] (0, 0) _ rfl (by (with_reducible repeat (first | refine blk_drewN ?_ _ | refine blk_drew ?_ | refine blk_alloc ?_ _)); refine blk_put (cs := #[.int .i64 0, .int .i64 (rd y194 t197), .slice none 0 0]) ?_ 2 _ rfl; (with_reducible repeat (first | refine blk_drewN ?_ _ | refine blk_drew ?_ | refine blk_alloc ?_ _)); refine blk_put (cs := #[.int .i64 0, .int .i64 0, .slice none 0 0]) ?_ 1 _ rfl; (with_reducible repeat (first | refine blk_drewN ?_ _ | refine blk_drew ?_ | refine blk_alloc ?_ _)); refine blk_put (cs := #[.int .i64 0, .int .i64 0, .slice none 0 0]) ?_ 0 _ rfl; (with_reducible repeat (first | refine blk_drewN ?_ _ | refine blk_drew ?_ | refine blk_alloc ?_ _)); refine blk_far ?_ NB162_176.out _; (with_reducible repeat (first | refine blk_drewN ?_ _ | refine blk_drew ?_ | refine blk_alloc ?_ _)); refine blk_far ?_ NB162_176.out _; (with_reducible repeat (first | refine blk_drewN ?_ _ | refine blk_drew ?_ | refine blk_alloc ?_ _)); refine blk_far ?_ NB162_176.out _; (with_reducible repeat (first | refine blk_drewN ?_ _ | refine blk_drew ?_ | refine blk_alloc ?_ _)); exact BK162.out) Try.underlying28 rfl (by kernel_rfl)) rfl ?_
       exact ⟨_, by first | rfl | (simp [errW_none, errW_some] <;> rfl) | (simp [*, errW_none, errW_some] <;> rfl), by first | exact Kd.R_nil _ _ _ _ _ | exact Kd.N_nil _ _ _ _ _ | exact Kd.V_nil _ _ _ _ _ | exact Kd.Q_nil _ _ _ _ _ | exact Kd.S_nil _ _ _ _ _, is75_ HI0, bi75_ HB.out, kb_ HK.out⟩
      ·rw [if_neg c87] at H
       exact absurd H (by simp)
     ·rw [if_neg c86] at H
      exact absurd H (by simp)
    ·rw [if_neg c84] at H
     have c84b0 : (t177 == 3) = false := beq_eq_false_iff_ne.mpr c84
     have c84b1 : (t177 != 3) = true := bne_iff_ne.mpr c84
     simp only [Option.some.injEq, Prod.mk.injEq] at H
     obtain ⟨rfl, rfl, rfl, rfl, rfl⟩ := H
     go_enter Try.func33, Try.ntmps33
     go_wp2_with (first | ((with_reducible refine gate_dst (N := 2) rfl ?_); refine box_event ?hg (N := 2) ?hd (cs := #[.int .i64 0, .int .i64 0, .slice none 0 0]) (t := 28) ?hr ?_; (case hd => rfl); (case hg => rfl); (case hr => first | (go_simp; done) | (go_simp; rfl)); intro gb162 hg w105 hbox hb; have n0_ := am_ (IsS75.below (is75_ HI0) hb); have n1_ := am_ (KeepBut.trans (kb_ HK.out) (KeepBut.of_below hb g none) (.inl rfl)); have n2_ := am_ (below_step (bi75_ HB.out) hb); have n3_ := am_ (hbox); have n4_ := am_ ((by rw [hg]; exact (keep_size (w := w) (g := g) (row := none) (kb_ HK.out)) : w.heap.size ≤ gb162)); have n5_ := am_ ((Nat.le_trans HW0.out (by rw [hg]; exact (keep_size (w := w) (g := g) (row := none) (kb_ HK.out)) : w.heap.size ≤ gb162) : w0.heap.size ≤ gb162)); have n6_ := am_ ((by rw [hg]; exact Nat.ne_of_lt (IsS75.lt (show IsS75 w0 _ g s0_0 s0_1 s0_2 from is75_ HI0)) : g ≠ gb162)); have n7_ := am_ ((by rw [hg]; exact Nat.ne_of_gt (IsS75.lt (show IsS75 w0 _ g s0_0 s0_1 s0_2 from is75_ HI0)) : gb162 ≠ g)); clear HI0 HK HB; revert n0_ n1_ n2_ n3_ n4_ n5_ n6_ n7_; intro HI0 HK HB BK162 GW162 GE162 NB0_162 NB162_0; clear hb hbox hg) | ((with_reducible refine gate_callee (f := 35) rfl ?_); refine goesL_ (some 7) rfl rfl Try.func35 (by kernel_rfl) rfl #[.pointer (some ⟨g, 0, none⟩), .int .i64 5] rfl lm_ ?_; (with_reducible refine (spec_l01Next.calls g s0_0 s0_1 s0_2 5 t163 t164 t165 w0 _ ?side1 ?side2 A2.out).mono ?_); (case side1 => exact is75_ HI0); (case side2 => exact bi75_ HB.out); rintro e w106 ⟨rfl, hi, hb, hk⟩; refine ⟨_, rfl, ?_⟩; have n0_ := am_ (KeepBut.blk hk (g' := gb162) (o := .cells #[.int .i64 0, .int .i64 0, .slice none 0 0] 28 (0, 0)) (bk_ BK162.out) NB162_0.out (by simp)); have n1_ := am_ (KeepBut.trans (kb_ HK.out) hk (.inl rfl)); have n2_ := am_ (hb); have n3_ := am_ (hi); clear BK162 HK HB HI0; revert n0_ n1_ n2_ n3_; intro BK162 HK HB HI0; (try clear hb); (try clear hb2); (try clear hk); (try clear hi)) | ((with_reducible refine gate_callee (f := 35) rfl ?_); refine goesL_ (some 9) rfl rfl Try.func35 (by kernel_rfl) rfl #[.pointer (some ⟨g, 0, none⟩), .int .i64 5] rfl lm_ ?_; (with_reducible refine (spec_l01Next.calls g s0_0 t164 t165 5 t166 t167 t168 w0 _ ?side1 ?side2 A3.out).mono ?_); (case side1 => exact is75_ HI0); (case side2 => exact bi75_ HB.out); rintro e w107 ⟨rfl, hi, hb, hk⟩; refine ⟨_, rfl, ?_⟩; have n0_ := am_ (KeepBut.blk hk (g' := gb162) (o := .cells #[.int .i64 0, .int .i64 0, .slice none 0 0] 28 (0, 0)) (bk_ BK162.out) NB162_0.out (by simp)); have n1_ := am_ (KeepBut.trans (kb_ HK.out) hk (.inl rfl)); have n2_ := am_ (hb); have n3_ := am_ (hi); clear BK162 HK HB HI0; revert n0_ n1_ n2_ n3_; intro BK162 HK HB HI0; (try clear hb); (try clear hb2); (try clear hk); (try clear hi)) | ((with_reducible refine gate_callee (f := 34) rfl ?_); refine goesL_ (some 10) rfl rfl Try.func34 (by kernel_rfl) rfl #[.pointer (some ⟨g, 0, none⟩), .int .i64 t163, .int .i64 t166] rfl lm_ ?_; (with_reducible refine (spec_l01DrawSize.calls k g s0_0 t167 t168 t163 t166 t169 t170 t171 t174 t175 w0 _ ?side1 ?side2 A4.out).mono ?_); (case side1 => exact is75_ HI0); (case side2 => exact bi75_ HB.out); rintro e w108 ⟨v172, rfl, ho0, hi, hb, hk⟩; refine ⟨_, rfl, ?_⟩; have n0_ := am_ (KeepBut.blk hk (g' := gb162) (o := .cells #[.int .i64 0, .int .i64 0, .slice none 0 0] 28 (0, 0)) (bk_ BK162.out) NB162_0.out (by simp)); have n1_ := am_ (Kd.R_lower ho0 (keep_size (w := w) (g := g) (row := none) (kb_ HK.out))); have n2_ := am_ (KeepBut.trans (kb_ HK.out) hk (.inl rfl)); have n3_ := am_ (hb); have n4_ := am_ (hi); clear BK162 HK HB HI0; revert n0_ n1_ n2_ n3_ n4_; intro BK162 HO173 HK HB HI0; (try clear hb); (try clear hb2); (try clear hk); (try clear hi); (try clear ho0)) | ((with_reducible refine gate_dst (N := 3) rfl ?_); refine box_event ?hg (N := 3) ?hd (cs := #[.int .i64 0, .int .i64 0, .slice none 0 0]) (t := 28) ?hr ?_; (case hd => rfl); (case hg => rfl); (case hr => first | (go_simp; done) | (go_simp; rfl)); intro gb176 hg w109 hbox hb; have n0_ := am_ (Kd.R_below (rk_ HO173.out) hb); have n1_ := am_ (IsS75.below (is75_ HI0) hb); have n2_ := am_ (bw_ BK162 hb); have n3_ := am_ (KeepBut.trans (kb_ HK.out) (KeepBut.of_below hb g none) (.inl rfl)); have n4_ := am_ (below_step (bi75_ HB.out) hb); have n5_ := am_ (hbox); have n6_ := am_ ((by rw [hg]; exact (keep_size (w := w) (g := g) (row := none) (kb_ HK.out)) : w.heap.size ≤ gb176)); have n7_ := am_ ((Nat.le_trans HW0.out (by rw [hg]; exact (keep_size (w := w) (g := g) (row := none) (kb_ HK.out)) : w.heap.size ≤ gb176) : w0.heap.size ≤ gb176)); have n8_ := am_ (nl_ BK162 hg); have n9_ := am_ (ng_ BK162 hg); have n10_ := am_ ((by rw [hg]; exact Nat.ne_of_lt (IsS75.lt (show IsS75 w0 _ g s0_0 t174 t175 from is75_ HI0)) : g ≠ gb176)); have n11_ := am_ ((by rw [hg]; exact Nat.ne_of_gt (IsS75.lt (show IsS75 w0 _ g s0_0 t174 t175 from is75_ HI0)) : gb176 ≠ g)); clear HO173 HI0 BK162 HK HB; revert n0_ n1_ n2_ n3_ n4_ n5_ n6_ n7_ n8_ n9_ n10_ n11_; intro HO173 HI0 BK162 HK HB BK176 GW176 GE176 NB162_176 NB176_162 NB0_176 NB176_0; clear hb hbox hg; have hnb110 := NB176_162.out; have hnc110 := NB162_176.out; have hnb111 := NB176_0.out; have hnc111 := NB0_176.out; have hcz112_0 : w109.cell? ⟨gb176, 0, none⟩ = some (.int .i64 0) := bc_ BK176 0; have hcz112_1 : w109.cell? ⟨gb176, 1, none⟩ = some (.int .i64 0) := bc_ BK176 1; have hcz112_2 : w109.cell? ⟨gb176, 2, none⟩ = some (.slice none 0 0) := bc_ BK176 2; have hfz112_0 := blk_frozen BK176.out 0; have hfz112_1 := blk_frozen BK176.out 1; have hfz112_2 := blk_frozen BK176.out 2; obtain ⟨Ao113, co113, eo113⟩ := Kd.R_slice HO173.out; subst eo113) | ((with_reducible refine gate_callee (f := 35) rfl ?_); refine goesL_ (some 12) rfl rfl Try.func35 (by kernel_rfl) rfl #[.pointer (some ⟨g, 0, none⟩), .int .i64 24] rfl lm_ ?_; (with_reducible refine (spec_l01Next.calls g s0_0 t174 t175 24 t177 t178 t179 w0 _ ?side1 ?side2 A5.out).mono ?_); (case side1 => exact is75_ HI0); (case side2 => exact bi75_ HB.out); rintro e w114 ⟨rfl, hi, hb, hk⟩; refine ⟨_, rfl, ?_⟩; have n0_ := am_ (KeepBut.blk hk (g' := gb162) (o := .cells #[.int .i64 0, .int .i64 0, .slice none 0 0] 28 (0, 0)) (bk_ BK162.out) NB162_0.out (by simp)); have n1_ := am_ (Kd.R_mono (Kd.R_keep (IsS75.apart (show IsS75 w0 _ g s0_0 t174 t175 from is75_ HI0) ((rm_ (Kd.R_far (p := ⟨gb176, 2, none⟩) (Kd.R_far (p := ⟨gb176, 1, none⟩) (Kd.R_far (p := ⟨gb176, 0, none⟩) (Kd.R_types HO173.out BK176.out (by decide)) (fun _ hk => hk.2) (.int .i64 t169)) (fun _ hk => hk.2) (.int .i64 t170)) (fun _ hk => hk.2) (.slice Ao113 t171.length co113)) (fun _ h_ => h_.1))) (by decide)) hk (fun _ h => h.2)) (fun _ h => h.1)); have n2_ := am_ (KeepBut.blk hk (g' := gb176) (o := .cells #[.int .i64 t169, .int .i64 t170, .slice Ao113 t171.length co113] 28 (0, 0)) (by (with_reducible repeat (first | refine blk_drewN ?_ _ | refine blk_drew ?_ | refine blk_alloc ?_ _)); refine blk_put (cs := #[.int .i64 t169, .int .i64 t170, .slice none 0 0]) ?_ 2 _ rfl; (with_reducible repeat (first | refine blk_drewN ?_ _ | refine blk_drew ?_ | refine blk_alloc ?_ _)); refine blk_put (cs := #[.int .i64 t169, .int .i64 0, .slice none 0 0]) ?_ 1 _ rfl; (with_reducible repeat (first | refine blk_drewN ?_ _ | refine blk_drew ?_ | refine blk_alloc ?_ _)); refine blk_put (cs := #[.int .i64 0, .int .i64 0, .slice none 0 0]) ?_ 0 _ rfl; (with_reducible repeat (first | refine blk_drewN ?_ _ | refine blk_drew ?_ | refine blk_alloc ?_ _)); exact BK176.out) NB176_0.out (by simp)); have n3_ := am_ (KeepBut.trans (kb_ HK.out) hk (.inl rfl)); have n4_ := am_ (hb); have n5_ := am_ (hi); clear BK162 HO173 BK176 HK HB HI0; revert n0_ n1_ n2_ n3_ n4_ n5_; intro BK162 HO173 BK176 HK HB HI0; (try clear hb); (try clear hb2); (try clear hk); (try clear hi); have hcz115_0 : w114.cell? ⟨gb176, 0, none⟩ = some (.int .i64 t169) := bc_ BK176 0; have hcz115_1 : w114.cell? ⟨gb176, 1, none⟩ = some (.int .i64 t170) := bc_ BK176 1; have hcz115_2 : w114.cell? ⟨gb176, 2, none⟩ = some (.slice Ao113 t171.length co113) := bc_ BK176 2; have hfz115_0 := blk_frozen BK176.out 0; have hfz115_1 := blk_frozen BK176.out 1; have hfz115_2 := blk_frozen BK176.out 2; have hnb116 := NB162_0.out; have hnc116 := NB0_162.out; have hcz117_0 : w114.cell? ⟨gb162, 0, none⟩ = some (.int .i64 0) := bc_ BK162 0; have hcz117_1 : w114.cell? ⟨gb162, 1, none⟩ = some (.int .i64 0) := bc_ BK162 1; have hcz117_2 : w114.cell? ⟨gb162, 2, none⟩ = some (.slice none 0 0) := bc_ BK162 2; have hfz117_0 := blk_frozen BK162.out 0; have hfz117_1 := blk_frozen BK162.out 1; have hfz117_2 := blk_frozen BK162.out 2))
     refine bodyPost_ret (results_cell_row rfl _ _ gb162 28 #[.int .i64 t169, .int .i64 t170, .slice Ao113 t171.length co113] (0, 0) _ rfl (by (with_reducible repeat (first | refine blk_drewN ?_ _ | refine blk_drew ?_ | refine blk_alloc ?_ _)); refine blk_put (cs := #[.int .i64 t169, .int .i64 t170, .slice none 0 0]) ?_ 2 _ rfl; (with_reducible repeat (first | refine blk_drewN ?_ _ | refine blk_drew ?_ | refine blk_alloc ?_ _)); refine blk_put (cs := #[.int .i64 t169, .int .i64 0, .slice none 0 0]) ?_ 1 _ rfl; (with_reducible repeat (first | refine blk_drewN ?_ _ | refine blk_drew ?_ | refine blk_alloc ?_ _)); refine blk_put (cs := #[.int .i64 0, .int .i64 0, .slice none 0 0]) ?_ 0 _ rfl; (with_reducible repeat (first | refine blk_drewN ?_ _ | refine blk_drew ?_ | refine blk_alloc ?_ _)); exact BK162.out) Try.underlying28 rfl (by kernel_rfl)) rfl ?_
     exact ⟨_, by first | rfl | (simp [errW_none, errW_some] <;> rfl) | (simp [*, errW_none, errW_some] <;> rfl), rm_ (Kd.R_far (p := ⟨gb162, 2, none⟩) (Kd.R_far (p := ⟨gb162, 1, none⟩) (Kd.R_far (p := ⟨gb162, 0, none⟩) (Kd.R_types HO173.out BK162.out (by decide)) (fun _ hk => hk.2) (.int .i64 t169)) (fun _ hk => hk.2) (.int .i64 t170)) (fun _ hk => hk.2) (.slice Ao113 t171.length co113)) (fun _ hk => trivial), is75_ HI0, bi75_ HB.out, kb_ HK.out⟩

end Go.Proofs.Ytifbfloifdkacaa.PFnProducts
