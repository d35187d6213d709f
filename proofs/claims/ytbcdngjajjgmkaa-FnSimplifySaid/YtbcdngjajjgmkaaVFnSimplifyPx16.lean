/- Written by this session's program out of the kit's print and this session's contracts. -/
import Derived.Test.YtbcdngjajjgmkaaVFnSimplifyPx0
import Derived.Test.YtbcdngjajjgmkaaVFnSimplifyPx2
import Derived.Test.YtbcdngjajjgmkaaVFnSimplifyPx15
namespace Go.Proofs.Ytbcdngjajjgmkaa.PFnSimplify
open Go.RowKit Go.Proofs.YtbcdngjajjgmkaaW.PrintWords Go.Proofs.YtbcdngjajjgmkaaW.PrintLast Go.Proofs.YtbcdngjajjgmkaaW.PrintMore
set_option maxHeartbeats 8000000
set_option maxRecDepth 100000
set_option linter.unusedVariables false
set_option linter.unusedSimpArgs false

/-! ### spec_l04DrawValid: function 106 -/
def spec_l04DrawValid.l0 : Nat → Int → List Int → Int → Int → Int → List (List Int) → Option (Int × (List (List Int)) × Int × Int)
 | 0, _, _, _, _, _, _ => none
 | k + 1, x4, x1000, x1001, x1002, x414000, x414001 => if x4 > 0 then ((spec_l04DrawWord.f k x1000 x1001 x1002 x414000 6).bind fun bt417 => ((spec_l04Reduce.f k bt417.1).bind fun t422 => (if x414001.length < 5864062014805 then (spec_l04DrawValid.l0 k (wrap64 (x4 - 1)) x1000 bt417.2.1 bt417.2.2 x414000 (x414001 ++ [t422])) else (none)))) else (some (x414000, x414001, x1001, x1002))
def spec_l04DrawValid.f (k : Nat) (s0_0 : List Int) (s0_1 : Int) (s0_2 : Int) : Option (Int × (List (List Int)) × Int × Int) := (spec_l01Next.f s0_0 s0_1 s0_2 4).bind fun bt410 => ((spec_l01Next.f s0_0 bt410.2.1 bt410.2.2 4).bind fun bt414 => (spec_l04DrawValid.l0 k bt414.1 s0_0 bt414.2.1 bt414.2.2 bt410.1 ([] : List (List Int))))
def spec_l04DrawValid.T5 : Bool × List (List Nat × List Nat) := (true, [([], []), ([0], [0]), ([], []), ([], []), ([3], [3]), ([2, 4], [2, 4]), ([5, 5], [5]), ([6], [6]), ([1, 7, 6], [1, 7]), ([0, 1, 2, 3, 4, 5, 6, 7, 8], []), ([9, 8, 8, 0, 1, 2, 3, 4, 5, 6, 7, 8], [8, 9])])
def spec_l04DrawValid.B5 : List Nat := [0, 1, 0, 0, 8, 28, 60, 124, 255, 511, 1023]
theorem spec_l04DrawValid.tab5 : rtab .any (opsOf Try.f106 5) = spec_l04DrawValid.T5 := by kernel_rfl
theorem spec_l04DrawValid.bits5 : waitsOk spec_l04DrawValid.T5.2 spec_l04DrawValid.B5 = true := by kernel_rfl
theorem spec_l04DrawValid.calls (k : Nat) (g : Nat) (s0_0 : List Int) (s0_1 : Int) (s0_2 : Int) (r1 : Int) (r2 : List (List Int)) (r3 : Int) (r4 : Int) (w0 w : World) (hI : IsS103 w0 w g s0_0 s0_1 s0_2) (hB : Below w0.heap.size w0 w) (h : spec_l04DrawValid.f k s0_0 s0_1 s0_2 = some (r1, r2, r3, r4)) :
  Calls Try.prog 106 #[.pointer (some ⟨g, 0, none⟩)] w fun e w' => ∃ v1_ : Value, e = .returned (.agg #[.int .i64 r1, v1_]) ∧ Kd.S (Kd.slice 2 (Kd.int .i64)) 39 w' w.heap.size (fun _ => True) v1_ r2 ∧ IsS103 w0 w' g s0_0 r3 r4 ∧ Below w0.heap.size w0 w' ∧ KeepBut w w' g none := by
 have hu28 := Try.underlying28
 have HI0 := am_ hI
 have HK := am_ (KeepBut.refl w g none)
 have HL := am_ hB.size
 clear hI
 have HW0 := am_ hB.size
 have HB := am_ hB
 clear hB
 have H : ((spec_l01Next.f s0_0 s0_1 s0_2 4).bind fun bt410 => ((spec_l01Next.f s0_0 bt410.2.1 bt410.2.2 4).bind fun bt414 => (spec_l04DrawValid.l0 k bt414.1 s0_0 bt414.2.1 bt414.2.2 bt410.1 ([] : List (List Int))))) = some (r1, r2, r3, r4) := h
 clear h
 replace H := Option.bind_eq_some_iff.mp H
 obtain ⟨⟨t410, t411, t412⟩, A20, H⟩ := H
 replace H : ((spec_l01Next.f s0_0 t411 t412 4).bind fun bt414 => (spec_l04DrawValid.l0 k bt414.1 s0_0 bt414.2.1 bt414.2.2 t410 ([] : List (List Int)))) = some (r1, r2, r3, r4) := H
 have A2 := am_ A20
 clear A20
 replace H := Option.bind_eq_some_iff.mp H
 obtain ⟨⟨t414, t415, t416⟩, A30, H⟩ := H
 replace H : (spec_l04DrawValid.l0 k t414 s0_0 t415 t416 t410 ([] : List (List Int))) = some (r1, r2, r3, r4) := H
 have A3 := am_ A30
 clear A30
 have H' := am_ H
 clear H
 go_enter Try.func106, Try.ntmps106
 go_wp2_with (first | (refine be_ 2 28 #[.int .i64 0, .slice none 0 0] ?_; intro gb409 hg w4 hbox hb; have n0_ := am_ (IsS103.below (is103_ HI0) hb); have n1_ := am_ (KeepBut.trans (kb_ HK.out) (KeepBut.of_below hb g none) (.inl rfl)); have n2_ := am_ (below_step (bi103_ HB.out) hb); have n3_ := am_ (hbox); have n4_ := am_ ((by rw [hg]; exact (keep_size (w := w) (g := g) (row := none) (kb_ HK.out)) : w.heap.size ≤ gb409)); have n5_ := am_ ((Nat.le_trans HW0.out (by rw [hg]; exact (keep_size (w := w) (g := g) (row := none) (kb_ HK.out)) : w.heap.size ≤ gb409) : w0.heap.size ≤ gb409)); have n6_ := am_ ((by rw [hg]; exact Nat.ne_of_lt (IsS103.lt (show IsS103 w0 _ g s0_0 s0_1 s0_2 from is103_ HI0)) : g ≠ gb409)); have n7_ := am_ ((by rw [hg]; exact Nat.ne_of_gt (IsS103.lt (show IsS103 w0 _ g s0_0 s0_1 s0_2 from is103_ HI0)) : gb409 ≠ g)); clear HI0 HK HB; revert n0_ n1_ n2_ n3_ n4_ n5_ n6_ n7_; intro HI0 HK HB BK409 GW409 GE409 NB0_409 NB409_0; clear hb hbox hg) | ((with_reducible refine gate_callee (f := 107) rfl ?_); refine goesL_ (some 6) rfl rfl Try.func107 (by kernel_rfl) rfl #[.pointer (some ⟨g, 0, none⟩), .int .i64 4] rfl lm_ ?_; (with_reducible refine (spec_l01Next.calls g s0_0 s0_1 s0_2 4 t410 t411 t412 w0 _ ?side1 ?side2 A2.out).mono ?_); (case side1 => exact is103_ HI0); (case side2 => exact bi103_ HB.out); rintro e w5 ⟨rfl, hi, hb, hk⟩; refine ⟨_, rfl, ?_⟩; have n0_ := am_ (KeepBut.blk hk (g' := gb409) (o := .cells #[.int .i64 0, .slice none 0 0] 28 (0, 0)) (bk_ BK409.out) NB409_0.out (by simp)); have n1_ := am_ (KeepBut.trans (kb_ HK.out) hk (.inl rfl)); have n2_ := am_ (hb); have n3_ := am_ (hi); clear BK409 HK HB HI0; revert n0_ n1_ n2_ n3_; intro BK409 HK HB HI0; (try clear hb); (try clear hb2); (try clear hk); (try clear hi)) | (refine be_ 3 28 #[.int .i64 0, .slice none 0 0] ?_; intro gb413 hg w6 hbox hb; have n0_ := am_ (IsS103.below (is103_ HI0) hb); have n1_ := am_ (bw_ BK409 hb); have n2_ := am_ (KeepBut.trans (kb_ HK.out) (KeepBut.of_below hb g none) (.inl rfl)); have n3_ := am_ (below_step (bi103_ HB.out) hb); have n4_ := am_ (hbox); have n5_ := am_ ((by rw [hg]; exact (keep_size (w := w) (g := g) (row := none) (kb_ HK.out)) : w.heap.size ≤ gb413)); have n6_ := am_ ((Nat.le_trans HW0.out (by rw [hg]; exact (keep_size (w := w) (g := g) (row := none) (kb_ HK.out)) : w.heap.size ≤ gb413) : w0.heap.size ≤ gb413)); have n7_ := am_ (nl_ BK409 hg); have n8_ := am_ (ng_ BK409 hg); have n9_ := am_ ((by rw [hg]; exact Nat.ne_of_lt (IsS103.lt (show IsS103 w0 _ g s0_0 t411 t412 from is103_ HI0)) : g ≠ gb413)); have n10_ := am_ ((by rw [hg]; exact Nat.ne_of_gt (IsS103.lt (show IsS103 w0 _ g s0_0 t411 t412 from is103_ HI0)) : gb413 ≠ g)); clear HI0 BK409 HK HB; revert n0_ n1_ n2_ n3_ n4_ n5_ n6_ n7_ n8_ n9_ n10_; intro HI0 BK409 HK HB BK413 GW413 GE413 NB409_413 NB413_409 NB0_413 NB413_0; clear hb hbox hg; have hnb7 := NB413_409.out; have hnc7 := NB409_413.out; have hnb8 := NB413_0.out; have hnc8 := NB0_413.out; obtain ⟨hcz9_0, hcz9_1, hfz9_0, hfz9_1⟩ := bx2_ BK413) | ((with_reducible refine gate_callee (f := 107) rfl ?_); refine goesL_ (some 9) rfl rfl Try.func107 (by kernel_rfl) rfl #[.pointer (some ⟨g, 0, none⟩), .int .i64 4] rfl lm_ ?_; (with_reducible refine (spec_l01Next.calls g s0_0 t411 t412 4 t414 t415 t416 w0 _ ?side1 ?side2 A3.out).mono ?_); (case side1 => exact is103_ HI0); (case side2 => exact bi103_ HB.out); rintro e w10 ⟨rfl, hi, hb, hk⟩; refine ⟨_, rfl, ?_⟩; have n0_ := am_ (KeepBut.blk hk (g' := gb409) (o := .cells #[.int .i64 0, .slice none 0 0] 28 (0, 0)) (bk_ BK409.out) NB409_0.out (by simp)); have n1_ := am_ (KeepBut.blk hk (g' := gb413) (o := .cells #[.int .i64 t410, .slice none 0 0] 28 (0, 0)) (pu2_ BK413) NB413_0.out (by simp)); have n2_ := am_ (KeepBut.trans (kb_ HK.out) hk (.inl rfl)); have n3_ := am_ (hb); have n4_ := am_ (hi); clear BK409 BK413 HK HB HI0; revert n0_ n1_ n2_ n3_ n4_; intro BK409 BK413 HK HB HI0; (try clear hb); (try clear hb2); (try clear hk); (try clear hi)))
 go_loopg [4] k (fun kq v4 w' => ∃ (x4_1 : Int) (x1001_1 : Int) (x1002_1 : Int) (x414001_1 : List (List Int)) (u414001 : Value), v4 = .int .i64 x4_1 ∧ Aside0 (spec_l04DrawValid.l0 kq x4_1 s0_0 x1001_1 x1002_1 t410 x414001_1 = some (r1, r2, r3, r4)) ∧ Aside0 (kq ≤ k) ∧ Aside0 (Kd.S (Kd.slice 2 (Kd.int .i64)) 39 w' w.heap.size (fun _ => True) u414001 x414001_1) ∧ Aside0 (w'.heap[gb409]? = some (.cells #[.int .i64 0, (.slice none 0 0)] 28 (0, 0))) ∧ Aside0 (w'.heap[gb413]? = some (.cells #[.int .i64 t410, u414001] 28 (0, 0))) ∧ Aside0 (IsS103 w0 w' g s0_0 x1001_1 x1002_1) ∧ Aside0 (KeepBut w w' g none) ∧ Aside0 (Below w0.heap.size w0 w'))
 case atStart => exact ⟨(t414), (t415), (t416), (([] : List (List Int))), (.slice none 0 0), (by first | rfl | (simp; done) | (simp [*]; done)), H', ⟨Nat.le_refl _⟩, ⟨by first | exact Kd.S_nil _ _ _ _ _ | exact Kd.N_nil _ _ _ _ _ | exact Kd.V_nil _ _ _ _ _ | exact Kd.Q_nil _ _ _ _ _ | exact Kd.R_nil _ _ _ _ _⟩, ⟨bk_ BK409.out⟩, ⟨bk_ BK413.out⟩, ⟨is103_ HI0⟩, ⟨kb_ HK.out⟩, ⟨bi103_ HB.out⟩⟩
 case round =>
  clear H'
  try clear c1
  try clear p2
  try clear c7
  try clear c8
  try clear c10
  try clear hcz9_0
  try clear hcz9_1
  try clear hfz9_0
  try clear hfz9_1
  obtain ⟨x4_1, x1001_1, x1002_1, x414001_1, u414001, rfl, HA, HK1, HO_414001, BK409, BK413, HI0, HK, HB⟩ := hrel
  cases gk with
  | zero => exact absurd HA.out (by simp [spec_l04DrawValid.l0])
  | succ k1 =>
   have H := HA.out
   clear HA
   simp only [spec_l04DrawValid.l0] at H
   by_cases c11 : x4_1 > 0
   ·rw [if_pos c11] at H
    have c11b0 : decide (0 < x4_1) = true := decide_eq_true c11
    clear c11
    replace H := Option.bind_eq_some_iff.mp H
    obtain ⟨⟨t417, t420, t421⟩, A120, H⟩ := H
    replace H : ((spec_l04Reduce.f k1 t417).bind fun t422 => (if x414001_1.length < 5864062014805 then (spec_l04DrawValid.l0 k1 (wrap64 (x4_1 - 1)) s0_0 t420 t421 t410 (x414001_1 ++ [t422])) else (none))) = some (r1, r2, r3, r4) := H
    have A12 := am_ A120
    clear A120
    replace H := Option.bind_eq_some_iff.mp H
    obtain ⟨t422, A130, H⟩ := H
    replace H : (if x414001_1.length < 5864062014805 then (spec_l04DrawValid.l0 k1 (wrap64 (x4_1 - 1)) s0_0 t420 t421 t410 (x414001_1 ++ [t422])) else (none)) = some (r1, r2, r3, r4) := H
    have A13 := am_ A130
    clear A130
    by_cases c14 : x414001_1.length < 5864062014805
    ·rw [if_pos c14] at H
     have LMc14 := am_ c14
     clear c14
     obtain ⟨y425, hy425⟩ : ∃ y_ : List (List Int), y_ = (x414001_1 ++ [t422]) := ⟨_, rfl⟩
     replace H : (spec_l04DrawValid.l0 k1 (wrap64 (x4_1 - 1)) s0_0 t420 t421 t410 y425) = some (r1, r2, r3, r4) := hq_ hy425 H
     have Ny425 := am_ hy425
     clear hy425
     have H' := am_ H
     clear H
     try go_wp2
     have n0_ := am_ (Kd.S_drew HO_414001.out)
     have n1_ := am_ (blk_drew BK409.out)
     have n2_ := am_ (blk_drew BK413.out)
     have n3_ := am_ (IsS103.drew HI0.out)
     have n4_ := am_ (keep_drew HK.out)
     have n5_ := am_ (below_drew1 HB.out)
     clear HO_414001 BK409 BK413 HI0 HK HB; revert n0_ n1_ n2_ n3_ n4_ n5_; intro HO_414001 BK409 BK413 HI0 HK HB
     refine start_ (n := 11) (S := fun w' => w'.cell? ⟨gb413, 0, none⟩ = some (.int .i64 t410) ∧ w'.cell? ⟨gb413, 1, none⟩ = some (u414001)) (ds := [10]) (bA_ 11 0) (by kernel_rfl) rfl (by kernel_rfl) ⟨bc_ BK413 0, bc_ BK413 1⟩ (fun hHeld => ?_); refine with_tabW spec_l04DrawValid.tab5 spec_l04DrawValid.bits5 (fun HT_ HW_ => ?_)
     generalize wr.drew = w15 at HO_414001 BK409 BK413 HI0 HK HB hHeld ⊢
     refine pz_ 0 14 (bA_ 11 1) HT_ ?_
     refine pz_ 2 16 (bA_ 11 5) HT_ ?_
     refine pz_ 3 17 (bA_ 11 13) HT_ ?_
     refine tz_ 1 15 (bA_ 11 15) HT_ HW_ hHeld ?_
     refine tz_ 4 18 (bA_ 11 31) HT_ HW_ hHeld ?_
     refine oz_ 5 19 (bA_ 11 63) HT_ (fun K hK => ?_)
     refine goes_ Try.func129 (by kernel_rfl) rfl #[.pointer (some ⟨g, 0, none⟩), .int .i64 t410, .int .i64 6] (by rfl) rfl rfl lm_ ?_
     with_reducible refine (spec_l04DrawWord.calls k1 g s0_0 x1001_1 x1002_1 t410 6 t417 t420 t421 w0 _ ?side1 ?side2 A12.out).mono ?_
     (case side1 => exact is103_ HI0)
     (case side2 => exact bi103_ HB.out)
     rintro e w16 ⟨v418, rfl, ho0, hi, hb, hk⟩
     refine ⟨_, rfl, ?_⟩
     have n0_ := am_ (Kd.S_mono (Kd.S_told (Kd.S_oldK (IsS103.apartS (show IsS103 w0 _ g s0_0 x1001_1 x1002_1 from is103_ HI0) (Sx_ HO_414001.out) (by decide)) hk) (Kd.R_base ho0)) (fun _ h_ => h_.1))
     have n1_ := am_ (KeepBut.blk hk (g' := gb409) (o := .cells #[.int .i64 0, .slice none 0 0] 28 (0, 0)) (bk_ BK409.out) NB409_0.out (by simp))
     have n2_ := am_ (KeepBut.blk hk (g' := gb413) (o := .cells #[.int .i64 t410, u414001] 28 (0, 0)) (bk_ BK413.out) NB413_0.out (by simp))
     have n3_ := am_ (Kd.R_lower ho0 (keep_size (w := w) (g := g) (row := none) (kb_ HK.out)))
     have n4_ := am_ (KeepBut.trans (kb_ HK.out) hk (.inl rfl))
     have n5_ := am_ (hb)
     have n6_ := am_ (hi)
     clear HO_414001 BK409 BK413 HK HB HI0; revert n0_ n1_ n2_ n3_ n4_ n5_ n6_; intro HO_414001 BK409 BK413 HO419 HK HB HI0
     (try clear hb)
     (try clear hb2)
     (try clear hk)
     (try clear hi)
     (try clear ho0)
     obtain ⟨Ao17, co17, eo17⟩ := Kd.R_slice HO419.out
     (first | subst eo17 | (injection eo17 with f1_ f2_ f3_; have f4_ := f1_.symm; have f5_ := f3_.symm; clear f1_ f2_ f3_; subst f4_; subst f5_))
     refine hK.out _ _ ⟨bc_ BK413 0, bc_ BK413 1⟩ (fun hHeld => ?_)
     clear hK K
     refine nm_ 19 ?_
     refine oz_ 6 20 (bA_ 11 127) HT_ (fun K hK => ?_)
     refine goes_ Try.func87 (by kernel_rfl) rfl #[.slice Ao17 t417.length co17] (by rfl) rfl rfl lm_ ?_
     with_reducible refine (spec_l04Reduce.calls k1 _ _ t417 t422 _ ?side1 ?side2 A13.out).mono ?_
     (case side1 => exact cz_ (Kd.R_reads' HO419.out).2.2)
     (case side2 => exact (Kd.R_reads' HO419.out).2.1)
     rintro e w18 ⟨v423, rfl, ho0, hb⟩
     refine ⟨_, rfl, ?_⟩
     have n0_ := am_ (Kd.S_elder' (Sx_ HO_414001.out) (Kd.R_base ho0) hb)
     have n1_ := am_ (Kd.R_elder' (rk_ HO419.out) (Kd.R_base ho0) hb)
     have n2_ := am_ (Kd.R_lower (Kd.R_new' ho0 (Kd.R_lt (rk_ HO419.out))) (keep_size (w := w) (g := g) (row := none) (kb_ HK.out)))
     have n3_ := am_ (bw_ BK409 hb)
     have n4_ := am_ (bw_ BK413 hb)
     have n5_ := am_ (IsS103.below (is103_ HI0) hb)
     have n6_ := am_ (KeepBut.trans (kb_ HK.out) (KeepBut.of_below hb g none) (.inl rfl))
     have n7_ := am_ (below_step (bi103_ HB.out) hb)
     clear HO_414001 HO419 BK409 BK413 HI0 HK HB; revert n0_ n1_ n2_ n3_ n4_ n5_ n6_ n7_; intro HO_414001 HO419 HO424 BK409 BK413 HI0 HK HB
     (try clear hb)
     (try clear hb2)
     (try clear hk)
     (try clear hi)
     (try clear ho0)
     obtain ⟨Ao20, co20, eo20⟩ := Kd.R_slice HO424.out
     (first | subst eo20 | (injection eo20 with f1_ f2_ f3_; have f4_ := f1_.symm; have f5_ := f3_.symm; clear f1_ f2_ f3_; subst f4_; subst f5_))
     refine hK.out _ _ ⟨bc_ BK413 0, bc_ BK413 1⟩ (fun hHeld => ?_)
     clear hK K
     refine nm_ 20 ?_
     refine oz_ 7 21 (bA_ 11 255) HT_ (fun K hK => ?_)
     refine value_ (w1 := ?_) (v := ?_) (by rfl) rfl ?_ ?_
     rotate_left 2
     ·go_simp
      constructor
      ·rfl
      ·rfl
     refine hK.out _ _ ⟨(blk_cell (blk_alloc BK413.out _) 0).trans rfl, (blk_cell (blk_alloc BK413.out _) 1).trans rfl⟩ (fun hHeld => ?_)
     clear hK K
     refine nm_ 21 ?_
     refine oz_ 8 22 (bA_ 11 511) HT_ (fun K hK => ?_)
     refine Kd.S_append_step (Kd.slice 2 (Kd.int .i64)) w.heap.size (by rfl) (.tmp 15) (.tmp 21) 22 39 (.slice none 0 0) 24 rfl Try.underlying22 info39 rfl (by decide) (by omega) u414001 x414001_1 t422 [.slice Ao20 t422.length co20] (fun k_ => some k_ ≠ (.slice Ao17 t417.length co17 : Value).ownBlock) (fun k_ => some k_ = (.slice Ao20 t422.length co20 : Value).ownBlock) rfl rfl ?aP (fun k_ hk_ => ((Kd.R_mono (ok' := fun k_ => ((fun k_ => some k_ ≠ (.slice Ao17 t417.length co17 : Value).ownBlock)) k_ ∧ some k_ ≠ (u414001 : Value).ownBlock) (Kd.R_apart' (HO424.out) (Kd.S_typed HO_414001.out) (by decide)) (fun k_ hk => ⟨hk.1.2, hk.2⟩))).1 k_ hk_.symm) ?aF ?aO (Below.refl _ _) ?aS ?aL ?_
     (case aP => exact Kd.M_row (Kd.R_mono (Kd.R_tight rfl (Kd.R_mono (ok' := fun k_ => ((fun k_ => some k_ ≠ (.slice Ao17 t417.length co17 : Value).ownBlock)) k_ ∧ some k_ ≠ (u414001 : Value).ownBlock) (Kd.R_apart' (HO424.out) (Kd.S_typed HO_414001.out) (by decide)) (fun k_ hk => ⟨hk.1.2, hk.2⟩))) (fun _ h_ => h_)))
     (case aF => exact (fun k_ hk => Kd.fresh' (Kd.R_lt (rk_ HO419.out)) k_ hk))
     (case aO => exact (Sx_ (Kd.S_mono HO_414001.out (fun k_ hk => ⟨hk.1.2, fun e_ => hk.2 e_⟩))))
     (case aS => exact (keep_size (w := w) (g := g) (row := none) (kb_ HK.out)))
     (case aL => have := LMc14.out; omega)
     intro v426 w19 ho hb hg hat
     rw [← Ny425.out] at ho
     have n0_ := am_ (blk_grown (g := gb409) (o := .cells #[.int .i64 0, .slice none 0 0] 28 (0, 0)) (bk_ BK409.out) hg (Kd.S_ne HO_414001.out BK409.out (by decide)))
     have n1_ := am_ (blk_grown (g := gb413) (o := .cells #[.int .i64 t410, u414001] 28 (0, 0)) (bk_ BK413.out) hg (Kd.S_ne HO_414001.out BK413.out (by decide)))
     have n2_ := am_ (IsS103.grown (is103_ HI0) hg (IsS103.own_neS HI0.out HO_414001.out (by decide)))
     have n3_ := am_ (Kd.R_over' (rk_ HO419.out) (Kd.S_typed (Sx_ HO_414001.out)) (by decide) hg)
     have n4_ := am_ (below_weaken (bi103_ HB.out) HL.out hb)
     have n5_ := am_ (KeepBut.trans (kb_ HK.out) (KeepBut.of_grown hg g) (Kd.S_base2 HO_414001.out))
     have n6_ := am_ (ho)
     clear BK409 BK413 HI0 HO419 HB HK HO_414001 HO424; revert n0_ n1_ n2_ n3_ n4_ n5_ n6_; intro BK409 BK413 HI0 HO419 HB HK HO427
     clear ho hb hg hat
     obtain ⟨Ao21, co21, eo21⟩ := Kd.S_slice HO427.out
     (first | subst eo21 | (injection eo21 with f1_ f2_ f3_; have f4_ := f1_.symm; have f5_ := f3_.symm; clear f1_ f2_ f3_; subst f4_; subst f5_))
     refine hK.out _ _ ⟨bc_ BK413 0, bc_ BK413 1⟩ (fun hHeld => ?_)
     clear hK K
     refine nm_ 22 ?_
     refine pz_ 9 23 (bA_ 11 1023) HT_ ?_
     refine last_ (i := 10) (N := none) (bA_ 11 2047) rfl rfl (one_of HT_.out (by kernel_rfl)) (by decide) (fun K hK => ?_)
     have hs22 : w19.cell? ⟨gb413, 1, none⟩ = some (u414001) := bc_ BK413 1
     have hfs22 := blk_frozen BK413.out 1
     have hns22_0 := NB409_413.out
     have hms22_0 := NB413_409.out
     refine skip_ (w1 := ?_) (by rfl) rfl ?_ ?_
     rotate_left
     ·go_simp
      rfl
     refine hK.out _ _ ?_
     clear hK K
     refine done_ (done_of HT_.out (by kernel_rfl)) ?_
     try go_wp2
     go_roundg k1
     case measure => have := HK1.out; omega
     case rel => exact ⟨(wrap64 (x4_1 - 1)), (t420), (t421), (y425), (.slice Ao21 y425.length co21), (by first | rfl | (simp; done) | (simp [*]; done)), H', ⟨by have := HK1.out; omega⟩, ⟨Sx_ (Kd.S_mono (Kd.S_far (p := ⟨gb413, 1, none⟩) (Kd.S_types HO427.out BK413.out (by decide)) (fun _ hk => hk.2) (.slice Ao21 y425.length co21)) (fun _ hk => trivial))⟩, ⟨bk_ BK409.out⟩, ⟨by (with_reducible repeat (first | refine blk_drewN ?_ _ | refine blk_drew ?_ | refine blk_alloc ?_ _)); refine blk_put (cs := #[.int .i64 t410, u414001]) ?_ 1 _ rfl; (with_reducible repeat (first | refine blk_drewN ?_ _ | refine blk_drew ?_ | refine blk_alloc ?_ _)); exact BK413.out⟩, ⟨is103_ HI0⟩, ⟨kb_ HK.out⟩, ⟨bi103_ HB.out⟩⟩
    ·rw [if_neg c14] at H
     exact absurd H (by simp)
   ·rw [if_neg c11] at H
    have c11b0 : decide (0 < x4_1) = false := decide_eq_false c11
    clear c11
    simp only [Option.some.injEq, Prod.mk.injEq] at H
    obtain ⟨rfl, rfl, rfl, rfl⟩ := H
    have hnb23 := NB413_409.out
    have hnc23 := NB409_413.out
    have hnb24 := NB413_0.out
    have hnc24 := NB0_413.out
    obtain ⟨hcz25_0, hcz25_1, hfz25_0, hfz25_1⟩ := bx2_ BK413
    have hnb26 := NB409_0.out
    have hnc26 := NB0_409.out
    obtain ⟨hcz27_0, hcz27_1, hfz27_0, hfz27_1⟩ := bx2_ BK409
    obtain ⟨Ao28, co28, eo28⟩ := Kd.S_slice HO_414001.out
    subst eo28
    go_wp2
    refine bodyPost_ret (results_cell_row rfl _ _ gb409 28 #[.int .i64 t410, .slice Ao28 x414001_1.length co28] (0, 0) _ rfl (pu2_ BK409) Try.underlying28 rfl (by kernel_rfl)) rfl ?_
    exact ⟨_, er_, Sx_ (Kd.S_mono (Kd.S_far (p := ⟨gb409, 1, none⟩) (Kd.S_far (p := ⟨gb409, 0, none⟩) (Kd.S_types HO_414001.out BK409.out (by decide)) (fun _ hk => hk.2) (.int .i64 t410)) (fun _ hk => hk.2) (.slice Ao28 x414001_1.length co28)) (fun _ hk => trivial)), is103_ HI0, bi103_ HB.out, kb_ HK.out⟩

/-! ### spec_l04Draw: function 71 -/
def spec_l04Draw.f (k : Nat) (s0_0 : List Int) (s0_1 : Int) (s0_2 : Int) : Option (Int × (List (List Int)) × Int × Int) := (spec_l04DrawValid.f k s0_0 s0_1 s0_2).bind fun bt429 => ((spec_l01Next.f s0_0 bt429.2.2.1 bt429.2.2.2 24).bind fun bt436 => (if bt436.1 = 0 then ((some (([(-1), 24, 25] : List Int) : List Int)).bind fun y439 => ((spec_l01Next.f s0_0 bt436.2.1 bt436.2.2 3).bind fun bt442 => (if 0 ≤ bt442.1 then (if bt442.1 < (y439.length : Int) then (some (rd y439 bt442.1, bt429.2.1, bt442.2.1, bt442.2.2)) else (none)) else (none)))) else (if bt436.1 = 1 then (if bt429.2.1.length < 5864062014805 then (some (bt429.1, (bt429.2.1 ++ [(([wrap64 (bt429.1 + 1)] : List Int))]), bt436.2.1, bt436.2.2)) else (none)) else (if bt436.1 = 2 then (if bt429.2.1.length < 5864062014805 then (some (bt429.1, (bt429.2.1 ++ [(([1, (-1)] : List Int))]), bt436.2.1, bt436.2.2)) else (none)) else (some (bt429.1, bt429.2.1, bt436.2.1, bt436.2.2))))))
theorem spec_l04Draw.calls (k : Nat) (g : Nat) (s0_0 : List Int) (s0_1 : Int) (s0_2 : Int) (r1 : Int) (r2 : List (List Int)) (r3 : Int) (r4 : Int) (w0 w : World) (hI : IsS103 w0 w g s0_0 s0_1 s0_2) (hB : Below w0.heap.size w0 w) (h : spec_l04Draw.f k s0_0 s0_1 s0_2 = some (r1, r2, r3, r4)) :
  Calls Try.prog 71 #[.pointer (some ⟨g, 0, none⟩)] w fun e w' => ∃ v1_ : Value, e = .returned (.agg #[.int .i64 r1, v1_]) ∧ Kd.S (Kd.slice 2 (Kd.int .i64)) 39 w' w.heap.size (fun _ => True) v1_ r2 ∧ IsS103 w0 w' g s0_0 r3 r4 ∧ Below w0.heap.size w0 w' ∧ KeepBut w w' g none := by
 have hu28 := Try.underlying28
 have HI0 := am_ hI
 have HK := am_ (KeepBut.refl w g none)
 have HL := am_ hB.size
 clear hI
 have HW0 := am_ hB.size
 have HB := am_ hB
 clear hB
 have H : ((spec_l04DrawValid.f k s0_0 s0_1 s0_2).bind fun bt429 => ((spec_l01Next.f s0_0 bt429.2.2.1 bt429.2.2.2 24).bind fun bt436 => (if bt436.1 = 0 then ((some (([(-1), 24, 25] : List Int) : List Int)).bind fun y439 => ((spec_l01Next.f s0_0 bt436.2.1 bt436.2.2 3).bind fun bt442 => (if 0 ≤ bt442.1 then (if bt442.1 < (y439.length : Int) then (some (rd y439 bt442.1, bt429.2.1, bt442.2.1, bt442.2.2)) else (none)) else (none)))) else (if bt436.1 = 1 then (if bt429.2.1.length < 5864062014805 then (some (bt429.1, (bt429.2.1 ++ [(([wrap64 (bt429.1 + 1)] : List Int))]), bt436.2.1, bt436.2.2)) else (none)) else (if bt436.1 = 2 then (if bt429.2.1.length < 5864062014805 then (some (bt429.1, (bt429.2.1 ++ [(([1, (-1)] : List Int))]), bt436.2.1, bt436.2.2)) else (none)) else (some (bt429.1, bt429.2.1, bt436.2.1, bt436.2.2))))))) = some (r1, r2, r3, r4) := h
 clear h
 replace H := Option.bind_eq_some_iff.mp H
 obtain ⟨⟨t429, t430, t433, t434⟩, A20, H⟩ := H
 replace H : ((spec_l01Next.f s0_0 t433 t434 24).bind fun bt436 => (if bt436.1 = 0 then ((some (([(-1), 24, 25] : List Int) : List Int)).bind fun y439 => ((spec_l01Next.f s0_0 bt436.2.1 bt436.2.2 3).bind fun bt442 => (if 0 ≤ bt442.1 then (if bt442.1 < (y439.length : Int) then (some (rd y439 bt442.1, t430, bt442.2.1, bt442.2.2)) else (none)) else (none)))) else (if bt436.1 = 1 then (if t430.length < 5864062014805 then (some (t429, (t430 ++ [(([wrap64 (t429 + 1)] : List Int))]), bt436.2.1, bt436.2.2)) else (none)) else (if bt436.1 = 2 then (if t430.length < 5864062014805 then (some (t429, (t430 ++ [(([1, (-1)] : List Int))]), bt436.2.1, bt436.2.2)) else (none)) else (some (t429, t430, bt436.2.1, bt436.2.2)))))) = some (r1, r2, r3, r4) := H
 have A2 := am_ A20
 clear A20
 replace H := Option.bind_eq_some_iff.mp H
 obtain ⟨⟨t436, t437, t438⟩, A30, H⟩ := H
 replace H : (if t436 = 0 then ((some (([(-1), 24, 25] : List Int) : List Int)).bind fun y439 => ((spec_l01Next.f s0_0 t437 t438 3).bind fun bt442 => (if 0 ≤ bt442.1 then (if bt442.1 < (y439.length : Int) then (some (rd y439 bt442.1, t430, bt442.2.1, bt442.2.2)) else (none)) else (none)))) else (if t436 = 1 then (if t430.length < 5864062014805 then (some (t429, (t430 ++ [(([wrap64 (t429 + 1)] : List Int))]), t437, t438)) else (none)) else (if t436 = 2 then (if t430.length < 5864062014805 then (some (t429, (t430 ++ [(([1, (-1)] : List Int))]), t437, t438)) else (none)) else (some (t429, t430, t437, t438))))) = some (r1, r2, r3, r4) := H
 have A3 := am_ A30
 clear A30
 by_cases c4 : t436 = 0
 ·rw [if_pos c4] at H
  have c4b0 : (t436 == 0) = true := beq_iff_eq.mpr c4
  have c4b1 : (t436 != 0) = false := bne_eq_false_iff_eq.mpr c4
  clear c4
  obtain ⟨y439, hy439⟩ : ∃ y_ : List Int, y_ = (([(-1), 24, 25] : List Int)) := ⟨_, rfl⟩
  replace H : ((spec_l01Next.f s0_0 t437 t438 3).bind fun bt442 => (if 0 ≤ bt442.1 then (if bt442.1 < (y439.length : Int) then (some (rd y439 bt442.1, t430, bt442.2.1, bt442.2.2)) else (none)) else (none))) = some (r1, r2, r3, r4) := hq_ hy439 H
  have Ny439 := am_ hy439
  clear hy439
  replace H := Option.bind_eq_some_iff.mp H
  obtain ⟨⟨t442, t443, t444⟩, A50, H⟩ := H
  replace H : (if 0 ≤ t442 then (if t442 < (y439.length : Int) then (some (rd y439 t442, t430, t443, t444)) else (none)) else (none)) = some (r1, r2, r3, r4) := H
  have A5 := am_ A50
  clear A50
  by_cases c6 : 0 ≤ t442
  ·rw [if_pos c6] at H
   have c6b0 : decide (0 ≤ t442) = true := decide_eq_true c6
   clear c6
   by_cases c7 : t442 < (y439.length : Int)
   ·rw [if_pos c7] at H
    have c7b0 : decide (t442 < (y439.length : Int)) = true := decide_eq_true c7
    clear c7
    simp only [Option.some.injEq, Prod.mk.injEq] at H
    obtain ⟨rfl, rfl, rfl, rfl⟩ := H
    go_enter Try.func71, Try.ntmps71
    go_wp2_with (first | (refine be_ 2 28 #[.int .i64 0, .slice none 0 0] ?_; intro gb428 hg w8 hbox hb; have n0_ := am_ (IsS103.below (is103_ HI0) hb); have n1_ := am_ (KeepBut.trans (kb_ HK.out) (KeepBut.of_below hb g none) (.inl rfl)); have n2_ := am_ (below_step (bi103_ HB.out) hb); have n3_ := am_ (hbox); have n4_ := am_ ((by rw [hg]; exact (keep_size (w := w) (g := g) (row := none) (kb_ HK.out)) : w.heap.size ≤ gb428)); have n5_ := am_ ((Nat.le_trans HW0.out (by rw [hg]; exact (keep_size (w := w) (g := g) (row := none) (kb_ HK.out)) : w.heap.size ≤ gb428) : w0.heap.size ≤ gb428)); have n6_ := am_ ((by rw [hg]; exact Nat.ne_of_lt (IsS103.lt (show IsS103 w0 _ g s0_0 s0_1 s0_2 from is103_ HI0)) : g ≠ gb428)); have n7_ := am_ ((by rw [hg]; exact Nat.ne_of_gt (IsS103.lt (show IsS103 w0 _ g s0_0 s0_1 s0_2 from is103_ HI0)) : gb428 ≠ g)); clear HI0 HK HB; revert n0_ n1_ n2_ n3_ n4_ n5_ n6_ n7_; intro HI0 HK HB BK428 GW428 GE428 NB0_428 NB428_0; clear hb hbox hg) | ((with_reducible refine gate_callee (f := 106) rfl ?_); refine goesL_ (some 5) rfl rfl Try.func106 (by kernel_rfl) rfl #[.pointer (some ⟨g, 0, none⟩)] rfl lm_ ?_; (with_reducible refine (spec_l04DrawValid.calls k g s0_0 s0_1 s0_2 t429 t430 t433 t434 w0 _ ?side1 ?side2 A2.out).mono ?_); (case side1 => exact is103_ HI0); (case side2 => exact bi103_ HB.out); rintro e w9 ⟨v431, rfl, ho0, hi, hb, hk⟩; refine ⟨_, rfl, ?_⟩; have n0_ := am_ (KeepBut.blk hk (g' := gb428) (o := .cells #[.int .i64 0, .slice none 0 0] 28 (0, 0)) (bk_ BK428.out) NB428_0.out (by simp)); have n1_ := am_ (Kd.S_lower ho0 (keep_size (w := w) (g := g) (row := none) (kb_ HK.out))); have n2_ := am_ (KeepBut.trans (kb_ HK.out) hk (.inl rfl)); have n3_ := am_ (hb); have n4_ := am_ (hi); clear BK428 HK HB HI0; revert n0_ n1_ n2_ n3_ n4_; intro BK428 HO432 HK HB HI0; (try clear hb); (try clear hb2); (try clear hk); (try clear hi); (try clear ho0)) | (refine be_ 3 28 #[.int .i64 0, .slice none 0 0] ?_; intro gb435 hg w10 hbox hb; have n0_ := am_ (Kd.S_below (Sx_ HO432.out) hb); have n1_ := am_ (IsS103.below (is103_ HI0) hb); have n2_ := am_ (bw_ BK428 hb); have n3_ := am_ (KeepBut.trans (kb_ HK.out) (KeepBut.of_below hb g none) (.inl rfl)); have n4_ := am_ (below_step (bi103_ HB.out) hb); have n5_ := am_ (hbox); have n6_ := am_ ((by rw [hg]; exact (keep_size (w := w) (g := g) (row := none) (kb_ HK.out)) : w.heap.size ≤ gb435)); have n7_ := am_ ((Nat.le_trans HW0.out (by rw [hg]; exact (keep_size (w := w) (g := g) (row := none) (kb_ HK.out)) : w.heap.size ≤ gb435) : w0.heap.size ≤ gb435)); have n8_ := am_ (nl_ BK428 hg); have n9_ := am_ (ng_ BK428 hg); have n10_ := am_ ((by rw [hg]; exact Nat.ne_of_lt (IsS103.lt (show IsS103 w0 _ g s0_0 t433 t434 from is103_ HI0)) : g ≠ gb435)); have n11_ := am_ ((by rw [hg]; exact Nat.ne_of_gt (IsS103.lt (show IsS103 w0 _ g s0_0 t433 t434 from is103_ HI0)) : gb435 ≠ g)); clear HO432 HI0 BK428 HK HB; revert n0_ n1_ n2_ n3_ n4_ n5_ n6_ n7_ n8_ n9_ n10_ n11_; intro HO432 HI0 BK428 HK HB BK435 GW435 GE435 NB428_435 NB435_428 NB0_435 NB435_0; clear hb hbox hg; have hnb11 := NB435_428.out; have hnc11 := NB428_435.out; have hnb12 := NB435_0.out; have hnc12 := NB0_435.out; obtain ⟨hcz13_0, hcz13_1, hfz13_0, hfz13_1⟩ := bx2_ BK435; obtain ⟨Ao14, co14, eo14⟩ := Kd.S_slice HO432.out; subst eo14) | ((with_reducible refine gate_callee (f := 107) rfl ?_); refine goesL_ (some 7) rfl rfl Try.func107 (by kernel_rfl) rfl #[.pointer (some ⟨g, 0, none⟩), .int .i64 24] rfl lm_ ?_; (with_reducible refine (spec_l01Next.calls g s0_0 t433 t434 24 t436 t437 t438 w0 _ ?side1 ?side2 A3.out).mono ?_); (case side1 => exact is103_ HI0); (case side2 => exact bi103_ HB.out); rintro e w15 ⟨rfl, hi, hb, hk⟩; refine ⟨_, rfl, ?_⟩; have n0_ := am_ (KeepBut.blk hk (g' := gb428) (o := .cells #[.int .i64 0, .slice none 0 0] 28 (0, 0)) (bk_ BK428.out) NB428_0.out (by simp)); have n1_ := am_ (Kd.S_mono (Kd.S_keep (IsS103.apartS (show IsS103 w0 _ g s0_0 t433 t434 from is103_ HI0) (Sx_ (Kd.S_mono (Kd.S_far (p := ⟨gb435, 1, none⟩) (Kd.S_far (p := ⟨gb435, 0, none⟩) (Kd.S_types HO432.out BK435.out (by decide)) (fun _ hk => hk.2) (.int .i64 t429)) (fun _ hk => hk.2) (.slice Ao14 t430.length co14)) (fun _ h_ => h_.1))) (by decide)) hk (fun _ h => h.2)) (fun _ h => h.1)); have n2_ := am_ (KeepBut.blk hk (g' := gb435) (o := .cells #[.int .i64 t429, .slice Ao14 t430.length co14] 28 (0, 0)) (pu2_ BK435) NB435_0.out (by simp)); have n3_ := am_ (KeepBut.trans (kb_ HK.out) hk (.inl rfl)); have n4_ := am_ (hb); have n5_ := am_ (hi); clear BK428 HO432 BK435 HK HB HI0; revert n0_ n1_ n2_ n3_ n4_ n5_; intro BK428 HO432 BK435 HK HB HI0; (try clear hb); (try clear hb2); (try clear hk); (try clear hi)) | ((with_reducible refine gate_dst (N := 10) rfl ?_); refine Kd.R_lit (Kd.int .i64) _ 2 ?hg (N := 10) ?hd (xs := ([(-1), 24, 25] : List Int)) (inner := [.int .i64 (-1), .int .i64 24, .int .i64 25]) (ok := fun _ => True) (okp := fun _ => True) ?hr ?hp (fun _ hk => hk) trivial (Below.refl _ _) (Nat.le_refl _) (by simp) ?_; (case hd => rfl); (case hg => rfl); (case hr => first | (go_simp; done) | (go_simp; rfl)); (case hp => exact (Reps.one (show Kd.M (Kd.int .i64) _ _ _ (-1) [.int .i64 (-1)] from rfl) (Reps.one (show Kd.M (Kd.int .i64) _ _ _ 24 [.int .i64 24] from rfl) (Reps.one (show Kd.M (Kd.int .i64) _ _ _ 25 [.int .i64 25] from rfl) (Reps.none _ _))))); intro v440 w16 ho17 hb hg_ hnew_; clear hg_ hnew_; (first | rw [← Ny439.out] at ho17 | (simp only [Int.reduceToNat] at ho17; rw [← Ny439.out] at ho17)); have n0_ := am_ (Kd.S_elder' (Sx_ HO432.out) (Kd.R_base ho17) hb); have n1_ := am_ (Kd.R_lower ho17 (keep_size (w := w) (g := g) (row := none) (kb_ HK.out))); have n2_ := am_ (IsS103.below (is103_ HI0) hb); have n3_ := am_ (bw_ BK428 hb); have n4_ := am_ (bw_ BK435 hb); have n5_ := am_ (KeepBut.trans (kb_ HK.out) (KeepBut.of_below hb g none) (.inl rfl)); have n6_ := am_ (below_step (bi103_ HB.out) hb); clear HO432 HI0 BK428 BK435 HK HB; revert n0_ n1_ n2_ n3_ n4_ n5_ n6_; intro HO432 HO441 HI0 BK428 BK435 HK HB; clear hb ho17) | ((with_reducible refine gate_callee (f := 107) rfl ?_); refine goesL_ (some 12) rfl rfl Try.func107 (by kernel_rfl) rfl #[.pointer (some ⟨g, 0, none⟩), .int .i64 3] rfl lm_ ?_; (with_reducible refine (spec_l01Next.calls g s0_0 t437 t438 3 t442 t443 t444 w0 _ ?side1 ?side2 A5.out).mono ?_); (case side1 => exact is103_ HI0); (case side2 => exact bi103_ HB.out); rintro e w18 ⟨rfl, hi, hb, hk⟩; refine ⟨_, rfl, ?_⟩; have n0_ := am_ (KeepBut.blk hk (g' := gb428) (o := .cells #[.int .i64 0, .slice none 0 0] 28 (0, 0)) (bk_ BK428.out) NB428_0.out (by simp)); have n1_ := am_ (Kd.S_mono (Kd.S_keep (IsS103.apartS (show IsS103 w0 _ g s0_0 t437 t438 from is103_ HI0) (Sx_ HO432.out) (by decide)) hk (fun _ h => h.2)) (fun _ h => h.1)); have n2_ := am_ (KeepBut.blk hk (g' := gb435) (o := .cells #[.int .i64 t429, .slice Ao14 t430.length co14] 28 (0, 0)) (bk_ BK435.out) NB435_0.out (by simp)); have n3_ := am_ (Kd.R_mono (Kd.R_keep (IsS103.apart (show IsS103 w0 _ g s0_0 t437 t438 from is103_ HI0) (rk_ HO441.out) (by decide)) hk (fun _ h => h.2)) (fun _ h => h.1)); have n4_ := am_ (KeepBut.trans (kb_ HK.out) hk (.inl rfl)); have n5_ := am_ (hb); have n6_ := am_ (hi); clear BK428 HO432 BK435 HO441 HK HB HI0; revert n0_ n1_ n2_ n3_ n4_ n5_ n6_; intro BK428 HO432 BK435 HO441 HK HB HI0; (try clear hb); (try clear hb2); (try clear hk); (try clear hi); obtain ⟨Ao19, co19, eo19⟩ := Kd.R_slice HO441.out; subst eo19; have p445 : 0 ≤ (t442 : Int) := da_; have q445 : t442 < (y439.length : Int) := da_; obtain ⟨ad445, e445, hx445_0⟩ := Kd.at_int (Kd.R_reads' HO441.out).2.2 t442 p445 q445; cases e445; replace p445 := eq_true p445; replace q445 := eq_true q445; obtain ⟨hcz20_0, hcz20_1, hfz20_0, hfz20_1⟩ := bx2_ BK435; have hnb21 := NB428_0.out; have hnc21 := NB0_428.out; obtain ⟨hcz22_0, hcz22_1, hfz22_0, hfz22_1⟩ := bx2_ BK428))
    refine bodyPost_ret (results_cell_row rfl _ _ gb428 28 #[.int .i64 (rd y439 t442), .slice Ao14 t430.length co14] (0, 0) _ rfl (by (with_reducible repeat (first | refine blk_drewN ?_ _ | refine blk_drew ?_ | refine blk_alloc ?_ _)); refine blk_put (cs := #[.int .i64 (rd y439 t442), .slice none 0 0]) ?_ 1 _ rfl; (with_reducible repeat (first | refine blk_drewN ?_ _ | refine blk_drew ?_ | refine blk_alloc ?_ _)); refine blk_put (cs := #[.int .i64 0, .slice none 0 0]) ?_ 0 _ rfl; (with_reducible repeat (first | refine blk_drewN ?_ _ | refine blk_drew ?_ | refine blk_alloc ?_ _)); refine blk_far ?_ NB428_435.out _; (with_reducible repeat (first | refine blk_drewN ?_ _ | refine blk_drew ?_ | refine blk_alloc ?_ _)); exact BK428.out) Try.underlying28 rfl (by kernel_rfl)) rfl ?_
    exact ⟨_, er_, Sx_ (Kd.S_mono (Kd.S_far (p := ⟨gb428, 1, none⟩) (Kd.S_far (p := ⟨gb428, 0, none⟩) (Kd.S_far (p := ⟨gb435, 0, none⟩) (Kd.S_types (Kd.S_types HO432.out BK435.out (by decide)) BK428.out (by decide)) (fun _ hk => hk.1.2) (.int .i64 (rd y439 t442))) (fun _ hk => hk.2) (.int .i64 (rd y439 t442))) (fun _ hk => hk.2) (.slice Ao14 t430.length co14)) (fun _ hk => trivial)), is103_ HI0, bi103_ HB.out, kb_ HK.out⟩
   ·rw [if_neg c7] at H
    exact absurd H (by simp)
  ·rw [if_neg c6] at H
   exact absurd H (by simp)
 ·rw [if_neg c4] at H
  have c4b0 : (t436 == 0) = false := beq_eq_false_iff_ne.mpr c4
  have c4b1 : (t436 != 0) = true := bne_iff_ne.mpr c4
  by_cases c23 : t436 = 1
  ·rw [if_pos c23] at H
   have c23b0 : (t436 == 1) = true := beq_iff_eq.mpr c23
   have c23b1 : (t436 != 1) = false := bne_eq_false_iff_eq.mpr c23
   clear c23
   obtain ⟨y446, hy446⟩ : ∃ y_ : List Int, y_ = (([wrap64 (t429 + 1)] : List Int)) := ⟨_, rfl⟩
   replace H : (if t430.length < 5864062014805 then (some (t429, (t430 ++ [y446]), t437, t438)) else (none)) = some (r1, r2, r3, r4) := hq_ hy446 H
   have Ny446 := am_ hy446
   clear hy446
   by_cases c24 : t430.length < 5864062014805
   ·rw [if_pos c24] at H
    have LMc24 := am_ c24
    clear c24
    obtain ⟨y449, hy449⟩ : ∃ y_ : List (List Int), y_ = (t430 ++ [y446]) := ⟨_, rfl⟩
    replace H : (some (t429, y449, t437, t438)) = some (r1, r2, r3, r4) := hq_ hy449 H
    have Ny449 := am_ hy449
    clear hy449
    simp only [Option.some.injEq, Prod.mk.injEq] at H
    obtain ⟨rfl, rfl, rfl, rfl⟩ := H
    go_enter Try.func71, Try.ntmps71
    go_wp2_with (first | (refine be_ 2 28 #[.int .i64 0, .slice none 0 0] ?_; intro gb428 hg w25 hbox hb; have n0_ := am_ (IsS103.below (is103_ HI0) hb); have n1_ := am_ (KeepBut.trans (kb_ HK.out) (KeepBut.of_below hb g none) (.inl rfl)); have n2_ := am_ (below_step (bi103_ HB.out) hb); have n3_ := am_ (hbox); have n4_ := am_ ((by rw [hg]; exact (keep_size (w := w) (g := g) (row := none) (kb_ HK.out)) : w.heap.size ≤ gb428)); have n5_ := am_ ((Nat.le_trans HW0.out (by rw [hg]; exact (keep_size (w := w) (g := g) (row := none) (kb_ HK.out)) : w.heap.size ≤ gb428) : w0.heap.size ≤ gb428)); have n6_ := am_ ((by rw [hg]; exact Nat.ne_of_lt (IsS103.lt (show IsS103 w0 _ g s0_0 s0_1 s0_2 from is103_ HI0)) : g ≠ gb428)); have n7_ := am_ ((by rw [hg]; exact Nat.ne_of_gt (IsS103.lt (show IsS103 w0 _ g s0_0 s0_1 s0_2 from is103_ HI0)) : gb428 ≠ g)); clear HI0 HK HB; revert n0_ n1_ n2_ n3_ n4_ n5_ n6_ n7_; intro HI0 HK HB BK428 GW428 GE428 NB0_428 NB428_0; clear hb hbox hg) | ((with_reducible refine gate_callee (f := 106) rfl ?_); refine goesL_ (some 5) rfl rfl Try.func106 (by kernel_rfl) rfl #[.pointer (some ⟨g, 0, none⟩)] rfl lm_ ?_; (with_reducible refine (spec_l04DrawValid.calls k g s0_0 s0_1 s0_2 t429 t430 t433 t434 w0 _ ?side1 ?side2 A2.out).mono ?_); (case side1 => exact is103_ HI0); (case side2 => exact bi103_ HB.out); rintro e w26 ⟨v431, rfl, ho0, hi, hb, hk⟩; refine ⟨_, rfl, ?_⟩; have n0_ := am_ (KeepBut.blk hk (g' := gb428) (o := .cells #[.int .i64 0, .slice none 0 0] 28 (0, 0)) (bk_ BK428.out) NB428_0.out (by simp)); have n1_ := am_ (Kd.S_lower ho0 (keep_size (w := w) (g := g) (row := none) (kb_ HK.out))); have n2_ := am_ (KeepBut.trans (kb_ HK.out) hk (.inl rfl)); have n3_ := am_ (hb); have n4_ := am_ (hi); clear BK428 HK HB HI0; revert n0_ n1_ n2_ n3_ n4_; intro BK428 HO432 HK HB HI0; (try clear hb); (try clear hb2); (try clear hk); (try clear hi); (try clear ho0)) | (refine be_ 3 28 #[.int .i64 0, .slice none 0 0] ?_; intro gb435 hg w27 hbox hb; have n0_ := am_ (Kd.S_below (Sx_ HO432.out) hb); have n1_ := am_ (IsS103.below (is103_ HI0) hb); have n2_ := am_ (bw_ BK428 hb); have n3_ := am_ (KeepBut.trans (kb_ HK.out) (KeepBut.of_below hb g none) (.inl rfl)); have n4_ := am_ (below_step (bi103_ HB.out) hb); have n5_ := am_ (hbox); have n6_ := am_ ((by rw [hg]; exact (keep_size (w := w) (g := g) (row := none) (kb_ HK.out)) : w.heap.size ≤ gb435)); have n7_ := am_ ((Nat.le_trans HW0.out (by rw [hg]; exact (keep_size (w := w) (g := g) (row := none) (kb_ HK.out)) : w.heap.size ≤ gb435) : w0.heap.size ≤ gb435)); have n8_ := am_ (nl_ BK428 hg); have n9_ := am_ (ng_ BK428 hg); have n10_ := am_ ((by rw [hg]; exact Nat.ne_of_lt (IsS103.lt (show IsS103 w0 _ g s0_0 t433 t434 from is103_ HI0)) : g ≠ gb435)); have n11_ := am_ ((by rw [hg]; exact Nat.ne_of_gt (IsS103.lt (show IsS103 w0 _ g s0_0 t433 t434 from is103_ HI0)) : gb435 ≠ g)); clear HO432 HI0 BK428 HK HB; revert n0_ n1_ n2_ n3_ n4_ n5_ n6_ n7_ n8_ n9_ n10_ n11_; intro HO432 HI0 BK428 HK HB BK435 GW435 GE435 NB428_435 NB435_428 NB0_435 NB435_0; clear hb hbox hg; have hnb28 := NB435_428.out; have hnc28 := NB428_435.out; have hnb29 := NB435_0.out; have hnc29 := NB0_435.out; obtain ⟨hcz30_0, hcz30_1, hfz30_0, hfz30_1⟩ := bx2_ BK435; obtain ⟨Ao31, co31, eo31⟩ := Kd.S_slice HO432.out; subst eo31) | ((with_reducible refine gate_callee (f := 107) rfl ?_); refine goesL_ (some 7) rfl rfl Try.func107 (by kernel_rfl) rfl #[.pointer (some ⟨g, 0, none⟩), .int .i64 24] rfl lm_ ?_; (with_reducible refine (spec_l01Next.calls g s0_0 t433 t434 24 t436 t437 t438 w0 _ ?side1 ?side2 A3.out).mono ?_); (case side1 => exact is103_ HI0); (case side2 => exact bi103_ HB.out); rintro e w32 ⟨rfl, hi, hb, hk⟩; refine ⟨_, rfl, ?_⟩; have n0_ := am_ (KeepBut.blk hk (g' := gb428) (o := .cells #[.int .i64 0, .slice none 0 0] 28 (0, 0)) (bk_ BK428.out) NB428_0.out (by simp)); have n1_ := am_ (Kd.S_mono (Kd.S_keep (IsS103.apartS (show IsS103 w0 _ g s0_0 t433 t434 from is103_ HI0) (Sx_ (Kd.S_mono (Kd.S_far (p := ⟨gb435, 1, none⟩) (Kd.S_far (p := ⟨gb435, 0, none⟩) (Kd.S_types HO432.out BK435.out (by decide)) (fun _ hk => hk.2) (.int .i64 t429)) (fun _ hk => hk.2) (.slice Ao31 t430.length co31)) (fun _ h_ => h_.1))) (by decide)) hk (fun _ h => h.2)) (fun _ h => h.1)); have n2_ := am_ (KeepBut.blk hk (g' := gb435) (o := .cells #[.int .i64 t429, .slice Ao31 t430.length co31] 28 (0, 0)) (pu2_ BK435) NB435_0.out (by simp)); have n3_ := am_ (KeepBut.trans (kb_ HK.out) hk (.inl rfl)); have n4_ := am_ (hb); have n5_ := am_ (hi); clear BK428 HO432 BK435 HK HB HI0; revert n0_ n1_ n2_ n3_ n4_ n5_; intro BK428 HO432 BK435 HK HB HI0; (try clear hb); (try clear hb2); (try clear hk); (try clear hi); obtain ⟨hcz33_0, hcz33_1, hfz33_0, hfz33_1⟩ := bx2_ BK435) | ((with_reducible refine gate_dst (N := 23) rfl ?_); refine Kd.R_lit (Kd.int .i64) _ 2 ?hg (N := 23) ?hd (xs := ([wrap64 (t429 + 1)] : List Int)) (inner := [.int .i64 (wrap64 (t429 + 1))]) (ok := fun _ => True) (okp := fun _ => True) ?hr ?hp (fun _ hk => hk) trivial (Below.refl _ _) (Nat.le_refl _) (by simp) ?_; (case hd => rfl); (case hg => rfl); (case hr => first | (go_simp; done) | (go_simp; rfl)); (case hp => exact (Reps.one (show Kd.M (Kd.int .i64) _ _ _ (wrap64 (t429 + 1)) [.int .i64 (wrap64 (t429 + 1))] from rfl) (Reps.none _ _))); intro v447 w34 ho35 hb hg_ hnew_; clear hg_ hnew_; (first | rw [← Ny446.out] at ho35 | (simp only [Int.reduceToNat] at ho35; rw [← Ny446.out] at ho35)); have n0_ := am_ (Kd.S_elder' (Sx_ HO432.out) (Kd.R_base ho35) hb); have n1_ := am_ (Kd.R_lower ho35 (keep_size (w := w) (g := g) (row := none) (kb_ HK.out))); have n2_ := am_ (IsS103.below (is103_ HI0) hb); have n3_ := am_ (bw_ BK428 hb); have n4_ := am_ (bw_ BK435 hb); have n5_ := am_ (KeepBut.trans (kb_ HK.out) (KeepBut.of_below hb g none) (.inl rfl)); have n6_ := am_ (below_step (bi103_ HB.out) hb); clear HO432 HI0 BK428 BK435 HK HB; revert n0_ n1_ n2_ n3_ n4_ n5_ n6_; intro HO432 HO448 HI0 BK428 BK435 HK HB; clear hb ho35; obtain ⟨Ao37, co37, eo37⟩ := Kd.R_slice HO448.out; subst eo37) | ((with_reducible refine gate_builtin (b := .append) (xs := #[.tmp 19, .tmp 24]) rfl ?_); at_builtin; refine Kd.S_append (Kd.slice 2 (Kd.int .i64)) w.heap.size rfl (.tmp 19) (.tmp 24) 22 39 (.slice none 0 0) 24 rfl Try.underlying22 info39 rfl (by decide) (by omega) (.slice Ao31 t430.length co31) t430 y446 [.slice Ao37 y446.length co37] (fun _ => True) (fun k_ => some k_ = (.slice Ao37 y446.length co37 : Value).ownBlock) rfl rfl ?aP (fun k_ hk_ => ((Kd.R_mono (ok' := fun k_ => ((fun _ => True)) k_ ∧ some k_ ≠ (.slice Ao31 t430.length co31 : Value).ownBlock) (Kd.R_apart' (HO448.out) (Kd.S_typed HO432.out) (by decide)) (fun k_ hk => ⟨trivial, hk.2⟩))).1 k_ hk_.symm) ?aF ?aO (Below.refl _ _) ?aS ?aL ?_; (case aP => exact Kd.M_row (Kd.R_mono (Kd.R_tight rfl (Kd.R_mono (ok' := fun k_ => ((fun _ => True)) k_ ∧ some k_ ≠ (.slice Ao31 t430.length co31 : Value).ownBlock) (Kd.R_apart' (HO448.out) (Kd.S_typed HO432.out) (by decide)) (fun k_ hk => ⟨trivial, hk.2⟩))) (fun _ h_ => h_))); (case aF => exact (fun _ _ => trivial)); (case aO => exact (Sx_ (Kd.S_mono HO432.out (fun k_ hk => ⟨trivial, fun e_ => hk.2 e_⟩)))); (case aS => exact (keep_size (w := w) (g := g) (row := none) (kb_ HK.out))); (case aL => have := LMc24.out; omega); intro v450 w36 ho hb hg hat; rw [← Ny449.out] at ho; have n0_ := am_ (IsS103.grown (is103_ HI0) hg (IsS103.own_neS HI0.out HO432.out (by decide))); have n1_ := am_ (blk_grown (g := gb428) (o := .cells #[.int .i64 0, .slice none 0 0] 28 (0, 0)) (bk_ BK428.out) hg (Kd.S_ne HO432.out BK428.out (by decide))); have n2_ := am_ (blk_grown (g := gb435) (o := .cells #[.int .i64 t429, .slice Ao31 t430.length co31] 28 (0, 0)) (bk_ BK435.out) hg (Kd.S_ne HO432.out BK435.out (by decide))); have n3_ := am_ (below_weaken (bi103_ HB.out) HL.out hb); have n4_ := am_ (KeepBut.trans (kb_ HK.out) (KeepBut.of_grown hg g) (Kd.S_base2 HO432.out)); have n5_ := am_ (ho); clear HI0 BK428 BK435 HB HK HO432 HO448; revert n0_ n1_ n2_ n3_ n4_ n5_; intro HI0 BK428 BK435 HB HK HO451; clear ho hb hg hat; obtain ⟨Ao38, co38, eo38⟩ := Kd.S_slice HO451.out; subst eo38; obtain ⟨hcz39_0, hcz39_1, hfz39_0, hfz39_1⟩ := bx2_ BK435; have hnb40 := NB428_0.out; have hnc40 := NB0_428.out; obtain ⟨hcz41_0, hcz41_1, hfz41_0, hfz41_1⟩ := bx2_ BK428))
    refine bodyPost_ret (results_cell_row rfl _ _ gb428 28 #[.int .i64 t429, .slice Ao38 y449.length co38] (0, 0) _ rfl (by (with_reducible repeat (first | refine blk_drewN ?_ _ | refine blk_drew ?_ | refine blk_alloc ?_ _)); refine blk_put (cs := #[.int .i64 t429, .slice none 0 0]) ?_ 1 _ rfl; (with_reducible repeat (first | refine blk_drewN ?_ _ | refine blk_drew ?_ | refine blk_alloc ?_ _)); refine blk_put (cs := #[.int .i64 0, .slice none 0 0]) ?_ 0 _ rfl; (with_reducible repeat (first | refine blk_drewN ?_ _ | refine blk_drew ?_ | refine blk_alloc ?_ _)); refine blk_far ?_ NB428_435.out _; (with_reducible repeat (first | refine blk_drewN ?_ _ | refine blk_drew ?_ | refine blk_alloc ?_ _)); exact BK428.out) Try.underlying28 rfl (by kernel_rfl)) rfl ?_
    exact ⟨_, er_, Sx_ (Kd.S_mono (Kd.S_far (p := ⟨gb428, 1, none⟩) (Kd.S_far (p := ⟨gb428, 0, none⟩) (Kd.S_far (p := ⟨gb435, 1, none⟩) (Kd.S_types (Kd.S_types HO451.out BK435.out (by decide)) BK428.out (by decide)) (fun _ hk => hk.1.2) (.slice Ao38 y449.length co38)) (fun _ hk => hk.2) (.int .i64 t429)) (fun _ hk => hk.2) (.slice Ao38 y449.length co38)) (fun _ hk => trivial)), is103_ HI0, bi103_ HB.out, kb_ HK.out⟩
   ·rw [if_neg c24] at H
    exact absurd H (by simp)
  ·rw [if_neg c23] at H
   have c23b0 : (t436 == 1) = false := beq_eq_false_iff_ne.mpr c23
   have c23b1 : (t436 != 1) = true := bne_iff_ne.mpr c23
   by_cases c42 : t436 = 2
   ·rw [if_pos c42] at H
    have c42b0 : (t436 == 2) = true := beq_iff_eq.mpr c42
    have c42b1 : (t436 != 2) = false := bne_eq_false_iff_eq.mpr c42
    clear c42
    obtain ⟨y452, hy452⟩ : ∃ y_ : List Int, y_ = (([1, (-1)] : List Int)) := ⟨_, rfl⟩
    replace H : (if t430.length < 5864062014805 then (some (t429, (t430 ++ [y452]), t437, t438)) else (none)) = some (r1, r2, r3, r4) := hq_ hy452 H
    have Ny452 := am_ hy452
    clear hy452
    by_cases c43 : t430.length < 5864062014805
    ·rw [if_pos c43] at H
     have LMc43 := am_ c43
     clear c43
     obtain ⟨y455, hy455⟩ : ∃ y_ : List (List Int), y_ = (t430 ++ [y452]) := ⟨_, rfl⟩
     replace H : (some (t429, y455, t437, t438)) = some (r1, r2, r3, r4) := hq_ hy455 H
     have Ny455 := am_ hy455
     clear hy455
     simp only [Option.some.injEq, Prod.mk.injEq] at H
     obtain ⟨rfl, rfl, rfl, rfl⟩ := H
     go_enter Try.func71, Try.ntmps71
     go_wp2_with (first | (refine be_ 2 28 #[.int .i64 0, .slice none 0 0] ?_; intro gb428 hg w44 hbox hb; have n0_ := am_ (IsS103.below (is103_ HI0) hb); have n1_ := am_ (KeepBut.trans (kb_ HK.out) (KeepBut.of_below hb g none) (.inl rfl)); have n2_ := am_ (below_step (bi103_ HB.out) hb); have n3_ := am_ (hbox); have n4_ := am_ ((by rw [hg]; exact (keep_size (w := w) (g := g) (row := none) (kb_ HK.out)) : w.heap.size ≤ gb428)); have n5_ := am_ ((Nat.le_trans HW0.out (by rw [hg]; exact (keep_size (w := w) (g := g) (row := none) (kb_ HK.out)) : w.heap.size ≤ gb428) : w0.heap.size ≤ gb428)); have n6_ := am_ ((by rw [hg]; exact Nat.ne_of_lt (IsS103.lt (show IsS103 w0 _ g s0_0 s0_1 s0_2 from is103_ HI0)) : g ≠ gb428)); have n7_ := am_ ((by rw [hg]; exact Nat.ne_of_gt (IsS103.lt (show IsS103 w0 _ g s0_0 s0_1 s0_2 from is103_ HI0)) : gb428 ≠ g)); clear HI0 HK HB; revert n0_ n1_ n2_ n3_ n4_ n5_ n6_ n7_; intro HI0 HK HB BK428 GW428 GE428 NB0_428 NB428_0; clear hb hbox hg) | ((with_reducible refine gate_callee (f := 106) rfl ?_); refine goesL_ (some 5) rfl rfl Try.func106 (by kernel_rfl) rfl #[.pointer (some ⟨g, 0, none⟩)] rfl lm_ ?_; (with_reducible refine (spec_l04DrawValid.calls k g s0_0 s0_1 s0_2 t429 t430 t433 t434 w0 _ ?side1 ?side2 A2.out).mono ?_); (case side1 => exact is103_ HI0); (case side2 => exact bi103_ HB.out); rintro e w45 ⟨v431, rfl, ho0, hi, hb, hk⟩; refine ⟨_, rfl, ?_⟩; have n0_ := am_ (KeepBut.blk hk (g' := gb428) (o := .cells #[.int .i64 0, .slice none 0 0] 28 (0, 0)) (bk_ BK428.out) NB428_0.out (by simp)); have n1_ := am_ (Kd.S_lower ho0 (keep_size (w := w) (g := g) (row := none) (kb_ HK.out))); have n2_ := am_ (KeepBut.trans (kb_ HK.out) hk (.inl rfl)); have n3_ := am_ (hb); have n4_ := am_ (hi); clear BK428 HK HB HI0; revert n0_ n1_ n2_ n3_ n4_; intro BK428 HO432 HK HB HI0; (try clear hb); (try clear hb2); (try clear hk); (try clear hi); (try clear ho0)) | (refine be_ 3 28 #[.int .i64 0, .slice none 0 0] ?_; intro gb435 hg w46 hbox hb; have n0_ := am_ (Kd.S_below (Sx_ HO432.out) hb); have n1_ := am_ (IsS103.below (is103_ HI0) hb); have n2_ := am_ (bw_ BK428 hb); have n3_ := am_ (KeepBut.trans (kb_ HK.out) (KeepBut.of_below hb g none) (.inl rfl)); have n4_ := am_ (below_step (bi103_ HB.out) hb); have n5_ := am_ (hbox); have n6_ := am_ ((by rw [hg]; exact (keep_size (w := w) (g := g) (row := none) (kb_ HK.out)) : w.heap.size ≤ gb435)); have n7_ := am_ ((Nat.le_trans HW0.out (by rw [hg]; exact (keep_size (w := w) (g := g) (row := none) (kb_ HK.out)) : w.heap.size ≤ gb435) : w0.heap.size ≤ gb435)); have n8_ := am_ (nl_ BK428 hg); have n9_ := am_ (ng_ BK428 hg); have n10_ := am_ ((by rw [hg]; exact Nat.ne_of_lt (IsS103.lt (show IsS103 w0 _ g s0_0 t433 t434 from is103_ HI0)) : g ≠ gb435)); have n11_ := am_ ((by rw [hg]; exact Nat.ne_of_gt (IsS103.lt (show IsS103 w0 _ g s0_0 t433 t434 from is103_ HI0)) : gb435 ≠ g)); clear HO432 HI0 BK428 HK HB; revert n0_ n1_ n2_ n3_ n4_ n5_ n6_ n7_ n8_ n9_ n10_ n11_; intro HO432 HI0 BK428 HK HB BK435 GW435 GE435 NB428_435 NB435_428 NB0_435 NB435_0; clear hb hbox hg; have hnb47 := NB435_428.out; have hnc47 := NB428_435.out; have hnb48 := NB435_0.out; have hnc48 := NB0_435.out; obtain ⟨hcz49_0, hcz49_1, hfz49_0, hfz49_1⟩ := bx2_ BK435; obtain ⟨Ao50, co50, eo50⟩ := Kd.S_slice HO432.out; subst eo50) | ((with_reducible refine gate_callee (f := 107) rfl ?_); refine goesL_ (some 7) rfl rfl Try.func107 (by kernel_rfl) rfl #[.pointer (some ⟨g, 0, none⟩), .int .i64 24] rfl lm_ ?_; (with_reducible refine (spec_l01Next.calls g s0_0 t433 t434 24 t436 t437 t438 w0 _ ?side1 ?side2 A3.out).mono ?_); (case side1 => exact is103_ HI0); (case side2 => exact bi103_ HB.out); rintro e w51 ⟨rfl, hi, hb, hk⟩; refine ⟨_, rfl, ?_⟩; have n0_ := am_ (KeepBut.blk hk (g' := gb428) (o := .cells #[.int .i64 0, .slice none 0 0] 28 (0, 0)) (bk_ BK428.out) NB428_0.out (by simp)); have n1_ := am_ (Kd.S_mono (Kd.S_keep (IsS103.apartS (show IsS103 w0 _ g s0_0 t433 t434 from is103_ HI0) (Sx_ (Kd.S_mono (Kd.S_far (p := ⟨gb435, 1, none⟩) (Kd.S_far (p := ⟨gb435, 0, none⟩) (Kd.S_types HO432.out BK435.out (by decide)) (fun _ hk => hk.2) (.int .i64 t429)) (fun _ hk => hk.2) (.slice Ao50 t430.length co50)) (fun _ h_ => h_.1))) (by decide)) hk (fun _ h => h.2)) (fun _ h => h.1)); have n2_ := am_ (KeepBut.blk hk (g' := gb435) (o := .cells #[.int .i64 t429, .slice Ao50 t430.length co50] 28 (0, 0)) (pu2_ BK435) NB435_0.out (by simp)); have n3_ := am_ (KeepBut.trans (kb_ HK.out) hk (.inl rfl)); have n4_ := am_ (hb); have n5_ := am_ (hi); clear BK428 HO432 BK435 HK HB HI0; revert n0_ n1_ n2_ n3_ n4_ n5_; intro BK428 HO432 BK435 HK HB HI0; (try clear hb); (try clear hb2); (try clear hk); (try clear hi); obtain ⟨hcz52_0, hcz52_1, hfz52_0, hfz52_1⟩ := bx2_ BK435) | ((with_reducible refine gate_dst (N := 31) rfl ?_); refine Kd.R_lit (Kd.int .i64) _ 2 ?hg (N := 31) ?hd (xs := ([1, (-1)] : List Int)) (inner := [.int .i64 1, .int .i64 (-1)]) (ok := fun _ => True) (okp := fun _ => True) ?hr ?hp (fun _ hk => hk) trivial (Below.refl _ _) (Nat.le_refl _) (by simp) ?_; (case hd => rfl); (case hg => rfl); (case hr => first | (go_simp; done) | (go_simp; rfl)); (case hp => exact (Reps.one (show Kd.M (Kd.int .i64) _ _ _ 1 [.int .i64 1] from rfl) (Reps.one (show Kd.M (Kd.int .i64) _ _ _ (-1) [.int .i64 (-1)] from rfl) (Reps.none _ _)))); intro v453 w53 ho54 hb hg_ hnew_; clear hg_ hnew_; (first | rw [← Ny452.out] at ho54 | (simp only [Int.reduceToNat] at ho54; rw [← Ny452.out] at ho54)); have n0_ := am_ (Kd.S_elder' (Sx_ HO432.out) (Kd.R_base ho54) hb); have n1_ := am_ (Kd.R_lower ho54 (keep_size (w := w) (g := g) (row := none) (kb_ HK.out))); have n2_ := am_ (IsS103.below (is103_ HI0) hb); have n3_ := am_ (bw_ BK428 hb); have n4_ := am_ (bw_ BK435 hb); have n5_ := am_ (KeepBut.trans (kb_ HK.out) (KeepBut.of_below hb g none) (.inl rfl)); have n6_ := am_ (below_step (bi103_ HB.out) hb); clear HO432 HI0 BK428 BK435 HK HB; revert n0_ n1_ n2_ n3_ n4_ n5_ n6_; intro HO432 HO454 HI0 BK428 BK435 HK HB; clear hb ho54; obtain ⟨Ao56, co56, eo56⟩ := Kd.R_slice HO454.out; subst eo56) | ((with_reducible refine gate_builtin (b := .append) (xs := #[.tmp 30, .tmp 32]) rfl ?_); at_builtin; refine Kd.S_append (Kd.slice 2 (Kd.int .i64)) w.heap.size rfl (.tmp 30) (.tmp 32) 22 39 (.slice none 0 0) 24 rfl Try.underlying22 info39 rfl (by decide) (by omega) (.slice Ao50 t430.length co50) t430 y452 [.slice Ao56 y452.length co56] (fun _ => True) (fun k_ => some k_ = (.slice Ao56 y452.length co56 : Value).ownBlock) rfl rfl ?aP (fun k_ hk_ => ((Kd.R_mono (ok' := fun k_ => ((fun _ => True)) k_ ∧ some k_ ≠ (.slice Ao50 t430.length co50 : Value).ownBlock) (Kd.R_apart' (HO454.out) (Kd.S_typed HO432.out) (by decide)) (fun k_ hk => ⟨trivial, hk.2⟩))).1 k_ hk_.symm) ?aF ?aO (Below.refl _ _) ?aS ?aL ?_; (case aP => exact Kd.M_row (Kd.R_mono (Kd.R_tight rfl (Kd.R_mono (ok' := fun k_ => ((fun _ => True)) k_ ∧ some k_ ≠ (.slice Ao50 t430.length co50 : Value).ownBlock) (Kd.R_apart' (HO454.out) (Kd.S_typed HO432.out) (by decide)) (fun k_ hk => ⟨trivial, hk.2⟩))) (fun _ h_ => h_))); (case aF => exact (fun _ _ => trivial)); (case aO => exact (Sx_ (Kd.S_mono HO432.out (fun k_ hk => ⟨trivial, fun e_ => hk.2 e_⟩)))); (case aS => exact (keep_size (w := w) (g := g) (row := none) (kb_ HK.out))); (case aL => have := LMc43.out; omega); intro v456 w55 ho hb hg hat; rw [← Ny455.out] at ho; have n0_ := am_ (IsS103.grown (is103_ HI0) hg (IsS103.own_neS HI0.out HO432.out (by decide))); have n1_ := am_ (blk_grown (g := gb428) (o := .cells #[.int .i64 0, .slice none 0 0] 28 (0, 0)) (bk_ BK428.out) hg (Kd.S_ne HO432.out BK428.out (by decide))); have n2_ := am_ (blk_grown (g := gb435) (o := .cells #[.int .i64 t429, .slice Ao50 t430.length co50] 28 (0, 0)) (bk_ BK435.out) hg (Kd.S_ne HO432.out BK435.out (by decide))); have n3_ := am_ (below_weaken (bi103_ HB.out) HL.out hb); have n4_ := am_ (KeepBut.trans (kb_ HK.out) (KeepBut.of_grown hg g) (Kd.S_base2 HO432.out)); have n5_ := am_ (ho); clear HI0 BK428 BK435 HB HK HO432 HO454; revert n0_ n1_ n2_ n3_ n4_ n5_; intro HI0 BK428 BK435 HB HK HO457; clear ho hb hg hat; obtain ⟨Ao57, co57, eo57⟩ := Kd.S_slice HO457.out; subst eo57; obtain ⟨hcz58_0, hcz58_1, hfz58_0, hfz58_1⟩ := bx2_ BK435; have hnb59 := NB428_0.out; have hnc59 := NB0_428.out; obtain ⟨hcz60_0, hcz60_1, hfz60_0, hfz60_1⟩ := bx2_ BK428))
     refine bodyPost_ret (results_cell_row rfl _ _ gb428 28 #[.int .i64 t429, .slice Ao57 y455.length co57] (0, 0) _ rfl (by (with_reducible repeat (first | refine blk_drewN ?_ _ | refine blk_drew ?_ | refine blk_alloc ?_ _)); refine blk_put (cs := #[.int .i64 t429, .slice none 0 0]) ?_ 1 _ rfl; (with_reducible repeat (first | refine blk_drewN ?_ _ | refine blk_drew ?_ | refine blk_alloc ?_ _)); refine blk_put (cs := #[.int .i64 0, .slice none 0 0]) ?_ 0 _ rfl; (with_reducible repeat (first | refine blk_drewN ?_ _ | refine blk_drew ?_ | refine blk_alloc ?_ _)); refine blk_far ?_ NB428_435.out _; (with_reducible repeat (first | refine blk_drewN ?_ _ | refine blk_drew ?_ | refine blk_alloc ?_ _)); exact BK428.out) Try.underlying28 rfl (by kernel_rfl)) rfl ?_
     exact ⟨_, er_, Sx_ (Kd.S_mono (Kd.S_far (p := ⟨gb428, 1, none⟩) (Kd.S_far (p := ⟨gb428, 0, none⟩) (Kd.S_far (p := ⟨gb435, 1, none⟩) (Kd.S_types (Kd.S_types HO457.out BK435.out (by decide)) BK428.out (by decide)) (fun _ hk => hk.1.2) (.slice Ao57 y455.length co57)) (fun _ hk => hk.2) (.int .i64 t429)) (fun _ hk => hk.2) (.slice Ao57 y455.length co57)) (fun _ hk => trivial)), is103_ HI0, bi103_ HB.out, kb_ HK.out⟩
    ·rw [if_neg c43] at H
     exact absurd H (by simp)
   ·rw [if_neg c42] at H
    have c42b0 : (t436 == 2) = false := beq_eq_false_iff_ne.mpr c42
    have c42b1 : (t436 != 2) = true := bne_iff_ne.mpr c42
    simp only [Option.some.injEq, Prod.mk.injEq] at H
    obtain ⟨rfl, rfl, rfl, rfl⟩ := H
    go_enter Try.func71, Try.ntmps71
    go_wp2_with (first | (refine be_ 2 28 #[.int .i64 0, .slice none 0 0] ?_; intro gb428 hg w61 hbox hb; have n0_ := am_ (IsS103.below (is103_ HI0) hb); have n1_ := am_ (KeepBut.trans (kb_ HK.out) (KeepBut.of_below hb g none) (.inl rfl)); have n2_ := am_ (below_step (bi103_ HB.out) hb); have n3_ := am_ (hbox); have n4_ := am_ ((by rw [hg]; exact (keep_size (w := w) (g := g) (row := none) (kb_ HK.out)) : w.heap.size ≤ gb428)); have n5_ := am_ ((Nat.le_trans HW0.out (by rw [hg]; exact (keep_size (w := w) (g := g) (row := none) (kb_ HK.out)) : w.heap.size ≤ gb428) : w0.heap.size ≤ gb428)); have n6_ := am_ ((by rw [hg]; exact Nat.ne_of_lt (IsS103.lt (show IsS103 w0 _ g s0_0 s0_1 s0_2 from is103_ HI0)) : g ≠ gb428)); have n7_ := am_ ((by rw [hg]; exact Nat.ne_of_gt (IsS103.lt (show IsS103 w0 _ g s0_0 s0_1 s0_2 from is103_ HI0)) : gb428 ≠ g)); clear HI0 HK HB; revert n0_ n1_ n2_ n3_ n4_ n5_ n6_ n7_; intro HI0 HK HB BK428 GW428 GE428 NB0_428 NB428_0; clear hb hbox hg) | ((with_reducible refine gate_callee (f := 106) rfl ?_); refine goesL_ (some 5) rfl rfl Try.func106 (by kernel_rfl) rfl #[.pointer (some ⟨g, 0, none⟩)] rfl lm_ ?_; (with_reducible refine (spec_l04DrawValid.calls k g s0_0 s0_1 s0_2 t429 t430 t433 t434 w0 _ ?side1 ?side2 A2.out).mono ?_); (case side1 => exact is103_ HI0); (case side2 => exact bi103_ HB.out); rintro e w62 ⟨v431, rfl, ho0, hi, hb, hk⟩; refine ⟨_, rfl, ?_⟩; have n0_ := am_ (KeepBut.blk hk (g' := gb428) (o := .cells #[.int .i64 0, .slice none 0 0] 28 (0, 0)) (bk_ BK428.out) NB428_0.out (by simp)); have n1_ := am_ (Kd.S_lower ho0 (keep_size (w := w) (g := g) (row := none) (kb_ HK.out))); have n2_ := am_ (KeepBut.trans (kb_ HK.out) hk (.inl rfl)); have n3_ := am_ (hb); have n4_ := am_ (hi); clear BK428 HK HB HI0; revert n0_ n1_ n2_ n3_ n4_; intro BK428 HO432 HK HB HI0; (try clear hb); (try clear hb2); (try clear hk); (try clear hi); (try clear ho0)) | (refine be_ 3 28 #[.int .i64 0, .slice none 0 0] ?_; intro gb435 hg w63 hbox hb; have n0_ := am_ (Kd.S_below (Sx_ HO432.out) hb); have n1_ := am_ (IsS103.below (is103_ HI0) hb); have n2_ := am_ (bw_ BK428 hb); have n3_ := am_ (KeepBut.trans (kb_ HK.out) (KeepBut.of_below hb g none) (.inl rfl)); have n4_ := am_ (below_step (bi103_ HB.out) hb); have n5_ := am_ (hbox); have n6_ := am_ ((by rw [hg]; exact (keep_size (w := w) (g := g) (row := none) (kb_ HK.out)) : w.heap.size ≤ gb435)); have n7_ := am_ ((Nat.le_trans HW0.out (by rw [hg]; exact (keep_size (w := w) (g := g) (row := none) (kb_ HK.out)) : w.heap.size ≤ gb435) : w0.heap.size ≤ gb435)); have n8_ := am_ (nl_ BK428 hg); have n9_ := am_ (ng_ BK428 hg); have n10_ := am_ ((by rw [hg]; exact Nat.ne_of_lt (IsS103.lt (show IsS103 w0 _ g s0_0 t433 t434 from is103_ HI0)) : g ≠ gb435)); have n11_ := am_ ((by rw [hg]; exact Nat.ne_of_gt (IsS103.lt (show IsS103 w0 _ g s0_0 t433 t434 from is103_ HI0)) : gb435 ≠ g)); clear HO432 HI0 BK428 HK HB; revert n0_ n1_ n2_ n3_ n4_ n5_ n6_ n7_ n8_ n9_ n10_ n11_; intro HO432 HI0 BK428 HK HB BK435 GW435 GE435 NB428_435 NB435_428 NB0_435 NB435_0; clear hb hbox hg; have hnb64 := NB435_428.out; have hnc64 := NB428_435.out; have hnb65 := NB435_0.out; have hnc65 := NB0_435.out; obtain ⟨hcz66_0, hcz66_1, hfz66_0, hfz66_1⟩ := bx2_ BK435; obtain ⟨Ao67, co67, eo67⟩ := Kd.S_slice HO432.out; subst eo67) | ((with_reducible refine gate_callee (f := 107) rfl ?_); refine goesL_ (some 7) rfl rfl Try.func107 (by kernel_rfl) rfl #[.pointer (some ⟨g, 0, none⟩), .int .i64 24] rfl lm_ ?_; (with_reducible refine (spec_l01Next.calls g s0_0 t433 t434 24 t436 t437 t438 w0 _ ?side1 ?side2 A3.out).mono ?_); (case side1 => exact is103_ HI0); (case side2 => exact bi103_ HB.out); rintro e w68 ⟨rfl, hi, hb, hk⟩; refine ⟨_, rfl, ?_⟩; have n0_ := am_ (KeepBut.blk hk (g' := gb428) (o := .cells #[.int .i64 0, .slice none 0 0] 28 (0, 0)) (bk_ BK428.out) NB428_0.out (by simp)); have n1_ := am_ (Kd.S_mono (Kd.S_keep (IsS103.apartS (show IsS103 w0 _ g s0_0 t433 t434 from is103_ HI0) (Sx_ (Kd.S_mono (Kd.S_far (p := ⟨gb435, 1, none⟩) (Kd.S_far (p := ⟨gb435, 0, none⟩) (Kd.S_types HO432.out BK435.out (by decide)) (fun _ hk => hk.2) (.int .i64 t429)) (fun _ hk => hk.2) (.slice Ao67 t430.length co67)) (fun _ h_ => h_.1))) (by decide)) hk (fun _ h => h.2)) (fun _ h => h.1)); have n2_ := am_ (KeepBut.blk hk (g' := gb435) (o := .cells #[.int .i64 t429, .slice Ao67 t430.length co67] 28 (0, 0)) (pu2_ BK435) NB435_0.out (by simp)); have n3_ := am_ (KeepBut.trans (kb_ HK.out) hk (.inl rfl)); have n4_ := am_ (hb); have n5_ := am_ (hi); clear BK428 HO432 BK435 HK HB HI0; revert n0_ n1_ n2_ n3_ n4_ n5_; intro BK428 HO432 BK435 HK HB HI0; (try clear hb); (try clear hb2); (try clear hk); (try clear hi); obtain ⟨hcz69_0, hcz69_1, hfz69_0, hfz69_1⟩ := bx2_ BK435; have hnb70 := NB428_0.out; have hnc70 := NB0_428.out; obtain ⟨hcz71_0, hcz71_1, hfz71_0, hfz71_1⟩ := bx2_ BK428))
    refine bodyPost_ret (results_cell_row rfl _ _ gb428 28 #[.int .i64 t429, .slice Ao67 t430.length co67] (0, 0) _ rfl (pu2_ BK428) Try.underlying28 rfl (by kernel_rfl)) rfl ?_
    exact ⟨_, er_, Sx_ (Kd.S_mono (Kd.S_far (p := ⟨gb428, 1, none⟩) (Kd.S_far (p := ⟨gb428, 0, none⟩) (Kd.S_types HO432.out BK428.out (by decide)) (fun _ hk => hk.2) (.int .i64 t429)) (fun _ hk => hk.2) (.slice Ao67 t430.length co67)) (fun _ hk => trivial)), is103_ HI0, bi103_ HB.out, kb_ HK.out⟩

/-! ### spec_l01From: function 72 -/
def spec_l01From.l0 : Nat → List Int → Int → List Int → Int → Int → Option (List Int × Int × Int)
  | 0, _, _, _, _, _ => none
  | k + 1, x0, x4, x459000, x459001, x459002 => if x4 < (x0.length : Int) then (if x4 < 64 then (if 0 ≤ x4 then (spec_l01From.l0 k x0 (wrap64 (x4 + 1)) x459000 x459001 (Int.tmod (wrap64 ((wrap64 (x459002 * 37)) + (wrap64 (rd x0 x4)))) 2147483647)) else (none)) else (some (x459000, x459001, x459002))) else (some (x459000, x459001, x459002))
def spec_l01From.f (k : Nat) (l0 : List Int) : Option (List Int × Int × Int) := spec_l01From.l0 k l0 0 l0 0 97531
theorem spec_l01From.mono_l : ∀ k, (∀ y0 y1 y2 y3 y4, LeO (spec_l01From.l0 k y0 y1 y2 y3 y4) (spec_l01From.l0 (k + 1) y0 y1 y2 y3 y4))
  | 0 => fun _ _ _ _ _ r h => by simp [spec_l01From.l0] at h
  | k + 1 => by
    have ih0 := spec_l01From.mono_l k
    · intro y0 y1 y2 y3 y4
      unfold spec_l01From.l0
      repeat' first
      | (with_reducible exact ih0 _ _ _ _ _)
      | (with_reducible exact LeO.refl _)
      | (with_reducible exact LeO.none _)
      | (with_reducible refine LeO.ite ?_ ?_)
      | (with_reducible refine LeO.bind ?_ (fun _ => ?_))
      | exact ih0 _ _ _ _ _
      | exact LeO.none _
      | refine LeO.ite ?_ ?_
      | refine LeO.bind ?_ (fun _ => ?_)
theorem spec_l01From.mono : ∀ a0 k, LeO (spec_l01From.f k a0) (spec_l01From.f (k + 1) a0) := by
  intro a0 k
  have ih0 := spec_l01From.mono_l k
  unfold spec_l01From.f
  repeat' first
      | (with_reducible exact ih0 _ _ _ _ _)
      | (with_reducible exact LeO.refl _)
      | (with_reducible exact LeO.none _)
      | (with_reducible refine LeO.ite ?_ ?_)
      | (with_reducible refine LeO.bind ?_ (fun _ => ?_))
      | exact ih0 _ _ _ _ _
      | exact LeO.none _
      | refine LeO.ite ?_ ?_
      | refine LeO.bind ?_ (fun _ => ?_)
def spec_l01From.T5 : Bool × List (List Nat × List Nat) := (true, [([], []), ([], []), ([1], [1]), ([2], [2]), ([3], [3]), ([4], [4]), ([], []), ([], []), ([6, 7], [6, 7]), ([8], [8]), ([9], [9]), ([5, 10], [5, 10]), ([11], [11]), ([0, 0, 1, 2, 3, 4, 5, 6, 7, 8, 9, 10, 11, 12], [0]), ([13, 0, 1, 2, 3, 4, 5, 6, 7, 8, 9, 10, 11, 12], [13]), ([14, 12, 0, 1, 2, 3, 4, 5, 6, 7, 8, 9, 10, 11, 12], [12, 14])])
def spec_l01From.B5 : List Nat := [0, 0, 2, 6, 14, 30, 0, 0, 192, 448, 960, 2046, 4094, 8191, 16383, 32767]
theorem spec_l01From.tab5 : rtab .any (opsOf Try.f72 5) = spec_l01From.T5 := by kernel_rfl
theorem spec_l01From.bits5 : waitsOk spec_l01From.T5.2 spec_l01From.B5 = true := by kernel_rfl
theorem spec_l01From.calls (k : Nat) (A0 : Option Addr) (c0 : Nat) (l0 : List Int) (r1 : List Int) (r2 : Int) (r3 : Int) (w0 w : World) (hB : Below w0.heap.size w0 w) (hr0 : Kd.C (Kd.int .u8) w0 A0 l0.length l0) (hc0 : l0.length ≤ c0) (h : spec_l01From.f k l0 = some (r1, r2, r3)) :
    Calls Try.prog 72 #[.slice A0 l0.length c0] w fun e w' => ∃ g_ : Nat, e = .returned (.pointer (some ⟨g_, 0, none⟩)) ∧ IsS103 w0 w' g_ r1 r2 r3 ∧ Below w0.heap.size w0 w' ∧ Below w.heap.size w w' := by
  have hu103 := Try.underlying103
  have HR0 := Aside0.mk hr0
  have HC0 := Aside0.mk hc0
  clear hr0 hc0
  have HBW := Aside0.mk (Below.refl w.heap.size w)
  have HW0 := Aside0.mk hB.size
  have HB := Aside0.mk hB
  clear hB
  have H : (spec_l01From.l0 k l0 0 l0 0 97531) = some (r1, r2, r3) := h
  clear h
  have H' := Aside0.mk H
  clear H
  go_enter Try.func72, Try.ntmps72
  go_wp2_with (first | (refine be_ 7 103 #[.slice A0 l0.length c0, .int .i64 0, .int .i64 97531] ?_; intro gb458 hg w2 hbox hb; have n0_ := Aside0.mk (below_step HBW.out hb); have n1_ := Aside0.mk (below_step (by repeat (first | (with_reducible first | exact HB.out | apply below_alloc | apply pw_below_drewN | apply below_drew1) | exact HB.out)) hb); have n2_ := Aside0.mk (hbox); have n3_ := Aside0.mk ((by rw [hg]; exact (below_size (by repeat (first | (with_reducible first | exact HBW.out | apply below_alloc | apply pw_below_drewN | apply below_drew1) | exact HBW.out))) : w.heap.size ≤ gb458)); have n4_ := Aside0.mk ((Nat.le_trans HW0.out (by rw [hg]; exact (below_size (by repeat (first | (with_reducible first | exact HBW.out | apply below_alloc | apply pw_below_drewN | apply below_drew1) | exact HBW.out))) : w.heap.size ≤ gb458) : w0.heap.size ≤ gb458)); clear HBW; clear HB; have HBW := n0_; have HB := n1_; have BK458 := n2_; have GW458 := n3_; have GE458 := n4_; clear n0_ n1_ n2_ n3_ n4_; clear hb hbox hg))
  go_loopg [4] k (fun kq v4 w' => ∃ (x4_1 : Int) (x459002_1 : Int), v4 = .int .i64 x4_1 ∧ Aside0 (spec_l01From.l0 kq l0 x4_1 l0 0 x459002_1 = some (r1, r2, r3)) ∧ Aside0 (kq ≤ k) ∧ Aside0 (w'.heap[gb458]? = some (.cells #[(.slice A0 l0.length c0), .int .i64 0, .int .i64 x459002_1] 103 (0, 0))) ∧ Aside0 (Below w0.heap.size w0 w') ∧ Aside0 (Below w.heap.size w w'))
  case atStart => exact ⟨(0), (97531), (by first | rfl | (simp; done) | (simp [*]; done)), H', ⟨Nat.le_refl _⟩, ⟨by (with_reducible repeat (first | refine blk_drewN ?_ _ | refine blk_drew ?_ | refine blk_alloc ?_ _)); exact BK458.out⟩, ⟨by repeat (first | (with_reducible first | exact HB.out | apply below_alloc | apply pw_below_drewN | apply below_drew1 | refine below_set ?_ GE458.out) | exact HB.out)⟩, ⟨by repeat (first | (with_reducible first | exact HBW.out | apply below_alloc | apply pw_below_drewN | apply below_drew1 | refine below_set ?_ GW458.out) | exact HBW.out)⟩⟩
  case round =>
    clear H'
    clear HBW
    try clear p2
    obtain ⟨x4_1, x459002_1, rfl, HA, HK1, BK458, HB, HBW⟩ := hrel
    cases gk with
    | zero => exact absurd HA.out (by simp [spec_l01From.l0])
    | succ k1 =>
      have H := HA.out
      clear HA
      simp only [spec_l01From.l0] at H
      by_cases c3 : x4_1 < (l0.length : Int)
      · rw [if_pos c3] at H
        have c3b0 : decide (x4_1 < (l0.length : Int)) = true := decide_eq_true c3
        clear c3
        by_cases c4 : x4_1 < 64
        · rw [if_pos c4] at H
          have c4b0 : decide (x4_1 < 64) = true := decide_eq_true c4
          clear c4
          by_cases c5 : 0 ≤ x4_1
          · rw [if_pos c5] at H
            have c5b0 : decide (0 ≤ x4_1) = true := decide_eq_true c5
            clear c5
            have H' := Aside0.mk H
            clear H
            try go_wp2
            have n0_ := Aside0.mk (blk_drew BK458.out)
            have n9_ := Aside0.mk (below_drew1 HBW.out)
            clear HBW
            have HBW := n9_
            clear n9_
            have n1_ := Aside0.mk (below_drew1 HB.out)
            clear BK458
            clear HB
            have BK458 := n0_
            have HB := n1_
            clear n0_ n1_
            have p459 : 0 ≤ (x4_1 : Int) := da_
            have q459 : x4_1 < (l0.length : Int) := da_
            obtain ⟨ad459, e459, hx459_0⟩ := Kd.at_int HR0.out x4_1 p459 q459
            have hw459_0 := hx459_0
            cases e459
            replace hx459_0 := pw_cell_below HB.out hx459_0
            replace p459 := eq_true p459
            replace q459 := eq_true q459
            refine start_ (n := 16) (S := fun w' => w'.cell? ⟨gb458, 0, none⟩ = some (.slice (some ad459) l0.length c0) ∧ w'.cell? ⟨gb458, 1, none⟩ = some (.int .i64 0) ∧ w'.cell? ⟨gb458, 2, none⟩ = some (.int .i64 x459002_1) ∧ w'.cell? (ad459.add (x4_1).toNat) = some (.int .u8 (rd l0 x4_1))) (ds := [15]) (bA_ 16 0) (by kernel_rfl) rfl (by kernel_rfl) ⟨(blk_cell BK458.out 0).trans rfl, (blk_cell BK458.out 1).trans rfl, (blk_cell BK458.out 2).trans rfl, ((HB.out.cell (World.block_lt_of_cell? _ _ hw459_0)).trans hw459_0)⟩ (fun hHeld => ?_); refine with_tabW spec_l01From.tab5 spec_l01From.bits5 (fun HT_ HW_ => ?_)
            generalize wr.drew = w6 at BK458 HB HBW hx459_0 hHeld ⊢
            refine pz_ 0 18 (bA_ 16 1) HT_ ?_
            refine pz_ 1 19 (bA_ 16 3) HT_ ?_
            refine pz_ 2 20 (bA_ 16 7) HT_ ?_
            refine pz_ 3 21 (bA_ 16 15) HT_ ?_
            refine pz_ 6 24 (bA_ 16 79) HT_ ?_
            refine pz_ 7 25 (bA_ 16 207) HT_ ?_
            refine pz_ 8 26 (bA_ 16 463) HT_ ?_
            refine tz_ 4 22 (bA_ 16 479) HT_ HW_ hHeld ?_
            refine pz_ 5 23 (bA_ 16 511) HT_ ?_
            refine tz_ 9 27 (bA_ 16 1023) HT_ HW_ hHeld ?_
            refine pz_ 10 28 (bA_ 16 2047) HT_ ?_
            refine pz_ 11 29 (bA_ 16 4095) HT_ ?_
            refine pz_ 12 30 (bA_ 16 8191) HT_ ?_
            refine pz_ 13 31 (bA_ 16 16383) HT_ ?_
            refine pz_ 14 32 (bA_ 16 32767) HT_ ?_
            refine last_ (i := 15) (N := none) (bA_ 16 65535) rfl rfl (one_of HT_.out (by kernel_rfl)) (by decide) (fun K hK => ?_)
            have hs7 : w6.cell? ⟨gb458, 2, none⟩ = some (.int .i64 x459002_1) := (blk_cell BK458.out 2).trans rfl
            have hfs7 := blk_frozen BK458.out 2
            refine skip_ (w1 := ?_) (by rfl) rfl ?_ ?_
            rotate_left
            · go_simp
              rfl
            refine hK.out _ _ ?_
            clear hK K
            refine done_ (done_of HT_.out (by kernel_rfl)) ?_
            try go_wp2
            go_roundg k1
            case measure => have := HK1.out; omega
            case rel => exact ⟨(wrap64 (x4_1 + 1)), (Int.tmod (wrap64 ((wrap64 (x459002_1 * 37)) + (wrap64 (rd l0 x4_1)))) 2147483647), (by first | rfl | (simp; done) | (simp [*]; done)), H', ⟨by have := HK1.out; omega⟩, ⟨by (with_reducible repeat (first | refine blk_drewN ?_ _ | refine blk_drew ?_ | refine blk_alloc ?_ _)); refine blk_put (cs := #[.slice (some ad459) l0.length c0, .int .i64 0, .int .i64 x459002_1]) ?_ 2 _ rfl; (with_reducible repeat (first | refine blk_drewN ?_ _ | refine blk_drew ?_ | refine blk_alloc ?_ _)); exact BK458.out⟩, ⟨by repeat (first | (with_reducible first | exact HB.out | apply below_alloc | apply pw_below_drewN | apply below_drew1 | refine below_set ?_ GE458.out) | exact HB.out)⟩, ⟨by repeat (first | (with_reducible first | exact HBW.out | apply below_alloc | apply pw_below_drewN | apply below_drew1 | refine below_set ?_ GW458.out) | exact HBW.out)⟩⟩
          · rw [if_neg c5] at H
            exact absurd H (by simp)
        · rw [if_neg c4] at H
          have c4b0 : decide (x4_1 < 64) = false := decide_eq_false c4
          clear c4
          simp only [Option.some.injEq, Prod.mk.injEq] at H
          obtain ⟨rfl, rfl, rfl⟩ := H
          go_wp2
          go_ret
          exact ⟨_, rfl, (show IsS103 w0 _ gb458 l0 0 x459002_1 from ⟨_, _, by (with_reducible repeat (first | refine blk_drewN ?_ _ | refine blk_drew ?_ | refine blk_alloc ?_ _)); exact BK458.out, GE458.out, HR0.out⟩), by repeat (first | (with_reducible first | exact HB.out | apply below_alloc | apply pw_below_drewN | apply below_drew1 | refine below_set ?_ GE458.out) | exact HB.out), by repeat (first | (with_reducible first | exact HBW.out | apply below_alloc | apply pw_below_drewN | apply below_drew1 | refine below_set ?_ GW458.out) | exact HBW.out)⟩
      · rw [if_neg c3] at H
        have c3b0 : decide (x4_1 < (l0.length : Int)) = false := decide_eq_false c3
        clear c3
        simp only [Option.some.injEq, Prod.mk.injEq] at H
        obtain ⟨rfl, rfl, rfl⟩ := H
        go_wp2
        go_ret
        exact ⟨_, rfl, (show IsS103 w0 _ gb458 l0 0 x459002_1 from ⟨_, _, by (with_reducible repeat (first | refine blk_drewN ?_ _ | refine blk_drew ?_ | refine blk_alloc ?_ _)); exact BK458.out, GE458.out, HR0.out⟩), by repeat (first | (with_reducible first | exact HB.out | apply below_alloc | apply pw_below_drewN | apply below_drew1 | refine below_set ?_ GE458.out) | exact HB.out), by repeat (first | (with_reducible first | exact HBW.out | apply below_alloc | apply pw_below_drewN | apply below_drew1 | refine below_set ?_ GW458.out) | exact HBW.out)⟩

/-! ### spec_DrawSimplifyPresentation: function 34 -/
def spec_DrawSimplifyPresentation.f (k : Nat) (l0 : List Int) : Option (Int × (List (List Int))) := (spec_l01From.f k l0).bind fun bt461 => ((spec_l04Draw.f k bt461.1 bt461.2.1 bt461.2.2).bind fun bt465 => (some (bt465.1, bt465.2.1)))
theorem spec_DrawSimplifyPresentation.calls (k : Nat) (A0 : Option Addr) (c0 : Nat) (l0 : List Int) (r1 : Int) (r2 : List (List Int)) (w : World) (hr0 : Kd.C (Kd.int .u8) w A0 l0.length l0) (hc0 : l0.length ≤ c0) (h : spec_DrawSimplifyPresentation.f k l0 = some (r1, r2)) :
    Calls Try.prog 34 #[.slice A0 l0.length c0] w fun e w' => ∃ v1_ : Value, e = .returned (.agg #[.int .i64 r1, v1_]) ∧ Kd.S (Kd.slice 2 (Kd.int .i64)) 39 w' w.heap.size (fun _ => True) v1_ r2 ∧ Below w.heap.size w w' := by
  have hu28 := Try.underlying28
  have HR0 := Aside0.mk hr0
  have HC0 := Aside0.mk hc0
  clear hr0 hc0
  have HB := Aside0.mk (Below.refl w.heap.size w)
  have H : ((spec_l01From.f k l0).bind fun bt461 => ((spec_l04Draw.f k bt461.1 bt461.2.1 bt461.2.2).bind fun bt465 => (some (bt465.1, bt465.2.1)))) = some (r1, r2) := h
  clear h
  replace H := Option.bind_eq_some_iff.mp H
  obtain ⟨⟨t461, t462, t463⟩, A20, H⟩ := H
  replace H : ((spec_l04Draw.f k t461 t462 t463).bind fun bt465 => (some (bt465.1, bt465.2.1))) = some (r1, r2) := H
  have A2 := Aside0.mk A20
  clear A20
  replace H := Option.bind_eq_some_iff.mp H
  obtain ⟨⟨t465, t466, t469, t470⟩, A30, H⟩ := H
  replace H : (some (t465, t466)) = some (r1, r2) := H
  have A3 := Aside0.mk A30
  clear A30
  simp only [Option.some.injEq, Prod.mk.injEq] at H
  obtain ⟨rfl, rfl⟩ := H
  go_enter Try.func34, Try.ntmps34
  go_wp2_with (first | (refine be_ 2 28 #[.int .i64 0, .slice none 0 0] ?_; intro gb460 hg w4 hbox hb; have n0_ := Aside0.mk (below_step (by repeat (first | (with_reducible first | exact HB.out | apply below_alloc | apply pw_below_drewN | apply below_drew1) | exact HB.out)) hb); have n1_ := Aside0.mk (hbox); have n2_ := Aside0.mk ((by rw [hg]; exact (below_size (by repeat (first | (with_reducible first | exact HB.out | apply below_alloc | apply pw_below_drewN | apply below_drew1) | exact HB.out))) : w.heap.size ≤ gb460)); have n3_ := Aside0.mk ((by rw [hg]; exact (below_size (by repeat (first | (with_reducible first | exact HB.out | apply below_alloc | apply pw_below_drewN | apply below_drew1) | exact HB.out))) : w.heap.size ≤ gb460)); clear HB; have HB := n0_; have BK460 := n1_; have GW460 := n2_; have GE460 := n3_; clear n0_ n1_ n2_ n3_; clear hb hbox hg) | ((with_reducible refine gate_callee (f := 72) rfl ?_); refine goesL_ (some 4) rfl rfl Try.func72 (by kernel_rfl) rfl #[.slice A0 l0.length c0] rfl (by (try simp only [List.map_toArray, List.map_cons, List.map_nil]); first | done | rfl | (simp only [List.length_drop, List.length_take]; rfl)) ?_; (with_reducible refine (spec_l01From.calls k _ _ l0 t461 t462 t463 w _ ?side1 ?side2 ?side3 A2.out).mono ?_); (case side1 => repeat (first | (with_reducible first | exact HB.out | apply below_alloc | apply pw_below_drewN | apply below_drew1 | refine below_set ?_ GE460.out) | exact HB.out)); (case side2 => exact HR0.out); (case side3 => exact HC0.out); rintro e w5 ⟨g464, rfl, hi, hb, hb2⟩; refine ⟨_, rfl, ?_⟩; have n0_ := Aside0.mk (blk_below (g := gb460) (o := .cells #[.int .i64 0, .slice none 0 0] 28 (0, 0)) (by (with_reducible repeat (first | refine blk_drewN ?_ _ | refine blk_drew ?_ | refine blk_alloc ?_ _)); exact BK460.out) hb2); have n1_ := Aside0.mk (hb); have n2_ := Aside0.mk (hi); have n3_ := Aside0.mk (IsS103.ne_blk hi (blk_below (g := gb460) (o := .cells #[.int .i64 0, .slice none 0 0] 28 (0, 0)) (by (with_reducible repeat (first | refine blk_drewN ?_ _ | refine blk_drew ?_ | refine blk_alloc ?_ _)); exact BK460.out) hb2) (by decide)); have n4_ := Aside0.mk (Ne.symm (IsS103.ne_blk hi (blk_below (g := gb460) (o := .cells #[.int .i64 0, .slice none 0 0] 28 (0, 0)) (by (with_reducible repeat (first | refine blk_drewN ?_ _ | refine blk_drew ?_ | refine blk_alloc ?_ _)); exact BK460.out) hb2) (by decide))); clear BK460; clear HB; have BK460 := n0_; have HB := n1_; have HI464 := n2_; have NB464_460 := n3_; have NB460_464 := n4_; clear n0_ n1_ n2_ n3_ n4_; (try clear hb); (try clear hb2); (try clear hk); (try clear hi)) | ((with_reducible refine gate_callee (f := 71) rfl ?_); refine goesL_ (some 5) rfl rfl Try.func71 (by kernel_rfl) rfl #[.pointer (some ⟨g464, 0, none⟩)] rfl (by (try simp only [List.map_toArray, List.map_cons, List.map_nil]); first | done | rfl | (simp only [List.length_drop, List.length_take]; rfl)) ?_; (with_reducible refine (spec_l04Draw.calls k g464 t461 t462 t463 t465 t466 t469 t470 w _ ?side1 ?side2 A3.out).mono ?_); (case side1 => repeat (first | (with_reducible first | exact HI464.out | apply IsS103.alloc | apply IsS103.drewN | apply IsS103.drew | apply IsS103.set_1 | apply IsS103.set_2 | refine IsS103.far ?_ NB464_460.out _) | exact HI464.out)); (case side2 => repeat (first | (with_reducible first | exact HB.out | apply below_alloc | apply pw_below_drewN | apply below_drew1 | refine below_set ?_ (IsS103.ge HI464.out) | refine below_set ?_ GE460.out) | exact HB.out)); rintro e w6 ⟨v467, rfl, ho0, hi, hb, hk⟩; refine ⟨_, rfl, ?_⟩; have n0_ := Aside0.mk (KeepBut.blk hk (g' := gb460) (o := .cells #[.int .i64 0, .slice none 0 0] 28 (0, 0)) (by (with_reducible repeat (first | refine blk_drewN ?_ _ | refine blk_drew ?_ | refine blk_alloc ?_ _)); exact BK460.out) NB460_464.out (by simp)); have n1_ := Aside0.mk (Kd.S_lower ho0 (below_size (by repeat (first | (with_reducible first | exact HB.out | apply below_alloc | apply pw_below_drewN | apply below_drew1 | refine below_set ?_ (IsS103.ge HI464.out) | refine below_set ?_ GE460.out) | exact HB.out)))); have n2_ := Aside0.mk (hb); have n3_ := Aside0.mk (hi); clear BK460; clear HB; clear HI464; have BK460 := n0_; have HO468 := n1_; have HB := n2_; have HI464 := n3_; clear n0_ n1_ n2_ n3_; (try clear hb); (try clear hb2); (try clear hk); (try clear hi); (try clear ho0); have hnb7 := NB460_464.out; have hnc7 := NB464_460.out; have hcz8_0 : w6.cell? ⟨gb460, 0, none⟩ = some (.int .i64 0) := (blk_cell BK460.out 0).trans rfl; have hcz8_1 : w6.cell? ⟨gb460, 1, none⟩ = some (.slice none 0 0) := (blk_cell BK460.out 1).trans rfl; have hfz8_0 := blk_frozen BK460.out 0; have hfz8_1 := blk_frozen BK460.out 1; obtain ⟨Ao9, co9, eo9⟩ := Kd.S_slice HO468.out; subst eo9))
  refine bodyPost_ret (results_cell_row rfl _ _ gb460 28 #[.int .i64 t465, .slice Ao9 t466.length co9] (0, 0) _ rfl (pu2_ BK460) Try.underlying28 rfl (by kernel_rfl)) rfl ?_
  exact ⟨_, er_, Sx_ (Kd.S_mono (Kd.S_far (p := ⟨gb460, 1, none⟩) (Kd.S_far (p := ⟨gb460, 0, none⟩) (Kd.S_types HO468.out BK460.out (by decide)) (fun _ hk => hk.2) (.int .i64 t465)) (fun _ hk => hk.2) (.slice Ao9 t466.length co9)) (fun _ hk => trivial)), by repeat (first | (with_reducible first | exact HB.out | apply below_alloc | apply pw_below_drewN | apply below_drew1 | refine below_set ?_ (IsS103.ge HI464.out) | refine below_set ?_ GE460.out) | exact HB.out)⟩

/-! ### laws_likeInts: function 36 -/
def laws_likeInts.l0 : Nat → List Int → List Int → Int → Option (Bool)
  | 0, _, _, _ => none
  | k + 1, x0, x1, x5 => if x5 < (x0.length : Int) then (if 0 ≤ x5 then (if x5 < (x1.length : Int) then (if (rd x0 x5) = (rd x1 x5) then (laws_likeInts.l0 k x0 x1 (wrap64 (x5 + 1))) else (some false)) else (none)) else (none)) else (some true)
def laws_likeInts.f (k : Nat) (l0 : List Int) (l1 : List Int) : Option (Bool) := if (l0.length : Int) = (l1.length : Int) then (laws_likeInts.l0 k l0 l1 0) else (some false)
theorem laws_likeInts.calls (k : Nat) (A0 : Option Addr) (c0 : Nat) (l0 : List Int) (A1 : Option Addr) (c1 : Nat) (l1 : List Int) (r : Bool) (w : World) (hr0 : Kd.C (Kd.int .i64) w A0 l0.length l0) (hc0 : l0.length ≤ c0) (hr1 : Kd.C (Kd.int .i64) w A1 l1.length l1) (hc1 : l1.length ≤ c1) (h : laws_likeInts.f k l0 l1 = some r) :
    Calls Try.prog 36 #[.slice A0 l0.length c0, .slice A1 l1.length c1] w fun e w' => e = .returned (.bool r) ∧ Drawn0 w w' := by
  have HR0 := Aside0.mk hr0
  have HC0 := Aside0.mk hc0
  clear hr0 hc0
  have HR1 := Aside0.mk hr1
  have HC1 := Aside0.mk hc1
  clear hr1 hc1
  have H : (if (l0.length : Int) = (l1.length : Int) then (laws_likeInts.l0 k l0 l1 0) else (some false)) = some r := h
  clear h
  by_cases c3 : (l0.length : Int) = (l1.length : Int)
  · rw [if_pos c3] at H
    have c3b0 : ((l0.length : Int) == (l1.length : Int)) = true := beq_iff_eq.mpr c3
    have c3b1 : ((l0.length : Int) != (l1.length : Int)) = false := bne_eq_false_iff_eq.mpr c3
    have c3b2 : (l0.length == l1.length) = true := by first | simpa using c3 | (simp at c3 ⊢; omega)
    clear c3
    have H' := Aside0.mk H
    clear H
    go_enter Try.func36, Try.ntmps36
    go_wp2
    repeat (go_quiet (fail); try go_wp2)
    go_loopg [5] k (fun kq v5 w' => ∃ (x5_1 : Int), v5 = .int .i64 x5_1 ∧ Aside0 (laws_likeInts.l0 kq l0 l1 x5_1 = some r) ∧ Aside0 (kq ≤ k) ∧ Drawn0 w w')
    case atStart => exact ⟨(0), (by first | rfl | (simp; done) | (simp [*]; done)), H', ⟨Nat.le_refl _⟩, by repeat (first | exact Drawn0.refl _ | apply Drawn0.step)⟩
    case round =>
      clear H'
      try clear c1
      try clear p2
      try clear c3
      try clear c3b0
      try clear c3b1
      try clear c3b2
      obtain ⟨x5_1, rfl, HA, HK1, ⟨m1, rfl⟩⟩ := hrel
      cases gk with
      | zero => exact absurd HA.out (by simp [laws_likeInts.l0])
      | succ k1 =>
        have H := HA.out
        clear HA
        simp only [laws_likeInts.l0] at H
        by_cases c4 : x5_1 < (l0.length : Int)
        · rw [if_pos c4] at H
          have c4b0 : decide (x5_1 < (l0.length : Int)) = true := decide_eq_true c4
          clear c4
          by_cases c5 : 0 ≤ x5_1
          · rw [if_pos c5] at H
            have c5b0 : decide (0 ≤ x5_1) = true := decide_eq_true c5
            clear c5
            by_cases c6 : x5_1 < (l1.length : Int)
            · rw [if_pos c6] at H
              have c6b0 : decide (x5_1 < (l1.length : Int)) = true := decide_eq_true c6
              clear c6
              by_cases c7 : (rd l0 x5_1) = (rd l1 x5_1)
              · rw [if_pos c7] at H
                have c7b0 : ((rd l0 x5_1) == (rd l1 x5_1)) = true := beq_iff_eq.mpr c7
                have c7b1 : ((rd l0 x5_1) != (rd l1 x5_1)) = false := bne_eq_false_iff_eq.mpr c7
                clear c7
                have H' := Aside0.mk H
                clear H
                have p471 : 0 ≤ (x5_1 : Int) := da_
                have q471 : x5_1 < (l0.length : Int) := da_
                obtain ⟨ad471, e471, hx471_0⟩ := Kd.at_int HR0.out x5_1 p471 q471
                cases e471
                replace p471 := eq_true p471
                replace q471 := eq_true q471
                have p472 : 0 ≤ (x5_1 : Int) := da_
                have q472 : x5_1 < (l1.length : Int) := da_
                obtain ⟨ad472, e472, hx472_0⟩ := Kd.at_int HR1.out x5_1 p472 q472
                cases e472
                replace p472 := eq_true p472
                replace q472 := eq_true q472
                go_wp2
                repeat (go_quiet (fail); try go_wp2)
                go_roundg k1
                case measure => have := HK1.out; omega
                case rel => exact ⟨(wrap64 (x5_1 + 1)), (by first | rfl | (simp; done) | (simp [*]; done)), H', ⟨by have := HK1.out; omega⟩, by repeat (first | exact Drawn0.refl _ | apply Drawn0.step)⟩
              · rw [if_neg c7] at H
                have c7b0 : ((rd l0 x5_1) == (rd l1 x5_1)) = false := beq_eq_false_iff_ne.mpr c7
                have c7b1 : ((rd l0 x5_1) != (rd l1 x5_1)) = true := bne_iff_ne.mpr c7
                obtain rfl := Option.some.inj H
                have p471 : 0 ≤ (x5_1 : Int) := da_
                have q471 : x5_1 < (l0.length : Int) := da_
                obtain ⟨ad471, e471, hx471_0⟩ := Kd.at_int HR0.out x5_1 p471 q471
                cases e471
                replace p471 := eq_true p471
                replace q471 := eq_true q471
                have p472 : 0 ≤ (x5_1 : Int) := da_
                have q472 : x5_1 < (l1.length : Int) := da_
                obtain ⟨ad472, e472, hx472_0⟩ := Kd.at_int HR1.out x5_1 p472 q472
                cases e472
                replace p472 := eq_true p472
                replace q472 := eq_true q472
                go_wp2
                repeat (go_quiet (fail); try go_wp2)
                go_ret
                exact ⟨by first | rfl | (simp; done) | (simp [*]; done), by repeat (first | exact Drawn0.refl _ | apply Drawn0.step)⟩
            · rw [if_neg c6] at H
              exact absurd H (by simp)
          · rw [if_neg c5] at H
            exact absurd H (by simp)
        · rw [if_neg c4] at H
          have c4b0 : decide (x5_1 < (l0.length : Int)) = false := decide_eq_false c4
          clear c4
          obtain rfl := Option.some.inj H
          go_wp2
          repeat (go_quiet (fail); try go_wp2)
          go_ret
          exact ⟨by first | rfl | (simp; done) | (simp [*]; done), by repeat (first | exact Drawn0.refl _ | apply Drawn0.step)⟩
  · rw [if_neg c3] at H
    have c3b0 : ((l0.length : Int) == (l1.length : Int)) = false := beq_eq_false_iff_ne.mpr c3
    have c3b1 : ((l0.length : Int) != (l1.length : Int)) = true := bne_iff_ne.mpr c3
    have c3b2 : (l0.length == l1.length) = false := by first | simpa using c3 | (simp at c3 ⊢; omega)
    obtain rfl := Option.some.inj H
    go_enter Try.func36, Try.ntmps36
    go_wp2
    repeat (go_quiet (fail); try go_wp2)
    go_ret
    exact ⟨by first | rfl | (simp; done) | (simp [*]; done), by repeat (first | exact Drawn0.refl _ | apply Drawn0.step)⟩

end Go.Proofs.Ytbcdngjajjgmkaa.PFnSimplify
