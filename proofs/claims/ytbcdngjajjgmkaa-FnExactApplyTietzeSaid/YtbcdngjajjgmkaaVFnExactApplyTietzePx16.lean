/- Written by this session's program out of the kit's print and this session's contracts. -/
import Derived.Test.YtbcdngjajjgmkaaVFnExactApplyTietzePx0
import Derived.Test.YtbcdngjajjgmkaaVFnExactApplyTietzePx1
import Derived.Test.YtbcdngjajjgmkaaVFnExactApplyTietzePx10
import Derived.Test.YtbcdngjajjgmkaaVFnExactApplyTietzePx11
import Derived.Test.YtbcdngjajjgmkaaVFnExactApplyTietzePx12
import Derived.Test.YtbcdngjajjgmkaaVFnExactApplyTietzePx13
import Derived.Test.YtbcdngjajjgmkaaVFnExactApplyTietzePx14
import Derived.Test.YtbcdngjajjgmkaaVFnExactApplyTietzePx15
namespace Go.Proofs.Ytbcdngjajjgmkaa.PFnExactApplyTietze
open Go.RowKit Go.Proofs.YtbcdngjajjgmkaaW.PrintWords Go.Proofs.YtbcdngjajjgmkaaW.PrintLast Go.Proofs.YtbcdngjajjgmkaaW.PrintMore
set_option maxHeartbeats 16000000
set_option maxRecDepth 100000
set_option linter.unusedVariables false
set_option linter.unusedSimpArgs false

theorem impl_moved.calls_6 (k : Nat) (a0_0 : Int) (A0_1 : Option Addr) (c0_1 : Nat) (l0_1 : List (List Int)) (a1_1 : Int) (a1_2 : Int) (A1_3 : Option Addr) (c1_3 : Nat) (l1_3 : List Int) (cp rows r : List (List Int)) (w : World) (hr0_1 : Kd.C (Kd.slice 2 (Kd.int .i64)) w A0_1 l0_1.length l0_1) (hc0_1 : l0_1.length ≤ c0_1) (hr1_3 : Kd.C (Kd.int .i64) w A1_3 l1_3.length l1_3) (hc1_3 : l1_3.length ≤ c1_3)
    (hlen : l0_1.length ≤ 1000) (hrl : ∀ x ∈ l0_1, x.length ≤ 1000) (hwl : l1_3.length ≤ 2000000) (hcp : impl_copyLists.f k l0_1 = some cp) (hcl : cp.length = l0_1.length) (hi : True) (hrows : rows = cp ++ [wrap64 (-(wrap64 (a0_0 + 1))) :: l1_3]) (hmr : mapRed k rows = some r) :
    Calls Try.prog 68 #[.agg #[.int .i64 a0_0, .slice A0_1 l0_1.length c0_1], .agg #[.int .i64 6, .int .i64 a1_1, .int .i64 a1_2, .slice A1_3 l1_3.length c1_3]] w fun e w' => ∃ v0_ : Value, e = .returned (.agg #[.int .i64 (wrap64 (a0_0 + 1)), v0_]) ∧ Kd.S (Kd.slice 2 (Kd.int .i64)) 39 w' w.heap.size (fun _ => True) v0_ r ∧ Below w.heap.size w w' := by
  have hbig := hr0_1.2.1
  have HR0 := Aside0.mk hr0_1
  have HC0 := Aside0.mk hc0_1
  have HR3 := Aside0.mk hr1_3
  have HC3 := Aside0.mk hc1_3
  have HLEN := Aside0.mk (And.intro hlen (And.intro hrl hwl))
  have HCP := Aside0.mk hcp
  have HCL := Aside0.mk hcl
  have HROWS := Aside0.mk hrows
  have HMR := Aside0.mk (mapRed_at k rows r hmr)
  clear hr0_1 hc0_1 hr1_3 hc1_3 hlen hrl hwl hcp hcl hrows hmr hi
  go_enter Try.func68, Try.ntmps68
  go_wp2_with (first
    | (refine be_ 2 28 #[.int .i64 a0_0, .slice A0_1 l0_1.length c0_1] ?_; intro b2 hg w2 hbox hb; have B2 := Aside0.mk hbox; have G2 := Aside0.mk (show w.heap.size ≤ b2 by rw [hg]; exact Nat.le_refl _); have HB2 := Aside0.mk hb; clear hg hbox hb)
    | (refine be_ 3 44 #[.int .i64 6, .int .i64 a1_1, .int .i64 a1_2, .slice A1_3 l1_3.length c1_3] ?_; intro b3 hg w3 hbox hb; have B23 := Aside0.mk (blk_below B2.out hb); have G3 := Aside0.mk (show w.heap.size ≤ b3 by rw [hg]; exact HB2.out.size); have B3 := Aside0.mk hbox; have HB3 := Aside0.mk (below_step HB2.out hb); clear hg hbox hb B2 HB2)
    | (refine be_ 4 28 #[.int .i64 0, .slice none 0 0] ?_; intro b4 hg w4 hbox hb; have B24 := Aside0.mk (blk_below B23.out hb); have B34 := Aside0.mk (blk_below B3.out hb); have G4 := Aside0.mk (show w.heap.size ≤ b4 by rw [hg]; exact HB3.out.size); have B4 := Aside0.mk hbox; have HB4 := Aside0.mk (below_step HB3.out hb); clear hg hbox hb B23 B3 HB3))
  have HB5 := Aside0.mk (below_drew1 HB4.out)
  have B25 := Aside0.mk (blk_drew B24.out)
  have B35 := Aside0.mk (blk_drew B34.out)
  have B45 := Aside0.mk (blk_drew B4.out)
  refine start_ (n := 8) (S := fun w' => w'.cell? ⟨b2, 0, none⟩ = some (.int .i64 a0_0) ∧ w'.cell? ⟨b2, 1, none⟩ = some (.slice A0_1 l0_1.length c0_1)) (ds := []) (kA_ 8 0) (by kernel_rfl) rfl (by kernel_rfl) ⟨(blk_cell B25.out 0).trans rfl, (blk_cell B25.out 1).trans rfl⟩ (fun hHeld => ?_)
  clear HB4 B24 B34 B4
  generalize w4.drew = w5 at HB5 B25 B35 B45 hHeld ⊢
  refine kz_ 0 9 (kA_ 8 1) ?_
  refine kt_ 1 10 (kA_ 8 3) hHeld ?_
  refine kz_ 2 11 (kA_ 8 7) ?_
  refine kt_ 3 12 (kA_ 8 15) hHeld ?_
  have HCALL := Aside0.mk fun (W : World) (hW : Below w.heap.size w W) => impl_copyLists.calls k A0_1 c0_1 l0_1 cp W (Kd.C_below HR0.out hW) HC0.out HCP.out
  refine join_ (σ := Value × Nat) 1 (kA_ 8 127) (fun s_ => [(13, s_.1), (5, .pointer (some ⟨s_.2, 0, none⟩)), (14, .agg #[.int .i64 a0_0, s_.1])]) (fun s_ w' => (∃ A c, s_.1 = .slice A cp.length c) ∧ FR0 w b2 b3 b4 s_.2 #[.int .i64 a0_0, .slice A0_1 l0_1.length c0_1] #[.int .i64 6, .int .i64 a1_1, .int .i64 a1_2, .slice A1_3 l1_3.length c1_3] s_.1 cp w') ?_ ?_
  rotate_left
  · intro hCont
    refine two_ (i := 4) (j := 6) (Ni := some 13) (Nj := some 5) (kA_ 8 31) (kA_ 8 79) rfl rfl rfl rfl (by kernel_rfl) (by decide) (by decide) (fun K hK => ?_) (fun K hK => ?_)
    · go_simp
      go_at_call 44
      refine (HCALL.out _ HB5.out).mono ?_
      rintro e w6 ⟨u, rfl, ho, hb⟩
      obtain ⟨Au, cu, eu⟩ := Kd.S_slice ho
      subst eu
      have HS := Aside0.mk (Kd.S_lower ho HB5.out.size)
      have HB6 := Aside0.mk (below_step HB5.out hb)
      have B26 := Aside0.mk (blk_below B25.out hb)
      have B36 := Aside0.mk (blk_below B35.out hb)
      have B46 := Aside0.mk (blk_below B45.out hb)
      clear ho hb HB5 B25 B35 B45
      refine hK.out _ _ ⟨(blk_cell B26.out 0).trans rfl, (blk_cell B26.out 1).trans rfl⟩ (fun hHeld => ?_)
      clear hK K
      refine kz_ 5 14 (kA_ 8 63) ?_
      refine oa_ 6 5 (kA_ 8 127) (fun K hK => ?_)
      refine box_step ?hg (N := 5) ?hd (cs := #[.int .i64 0, .slice none 0 0]) (t := 28) ?hr ?_; (case hd => rfl); (case hg => rfl); (case hr => first | (go_simp; done) | (go_simp; rfl))
      intro b5 hg w7 hbox hb
      have HF := Aside0.mk (show FR0 w b2 b3 b4 b5 #[.int .i64 a0_0, .slice A0_1 l0_1.length c0_1] #[.int .i64 6, .int .i64 a1_1, .int .i64 a1_2, .slice A1_3 l1_3.length c1_3] (.slice Au cp.length cu) cp w7 from ⟨blk_below B26.out hb, blk_below B36.out hb, blk_below B46.out hb, hbox, Kd.S_below HS.out hb, below_step HB6.out hb, by rw [hg]; exact Nat.ne_of_lt (blk_lt B26.out), by rw [hg]; exact Nat.ne_of_lt (blk_lt B36.out), by rw [hg]; exact Nat.ne_of_lt (blk_lt B46.out), G4.out, by rw [hg]; exact HB6.out.size⟩)
      clear hg hbox hb HS HB6 B26 B36 B46
      refine hK.out _ _ ⟨(blk_cell HF.out.1 0).trans rfl, (blk_cell HF.out.1 1).trans rfl⟩ (fun hHeld => ?_)
      clear hK K
      refine nm_ 5 ?_
      exact norm_ (by simp only [putAll, Act.put, List.setIfInBounds_toArray, List.set_cons_zero, List.set_cons_succ]) (hCont (.slice Au cp.length cu, b5) _ ⟨⟨_, _, rfl⟩, HF.out⟩)
    · refine box_step ?hg (N := 5) ?hd (cs := #[.int .i64 0, .slice none 0 0]) (t := 28) ?hr ?_; (case hd => rfl); (case hg => rfl); (case hr => first | (go_simp; done) | (go_simp; rfl))
      intro b5 hg w6 hbox hb
      have HB6 := Aside0.mk (below_step HB5.out hb)
      have B26 := Aside0.mk (blk_below B25.out hb)
      have B36 := Aside0.mk (blk_below B35.out hb)
      have B46 := Aside0.mk (blk_below B45.out hb)
      have B56 := Aside0.mk hbox
      have HD := Aside0.mk (show FD w b2 b3 b4 b5 from ⟨by rw [hg]; exact Nat.ne_of_lt (blk_lt B25.out), by rw [hg]; exact Nat.ne_of_lt (blk_lt B35.out), by rw [hg]; exact Nat.ne_of_lt (blk_lt B45.out), G4.out, by rw [hg]; exact HB5.out.size⟩)
      clear hg hbox hb HB5 B25 B35 B45
      refine hK.out _ _ ⟨(blk_cell B26.out 0).trans rfl, (blk_cell B26.out 1).trans rfl⟩ (fun hHeld => ?_)
      clear hK K
      refine nm_ 5 ?_
      refine oa_ 4 13 (kA_ 8 95) (fun K hK => ?_)
      go_simp
      go_at_call 44
      refine (HCALL.out _ HB6.out).mono ?_
      rintro e w7 ⟨u, rfl, ho, hb⟩
      obtain ⟨Au, cu, eu⟩ := Kd.S_slice ho
      subst eu
      have HF := Aside0.mk (show FR0 w b2 b3 b4 b5 #[.int .i64 a0_0, .slice A0_1 l0_1.length c0_1] #[.int .i64 6, .int .i64 a1_1, .int .i64 a1_2, .slice A1_3 l1_3.length c1_3] (.slice Au cp.length cu) cp w7 from ⟨blk_below B26.out hb, blk_below B36.out hb, blk_below B46.out hb, blk_below B56.out hb, Kd.S_lower ho HB6.out.size, below_step HB6.out hb, HD.out⟩)
      clear ho hb HB6 B26 B36 B46 B56
      refine hK.out _ _ ⟨(blk_cell HF.out.1 0).trans rfl, (blk_cell HF.out.1 1).trans rfl⟩ (fun hHeld => ?_)
      clear hK K
      refine kz_ 5 14 (kA_ 8 127) ?_
      exact norm_ (by simp only [putAll, Act.put, List.setIfInBounds_toArray, List.set_cons_zero, List.set_cons_succ]) (hCont (.slice Au cp.length cu, b5) _ ⟨⟨_, _, rfl⟩, HF.out⟩)
  rintro ⟨u, b5⟩ w7 ⟨⟨Au, cu, eu⟩, hF⟩
  simp only at eu hF
  subst eu
  have HF0 := Aside0.mk hF
  have HD := Aside0.mk hF.2.2.2.2.2.2
  clear hF HCALL HB5 B25 B35 B45 hHeld
  refine norm_ (a' := ?_) ?_ ?_
  rotate_left
  · simp only [putAll, Act.put, List.setIfInBounds_toArray, List.set_cons_zero, List.set_cons_succ]
    rfl
  refine one_ (i := 7) (N := none) (kA_ 8 255) rfl rfl (by kernel_rfl) (by decide) (fun K hK => ?_)
  have y0 : w7.cell? ⟨b5, 0, none⟩ = some (.int .i64 0) := (blk_cell HF0.out.2.2.2.1 0).trans rfl
  have y1 : w7.cell? ⟨b5, 1, none⟩ = some (.slice none 0 0) := (blk_cell HF0.out.2.2.2.1 1).trans rfl
  have y2 := blk_frozen HF0.out.2.2.2.1 0
  have y3 := blk_frozen HF0.out.2.2.2.1 1
  refine skip_ (w1 := ?_) (by rfl) rfl ?_ ?_
  rotate_left
  · go_simp
    rfl
  have HF := Aside0.mk (HF0.out.put a0_0)
  refine hK.out _ _ ⟨(blk_cell HF.out.p 0).trans rfl, (blk_cell HF.out.p 1).trans rfl⟩ (fun hHeld => ?_)
  clear hK K y0 y1 y2 y3 HF0 hHeld
  refine done_ (by kernel_rfl) ?_
  generalize ((w7.setCell ⟨b5, 0, none⟩ (.int .i64 a0_0)).setCell ⟨b5, 1, none⟩ (.slice Au cp.length cu)) = w8 at HF ⊢
  have yk : w8.cell? ⟨b3, 0, none⟩ = some (.int .i64 6) := (blk_cell HF.out.m 0).trans rfl
  have yg : w8.cell? ⟨b5, 0, none⟩ = some (.int .i64 a0_0) := (blk_cell HF.out.o 0).trans rfl
  have yz := blk_frozen HF.out.o 0
  go_upto_region 17 with fail
  have HFg := Aside0.mk (HF.out.setg HD.out (wrap64 (a0_0 + 1)))
  clear yg yz yk HF
  generalize (w8.setCell ⟨b5, 0, none⟩ (.int .i64 (wrap64 (a0_0 + 1)))) = w9 at HFg ⊢
  obtain ⟨g1, hg1⟩ : ∃ q, q = wrap64 (a0_0 + 1) := ⟨_, rfl⟩
  rw [← hg1] at HFg HROWS ⊢
  have HG1 := Aside0.mk hg1
  clear hg1
  obtain ⟨n1, hn1⟩ : ∃ q, q = wrap64 (-g1) := ⟨_, rfl⟩
  have hn1w : IntKind.i64.wrap (-g1) = n1 := (i64_w _).trans hn1.symm
  have hn1x : wrap64 (-g1) = n1 := hn1.symm
  rw [← hn1] at HROWS
  clear hn1
  have hb1 := below_drew1 (Below.refl w9.heap.size w9)
  have HF1 := Aside0.mk (HFg.out.below hb1)
  refine start_ (n := 13) (S := fun w' => w'.cell? ⟨b5, 1, none⟩ = some (.slice Au cp.length cu) ∧ w'.cell? ⟨b5, 0, none⟩ = some (.int .i64 g1) ∧ w'.cell? ⟨b3, 3, none⟩ = some (.slice A1_3 l1_3.length c1_3)) (ds := [10, 12]) (kA_ 13 0) (by kernel_rfl) rfl (by kernel_rfl) ⟨(blk_cell HF1.out.o 1).trans rfl, (blk_cell HF1.out.o 0).trans rfl, (blk_cell HF1.out.m 3).trans rfl⟩ (fun hHeld => ?_)
  clear HFg hb1
  generalize w9.drew = w11 at HF1 hHeld ⊢
  refine kz_ 0 98 (kA_ 13 1) ?_
  refine kt_ 1 99 (kA_ 13 3) hHeld ?_
  refine kz_ 2 100 (kA_ 13 7) ?_
  refine kt_ 3 101 (kA_ 13 15) hHeld ?_
  refine kz_ 4 102 (kA_ 13 31) ?_
  refine kz_ 6 104 (kA_ 13 95) ?_
  refine kt_ 7 105 (kA_ 13 223) hHeld ?_
  refine oa_ 5 103 (kA_ 13 255) (fun K hK => ?_)
  refine value_ (w1 := ?_) (v := ?_) (by rfl) rfl ?_ ?_
  rotate_left 2
  · go_simp
    constructor
    · rfl
    · rfl
  have hba := below_alloc (Below.refl w11.heap.size w11) (.cells #[.int .i64 n1] 2)
  have HFa := Aside0.mk (HF1.out.below hba)
  have HSa := Aside0.mk (Kd.S_mono (Kd.S_old HF1.out.s hba) (ok' := fun k => True ∧ some k ≠ (Value.slice (some ⟨w11.heap.size, 0, none⟩) 1 1).ownBlock) (fun k hk => ⟨trivial, by simp [Value.ownBlock]; omega⟩))
  have HNa := Aside0.mk (Kd.R_lower (own_lit_1 w11 n1) HF1.out.b.size)
  have HNT := Aside0.mk (show 0 ≤ w11.heap.size from Nat.zero_le _)
  refine hK.out _ _ ⟨(blk_cell HFa.out.o 1).trans rfl, (blk_cell HFa.out.o 0).trans rfl, (blk_cell HFa.out.m 3).trans rfl⟩ (fun hHeld2 => ?_)
  clear hK K hHeld HF1
  refine nm_ 103 ?_
  refine oa_ 8 106 (kA_ 13 511) (fun K hK => ?_)
  refine Kd.R_append_rows_step (Kd.int .i64) (w0 := w) w.heap.size (by rfl) (.tmp 103) (.tmp 105) 39 2 (.int .i64 0) 8 rfl Try.underlying39 info2 rfl (by decide) (by omega) (.slice (some ⟨w11.heap.size, 0, none⟩) 1 1) [n1] l1_3 A1_3 l1_3.length c1_3 (fun _ => True) (fun _ => False) rfl rfl HNa.out (Kd.C_below HR3.out HFa.out.b) (fun _ _ h => h) (fun _ h => h.elim) (fun _ _ => trivial) HFa.out.b HFa.out.b.size (by have := HLEN.out.2.2; simp; omega) ?_
  intro v12 w12 ho12 hb12 hg12 hat12
  obtain ⟨h1_, h2_⟩ := FR.grow HFa.out HSa.out HNa.out hg12 hat12 hb12
  have HF2 := Aside0.mk h1_
  have HS2 := Aside0.mk h2_
  obtain ⟨tn, htn⟩ : ∃ q, q = n1 :: l1_3 := ⟨_, rfl⟩
  have hap : [n1] ++ l1_3 = tn := by rw [htn]; rfl
  rw [hap] at ho12
  rw [← htn] at HROWS
  clear htn hap
  have HN2 := Aside0.mk ho12
  obtain ⟨An, cn, en⟩ := Kd.R_slice ho12
  subst en
  clear ho12 hb12 hg12 hat12 h1_ h2_ HFa HSa HNa
  refine hK.out _ _ ⟨(blk_cell HF2.out.o 1).trans rfl, (blk_cell HF2.out.o 0).trans rfl, (blk_cell HF2.out.m 3).trans rfl⟩ (fun hHeld => ?_)
  clear hK K hHeld2
  refine nm_ 106 ?_
  refine oa_ 9 107 (kA_ 13 1023) (fun K hK => ?_)
  refine value_ (w1 := ?_) (v := ?_) (by rfl) rfl ?_ ?_
  rotate_left 2
  · go_simp
    constructor
    · rfl
    · rfl
  have hba := below_alloc (Below.refl w12.heap.size w12) (.cells #[.slice An tn.length cn] 39)
  have HF3 := Aside0.mk (HF2.out.below hba)
  clear hba
  refine hK.out _ _ ⟨(blk_cell HF3.out.o 1).trans rfl, (blk_cell HF3.out.o 0).trans rfl, (blk_cell HF3.out.m 3).trans rfl⟩ (fun hHeld2 => ?_)
  clear hK K hHeld
  refine nm_ 107 ?_
  refine last_ (i := 10) (N := some 108) (kA_ 13 2047) rfl rfl (by kernel_rfl) (by decide) (fun K hK => ?_)
  have hnap := Kd.R_apart' HN2.out (Kd.S_typed HF2.out.s) (by decide)
  refine Kd.S_append_step (Kd.slice 2 (Kd.int .i64)) (w0 := w) w.heap.size (by rfl) (.tmp 99) (.tmp 107) 22 39 (.slice none 0 0) 24 rfl Try.underlying22 info39 rfl (by decide) (by omega) (.slice Au cp.length cu) cp tn [.slice An tn.length cn] (fun _ => True) (fun k_ => some k_ = (.slice An tn.length cn : Value).ownBlock) rfl rfl (Kd.M_row (Kd.R_tight rfl HN2.out)) (fun k_ hk_ => ⟨trivial, (hnap.1 k_ hk_.symm).2⟩) (fun _ _ => trivial) (Kd.S_mono HS2.out (fun k_ hk => ⟨trivial, hk.2⟩)) HF2.out.b HF2.out.b.size (by have := HCL.out; have := HLEN.out.1; omega) ?_
  intro v13 w13 ho hb hgr hat
  obtain ⟨Av, cv, ev⟩ := Kd.S_slice ho
  obtain ⟨mu, hmv⟩ : ∃ q, q = (cp ++ [tn]).length := ⟨_, rfl⟩
  rw [← hmv] at ev
  clear hmv
  subst ev
  have k5 := blk_grown HF2.out.o hgr (Kd.S_ne HF2.out.s HF2.out.o (by decide))
  have y1 : w13.cell? ⟨b5, 1, none⟩ = some (.slice Au cp.length cu) := (blk_cell k5 1).trans rfl
  have y2 := blk_frozen k5 1
  have HF4 := Aside0.mk (show FR w b2 b3 b4 b5 #[.int .i64 a0_0, .slice A0_1 l0_1.length c0_1] #[.int .i64 6, .int .i64 a1_1, .int .i64 a1_2, .slice A1_3 l1_3.length c1_3] g1 (.slice Av mu cv) rows (w13.setCell ⟨b5, 1, none⟩ (.slice Av mu cv)) by rw [HROWS.out]; exact FR.app HD.out HF2.out ho hb hgr)
  have HRS := Aside0.mk (show rows.length ≤ 1001 by rw [HROWS.out, List.length_append, List.length_singleton]; have := HCL.out; have := HLEN.out.1; omega)
  clear ho hb hgr hat k5 hnap HF3 HF2 HN2 HS2
  refine hK.out _ _ ?_
  clear hK K hHeld2
  refine nm_ 108 ?_
  refine kz_ 11 109 (kA_ 13 4095) ?_
  refine last_ (i := 12) (N := none) (kA_ 13 8191) rfl rfl (by kernel_rfl) (by decide) (fun K hK => ?_)
  refine skip_ (w1 := ?_) (by rfl) rfl ?_ ?_
  rotate_left
  · go_simp
    rfl
  refine hK.out _ _ ?_
  clear hK K y1 y2
  refine done_ (by kernel_rfl) ?_
  generalize (w13.setCell ⟨b5, 1, none⟩ (.slice Av mu cv)) = w14 at HF4 ⊢
  have HF := HF4
  clear HF4 hn1w hn1x
  obtain ⟨Au, rfl⟩ : ∃ q, q = Av := ⟨_, rfl⟩
  obtain ⟨cu, rfl⟩ : ∃ q, q = cv := ⟨_, rfl⟩
  have z1 : w14.cell? ⟨b5, 1, none⟩ = some (.slice Au mu cu) := (blk_cell HF.out.o 1).trans rfl
  have HMU := Aside0.mk (Kd.S_reads' HF.out.s).1
  have HSM := Aside0.mk (show mu ≤ 1001 by rw [HMU.out]; exact HRS.out)
  go_wp2
  clear z1
  have HFs := Aside0.mk (show FR w b2 b3 b4 b5 #[.int .i64 a0_0, .slice A0_1 l0_1.length c0_1] #[.int .i64 6, .int .i64 a1_1, .int .i64 a1_2, .slice A1_3 l1_3.length c1_3] g1 (.slice Au mu cu) (redTo r rows 0) w14 by simpa [redTo] using HF.out)
  go_loopg [7, 8, 113] mu (fun gg _ _ s113 wr => ∃ kk : Nat, kk ≤ mu ∧ mu - kk ≤ gg ∧ s113 = .int .i64 kk ∧ Aside0 (FR w b2 b3 b4 b5 #[.int .i64 a0_0, .slice A0_1 l0_1.length c0_1] #[.int .i64 6, .int .i64 a1_1, .int .i64 a1_2, .slice A1_3 l1_3.length c1_3] g1 (.slice Au mu cu) (redTo r rows kk) wr))
  case atStart => exact ⟨0, Nat.zero_le _, by omega, rfl, HFs⟩
  case round =>
    clear HF HFs
    obtain ⟨kk, hkk, hg, rfl, HF⟩ := hrel
    have hmu := HMU.out
    have hml := HMR.out.1
    by_cases hlt : kk < mu
    · have hltz : (kk : Int) < (mu : Int) := by omega
      have hkl : kk < rows.length := by omega
      have hkr : kk < r.length := by omega
      have hll := redTo_len r rows kk hml (by omega)
      obtain ⟨go, cap, eg, gb, gl, cl, HG⟩ := Kd.S_form HF.out.s (by omega)
      injection eg with e1 e2 e3
      subst e1 e3
      have hC := (Kd.S_reads' HF.out.s).2.2
      obtain ⟨ad2, A', c', e, hx0, hle, hcrow⟩ := at_rowC hC kk (by omega)
      injection e with e
      subst e
      rw [redTo_at r rows kk hml hkl (by omega)] at hx0 hle hcrow
      rw [add_plain] at hx0
      have z1 : wr.cell? ⟨b5, 1, none⟩ = some (.slice (some ⟨go, 0, none⟩) mu cu) := (blk_cell HF.out.o 1).trans rfl
      have HSET := Aside0.mk (redTo_set r rows kk hml hkl hkr)
      have HCALL := Aside0.mk fun (W : World) (hW : Below wr.heap.size wr W) => impl_reduced.calls k A' c' rows[kk] r[kk] W (Kd.C_below hcrow hW) hle (HMR.out.2 kk hkl hkr)
      have HLL := Aside0.mk hll
      generalize rows[kk] = row2 at hx0 hle hcrow HCALL
      generalize hrk : r[kk] = tn at HSET HCALL
      clear hmu hml hkl e2 gb gl cl HG hC hle hcrow hll hrk hkr
      go_upto_region 21 with fail
      have hb1 := below_drew1 (Below.refl wr.heap.size wr)
      have HF1 := Aside0.mk (HF.out.below hb1)
      have HC1 := Aside0.mk (HCALL.out _ hb1)
      have pk2 : ((kk : Int) < (mu : Int)) = True := eq_true hltz
      refine start_ (n := 7) (S := fun w' => w'.cell? ⟨b5, 1, none⟩ = some (.slice (some ⟨go, 0, none⟩) mu cu)) (ds := [6]) (kA_ 7 0) (by kernel_rfl) rfl (by kernel_rfl) ((blk_cell HF1.out.o 1).trans rfl) (fun hHeld => ?_)
      clear HF hb1 hx0 z1 HCALL
      generalize wr.drew = w11 at HF1 HC1 hHeld ⊢
      refine kz_ 0 118 (kA_ 7 1) ?_
      refine kt_ 1 119 (kA_ 7 3) hHeld ?_
      refine kz_ 2 120 (kA_ 7 7) ?_
      refine kz_ 3 121 (kA_ 7 15) ?_
      refine oa_ 4 122 (kA_ 7 31) (fun K hK => ?_)
      go_simp
      go_at_call 58
      refine HC1.out.mono ?_
      rintro e w12 ⟨v12, rfl, ho12, hb12⟩
      have HS2 := Aside0.mk (Kd.S_elder' HF1.out.s (Kd.R_base ho12) hb12)
      have HF2 := Aside0.mk (HF1.out.below hb12)
      have HN2 := Aside0.mk (Kd.R_lower ho12 HF1.out.b.size)
      obtain ⟨An, cn, en⟩ := Kd.R_slice ho12
      obtain ⟨mn, hmn⟩ : ∃ q, q = tn.length := ⟨_, rfl⟩
      rw [← hmn] at en
      clear hmn
      subst en
      clear ho12 hb12 HC1 HF1
      refine hK.out _ _ ((blk_cell HF2.out.o 1).trans rfl) (fun hHeld2 => ?_)
      clear hK K hHeld
      refine kz_ 5 123 (kA_ 7 63) ?_
      have HF3 := Aside0.mk (FR.elem HF2.out HS2.out (i := kk) (by have := HLL.out; have := HMU.out; omega) HN2.out)
      rw [HSET.out] at HF3
      obtain ⟨Ax, mx_, cx, x1, x2⟩ := S_at_ HF2.out.s kk (by have := HLL.out; have := HMU.out; omega)
      refine last_ (i := 6) (N := none) (kA_ 7 127) rfl rfl (by kernel_rfl) (by decide) (fun K hK => ?_)
      refine skip_ (w1 := ?_) (by rfl) rfl ?_ ?_
      rotate_left
      · go_simp
        rfl
      refine hK.out _ _ ?_
      clear hK K x1 x2 HS2 HF2 HN2 hHeld2
      refine done_ (by kernel_rfl) ?_
      generalize (w12.setCell ⟨go, kk, none⟩ (.slice An mn cn)) = w14 at HF3 ⊢
      go_wp2
      go_roundg (mu - (kk + 1))
      case measure => omega
      case rel => exact ⟨kk + 1, by omega, by omega, (by first | rfl | exact congrArg (Value.int .i64) (show wrap64 ((kk : Int) + 1) = ((kk + 1 : Nat) : Int) by have := HSM.out; unfold wrap64; omega)), HF3⟩
    · have hltz : ¬ (kk : Int) < (mu : Int) := by omega
      have hk : kk = mu := by omega
      subst hk
      have y0 : wr.cell? ⟨b5, 0, none⟩ = some (.int .i64 g1) := (blk_cell HF.out.o 0).trans rfl
      have y1 : wr.cell? ⟨b5, 1, none⟩ = some (.slice Au kk cu) := (blk_cell HF.out.o 1).trans rfl
      have y2 : wr.cell? ⟨b4, 0, none⟩ = some (.int .i64 0) := (blk_cell HF.out.z 0).trans rfl
      have y3 : wr.cell? ⟨b4, 1, none⟩ = some (.slice none 0 0) := (blk_cell HF.out.z 1).trans rfl
      have y4 := blk_frozen HF.out.z 0
      have y5 := blk_frozen HF.out.z 1
      have y6 := HD.out.2.2.1
      have y7 := HD.out.2.2.1.symm
      have HE := Aside0.mk (show redTo r rows kk = r by unfold redTo; rw [List.take_of_length_le (by omega), List.drop_of_length_le (by omega), List.append_nil])
      rw [HE.out] at HF
      clear hmu hml
      go_wp2
      refine bodyPost_ret (results_cell_row rfl _ _ b4 28 #[.int .i64 g1, .slice Au kk cu] (0, 0) _ rfl (blk_put (blk_put HF.out.z 0 _ rfl) 1 _ rfl) Try.underlying28 rfl (by kernel_rfl)) rfl ?_
      exact ⟨_, by rw [HG1.out], Kd.S_set (Kd.S_set HF.out.s HF.out.z (by decide) 0 _) (blk_put HF.out.z 0 _ rfl) (by decide) 1 _, below_set (below_set HF.out.b HD.out.2.2.2.1) HD.out.2.2.2.1⟩

theorem impl_moved.calls (k : Nat) (a0_0 : Int) (A0_1 : Option Addr) (c0_1 : Nat) (l0_1 : List (List Int)) (a1_0 : Int) (a1_1 : Int) (a1_2 : Int) (A1_3 : Option Addr) (c1_3 : Nat) (l1_3 : List Int) (r1 : Int) (r2 : List (List Int)) (w : World) (hr0_1 : Kd.C (Kd.slice 2 (Kd.int .i64)) w A0_1 l0_1.length l0_1) (hc0_1 : l0_1.length ≤ c0_1) (hr1_3 : Kd.C (Kd.int .i64) w A1_3 l1_3.length l1_3) (hc1_3 : l1_3.length ≤ c1_3) (h : impl_moved.f k a0_0 l0_1 a1_0 a1_1 a1_2 l1_3 = some (r1, r2)) :
    Calls Try.prog 68 #[.agg #[.int .i64 a0_0, .slice A0_1 l0_1.length c0_1], .agg #[.int .i64 a1_0, .int .i64 a1_1, .int .i64 a1_2, .slice A1_3 l1_3.length c1_3]] w fun e w' => ∃ v0_ : Value, e = .returned (.agg #[.int .i64 r1, v0_]) ∧ Kd.S (Kd.slice 2 (Kd.int .i64)) 39 w' w.heap.size (fun _ => True) v0_ r2 ∧ Below w.heap.size w w' := by
  unfold impl_moved.f at h
  by_cases hT : l0_1.length ≤ 1000 ∧ (∀ x ∈ l0_1, x.length ≤ 1000) ∧ l1_3.length ≤ 2000000
  · rw [if_pos hT] at h
    obtain ⟨cp, hcp, h⟩ := Option.bind_eq_some_iff.mp h
    by_cases hcl : cp.length = l0_1.length
    · rw [if_pos hcl] at h
      obtain ⟨⟨g2, rows⟩, hq, h⟩ := Option.bind_eq_some_iff.mp h
      obtain ⟨r, hr, h⟩ := Option.bind_eq_some_iff.mp h
      have h1 := congrArg Prod.fst (Option.some.inj h)
      have h2 := congrArg Prod.snd (Option.some.inj h)
      simp only at h1 h2 hr
      subst h1 h2
      obtain ⟨hlen, hrl, hwl⟩ := hT
      unfold mvRows at hq
      split at hq
      · rename_i he
        subst he
        split at hq
        · rename_i hc
          have e1 := congrArg Prod.fst (Option.some.inj hq)
          have e2 := congrArg Prod.snd (Option.some.inj hq)
          simp only at e1 e2
          subst e1
          exact impl_moved.calls_1 k a0_0 A0_1 c0_1 l0_1 a1_1 a1_2 A1_3 c1_3 l1_3 cp rows r w hr0_1 hc0_1 hr1_3 hc1_3 hlen hrl hwl hcp hcl hc e2.symm hr
        · cases hq
      · split at hq
        · rename_i he
          subst he
          split at hq
          · rename_i hc
            have e1 := congrArg Prod.fst (Option.some.inj hq)
            have e2 := congrArg Prod.snd (Option.some.inj hq)
            simp only at e1 e2
            subst e1
            exact impl_moved.calls_2 k a0_0 A0_1 c0_1 l0_1 a1_1 a1_2 A1_3 c1_3 l1_3 cp rows r w hr0_1 hc0_1 hr1_3 hc1_3 hlen hrl hwl hcp hcl hc e2.symm hr
          · cases hq
        · split at hq
          · rename_i he
            subst he
            split at hq
            · rename_i hc
              have e1 := congrArg Prod.fst (Option.some.inj hq)
              have e2 := congrArg Prod.snd (Option.some.inj hq)
              simp only at e1 e2
              subst e1
              exact impl_moved.calls_3 k a0_0 A0_1 c0_1 l0_1 a1_1 a1_2 A1_3 c1_3 l1_3 cp rows r w hr0_1 hc0_1 hr1_3 hc1_3 hlen hrl hwl hcp hcl hc e2.symm hr
            · cases hq
          · split at hq
            · rename_i he
              subst he
              split at hq
              · rename_i hc
                have e1 := congrArg Prod.fst (Option.some.inj hq)
                have e2 := congrArg Prod.snd (Option.some.inj hq)
                simp only at e1 e2
                subst e1
                exact impl_moved.calls_4 k a0_0 A0_1 c0_1 l0_1 a1_1 a1_2 A1_3 c1_3 l1_3 cp rows r w hr0_1 hc0_1 hr1_3 hc1_3 hlen hrl hwl hcp hcl hc e2.symm hr
              · cases hq
            · split at hq
              · rename_i he
                subst he
                obtain ⟨⟨g3, rows3⟩, hq1, hq⟩ := Option.bind_eq_some_iff.mp hq
                split at hq
                · rename_i hc
                  have e1 := congrArg Prod.fst (Option.some.inj hq)
                  have e2 := congrArg Prod.snd (Option.some.inj hq)
                  simp only at e1 e2 hc
                  subst e1 e2
                  exact impl_moved.calls_5 k a0_0 A0_1 c0_1 l0_1 a1_1 a1_2 A1_3 c1_3 l1_3 cp rows3 r g3 w hr0_1 hc0_1 hr1_3 hc1_3 hlen hrl hwl hcp hcl ⟨hq1, hc⟩ rfl hr
                · cases hq
              · split at hq
                · rename_i he
                  subst he
                  have e1 := congrArg Prod.fst (Option.some.inj hq)
                  have e2 := congrArg Prod.snd (Option.some.inj hq)
                  simp only at e1 e2
                  subst e1
                  exact impl_moved.calls_6 k a0_0 A0_1 c0_1 l0_1 a1_1 a1_2 A1_3 c1_3 l1_3 cp rows r w hr0_1 hc0_1 hr1_3 hc1_3 hlen hrl hwl hcp hcl trivial e2.symm hr
                · cases hq
    · rw [if_neg hcl] at h
      cases h
  · rw [if_neg hT] at h
    cases h

/-! ### impl_ApplyTietze: function 25 -/
def impl_ApplyTietze.j0 : Nat → Bool → Int → List (List Int) → Int → Int → Int → List Int → Option (Int × (List (List Int)) × Int)
 | 0, _, _, _, _, _, _, _ => none
 | k + 1, x24, x393000, x393001, x394000, x394001, x394002, x394003 => if x24 = true then (some (0, ([] : List (List Int)), 1)) else ((impl_isPossible.f k x393000 x393001 x394000 x394001 x394002 x394003).bind fun t399 => (if t399 = true then ((impl_moved.f k x393000 x393001 x394000 x394001 x394002 x394003).bind fun bt400 => ((impl_isPresentation.f k bt400.1 bt400.2).bind fun t405 => (if t405 = true then (some (bt400.1, bt400.2, 0)) else (some (0, ([] : List (List Int)), 3))))) else (some (0, ([] : List (List Int)), 5))))
def impl_ApplyTietze.f (k : Nat) (a0_0 : Int) (l0_1 : List (List Int)) (a1_0 : Int) (a1_1 : Int) (a1_2 : Int) (l1_3 : List Int) : Option (Int × (List (List Int)) × Int) := (impl_isPresentation.f k a0_0 l0_1).bind fun t395 => (if t395 = true then ((impl_inRange.f a1_0 1 6).bind fun t396 => (if t396 = true then ((impl_usesExisting.f a0_0 l0_1 a1_0 a1_1 a1_2 l1_3).bind fun t397 => (if t397 = true then (if a1_0 = 6 then ((impl_isReduced.f k l1_3 a0_0).bind fun t398 => (impl_ApplyTietze.j0 k (!t398) a0_0 l0_1 a1_0 a1_1 a1_2 l1_3)) else (impl_ApplyTietze.j0 k false a0_0 l0_1 a1_0 a1_1 a1_2 l1_3)) else (some (0, ([] : List (List Int)), 4)))) else (some (0, ([] : List (List Int)), 2)))) else (some (0, ([] : List (List Int)), 1)))
theorem impl_ApplyTietze.calls (k : Nat) (a0_0 : Int) (A0_1 : Option Addr) (c0_1 : Nat) (l0_1 : List (List Int)) (a1_0 : Int) (a1_1 : Int) (a1_2 : Int) (A1_3 : Option Addr) (c1_3 : Nat) (l1_3 : List Int) (r1 : Int) (r2 : List (List Int)) (r3 : Int) (w : World) (hr0_1 : Kd.C (Kd.slice 2 (Kd.int .i64)) w A0_1 l0_1.length l0_1) (hc0_1 : l0_1.length ≤ c0_1) (hr1_3 : Kd.C (Kd.int .i64) w A1_3 l1_3.length l1_3) (hc1_3 : l1_3.length ≤ c1_3) (h : impl_ApplyTietze.f k a0_0 l0_1 a1_0 a1_1 a1_2 l1_3 = some (r1, r2, r3)) :
  Calls Try.prog 25 #[.agg #[.int .i64 a0_0, .slice A0_1 l0_1.length c0_1], .agg #[.int .i64 a1_0, .int .i64 a1_1, .int .i64 a1_2, .slice A1_3 l1_3.length c1_3]] w fun e w' => ∃ v1_ : Value, e = .returned (.tuple #[.agg #[.int .i64 r1, v1_], .int .i64 r3]) ∧ Kd.S (Kd.slice 2 (Kd.int .i64)) 39 w' w.heap.size (fun _ => True) v1_ r2 ∧ Below w.heap.size w w' := by
 have hu28 := Try.underlying28
 have hu44 := Try.underlying44
 have HR0_1 := am_ hr0_1
 have HC0_1 := am_ hc0_1
 clear hr0_1 hc0_1
 have HR1_3 := am_ hr1_3
 have HC1_3 := am_ hc1_3
 clear hr1_3 hc1_3
 have HB := am_ (Below.refl w.heap.size w)
 have H : ((impl_isPresentation.f k a0_0 l0_1).bind fun t395 => (if t395 = true then ((impl_inRange.f a1_0 1 6).bind fun t396 => (if t396 = true then ((impl_usesExisting.f a0_0 l0_1 a1_0 a1_1 a1_2 l1_3).bind fun t397 => (if t397 = true then (if a1_0 = 6 then ((impl_isReduced.f k l1_3 a0_0).bind fun t398 => (impl_ApplyTietze.j0 k (!t398) a0_0 l0_1 a1_0 a1_1 a1_2 l1_3)) else (impl_ApplyTietze.j0 k false a0_0 l0_1 a1_0 a1_1 a1_2 l1_3)) else (some (0, ([] : List (List Int)), 4)))) else (some (0, ([] : List (List Int)), 2)))) else (some (0, ([] : List (List Int)), 1)))) = some (r1, r2, r3) := h
 clear h
 replace H := Option.bind_eq_some_iff.mp H
 obtain ⟨t395, A30, H⟩ := H
 replace H : (if t395 = true then ((impl_inRange.f a1_0 1 6).bind fun t396 => (if t396 = true then ((impl_usesExisting.f a0_0 l0_1 a1_0 a1_1 a1_2 l1_3).bind fun t397 => (if t397 = true then (if a1_0 = 6 then ((impl_isReduced.f k l1_3 a0_0).bind fun t398 => (impl_ApplyTietze.j0 k (!t398) a0_0 l0_1 a1_0 a1_1 a1_2 l1_3)) else (impl_ApplyTietze.j0 k false a0_0 l0_1 a1_0 a1_1 a1_2 l1_3)) else (some (0, ([] : List (List Int)), 4)))) else (some (0, ([] : List (List Int)), 2)))) else (some (0, ([] : List (List Int)), 1))) = some (r1, r2, r3) := H
 have A3 := am_ A30
 clear A30
 by_cases c4 : t395 = true
 ·subst c4
  have H1 : ((impl_inRange.f a1_0 1 6).bind fun t396 => (if t396 = true then ((impl_usesExisting.f a0_0 l0_1 a1_0 a1_1 a1_2 l1_3).bind fun t397 => (if t397 = true then (if a1_0 = 6 then ((impl_isReduced.f k l1_3 a0_0).bind fun t398 => (impl_ApplyTietze.j0 k (!t398) a0_0 l0_1 a1_0 a1_1 a1_2 l1_3)) else (impl_ApplyTietze.j0 k false a0_0 l0_1 a1_0 a1_1 a1_2 l1_3)) else (some (0, ([] : List (List Int)), 4)))) else (some (0, ([] : List (List Int)), 2)))) = some (r1, r2, r3) := by rw [if_pos rfl] at H; exact H
  clear H
  have H := H1
  clear H1
  replace H := Option.bind_eq_some_iff.mp H
  obtain ⟨t396, A50, H⟩ := H
  replace H : (if t396 = true then ((impl_usesExisting.f a0_0 l0_1 a1_0 a1_1 a1_2 l1_3).bind fun t397 => (if t397 = true then (if a1_0 = 6 then ((impl_isReduced.f k l1_3 a0_0).bind fun t398 => (impl_ApplyTietze.j0 k (!t398) a0_0 l0_1 a1_0 a1_1 a1_2 l1_3)) else (impl_ApplyTietze.j0 k false a0_0 l0_1 a1_0 a1_1 a1_2 l1_3)) else (some (0, ([] : List (List Int)), 4)))) else (some (0, ([] : List (List Int)), 2))) = some (r1, r2, r3) := H
  have A5 := am_ A50
  clear A50
  by_cases c6 : t396 = true
  ·subst c6
   have H1 : ((impl_usesExisting.f a0_0 l0_1 a1_0 a1_1 a1_2 l1_3).bind fun t397 => (if t397 = true then (if a1_0 = 6 then ((impl_isReduced.f k l1_3 a0_0).bind fun t398 => (impl_ApplyTietze.j0 k (!t398) a0_0 l0_1 a1_0 a1_1 a1_2 l1_3)) else (impl_ApplyTietze.j0 k false a0_0 l0_1 a1_0 a1_1 a1_2 l1_3)) else (some (0, ([] : List (List Int)), 4)))) = some (r1, r2, r3) := by rw [if_pos rfl] at H; exact H
   clear H
   have H := H1
   clear H1
   replace H := Option.bind_eq_some_iff.mp H
   obtain ⟨t397, A70, H⟩ := H
   replace H : (if t397 = true then (if a1_0 = 6 then ((impl_isReduced.f k l1_3 a0_0).bind fun t398 => (impl_ApplyTietze.j0 k (!t398) a0_0 l0_1 a1_0 a1_1 a1_2 l1_3)) else (impl_ApplyTietze.j0 k false a0_0 l0_1 a1_0 a1_1 a1_2 l1_3)) else (some (0, ([] : List (List Int)), 4))) = some (r1, r2, r3) := H
   have A7 := am_ A70
   clear A70
   by_cases c8 : t397 = true
   ·subst c8
    have H1 : (if a1_0 = 6 then ((impl_isReduced.f k l1_3 a0_0).bind fun t398 => (impl_ApplyTietze.j0 k (!t398) a0_0 l0_1 a1_0 a1_1 a1_2 l1_3)) else (impl_ApplyTietze.j0 k false a0_0 l0_1 a1_0 a1_1 a1_2 l1_3)) = some (r1, r2, r3) := by rw [if_pos rfl] at H; exact H
    clear H
    have H := H1
    clear H1
    have HC9 := am_ H
    clear H
    go_enter Try.func25, Try.ntmps25
    go_upto_region 7 with (first | (refine be_ 2 28 #[.int .i64 a0_0, .slice A0_1 l0_1.length c0_1] ?_; intro gb392 hg w10 hbox hb; have n_ := ba0_ HB hbox hb hg; clear  HB hb hbox hg; obtain ⟨HB, BK392, GW392, GE392⟩ := n_) | (refine be_ 3 44 #[.int .i64 a1_0, .int .i64 a1_1, .int .i64 a1_2, .slice A1_3 l1_3.length c1_3] ?_; intro gb393 hg w11 hbox hb; have n_ := ba1_ BK392 HB hbox hb hg; clear BK392 HB hb hbox hg; obtain ⟨BK392, HB, BK393, GW393, GE393, NB392_393, NB393_392⟩ := n_) | (refine be_ 4 28 #[.int .i64 0, .slice none 0 0] ?_; intro gb394 hg w12 hbox hb; have n_ := ba2_ BK392 BK393 HB hbox hb hg; clear BK392 BK393 HB hb hbox hg; obtain ⟨BK392, BK393, HB, BK394, GW394, GE394, NB392_394, NB394_392, NB393_394, NB394_393⟩ := n_; have hnb13 := NB392_393.out; have hnc13 := NB393_392.out; have hnb14 := NB392_394.out; have hnc14 := NB394_392.out; obtain ⟨hcz15_0, hcz15_1, hfz15_0, hfz15_1⟩ := bx2_ BK392) | ((with_reducible refine gate_callee (f := 59) rfl ?_); refine goesL_ (some 9) rfl rfl Try.func59 (by kernel_rfl) rfl #[.agg #[.int .i64 a0_0, .slice A0_1 l0_1.length c0_1]] rfl lm_ ?_; (with_reducible refine (impl_isPresentation.calls k a0_0 _ _ l0_1 true _ ?side1 ?side2 A3.out).mono ?_); (case side1 => exact cb_ HR0_1 HB); (case side2 => exact HC0_1.out); rintro e w16 ⟨rfl, hb⟩; refine ⟨_, rfl, ?_⟩; have n_ := bd3_ BK392 BK393 BK394 HB hb; clear BK392 BK393 BK394 HB; obtain ⟨BK392, BK393, BK394, HB⟩ := n_; (try clear hb); (try clear hb2); (try clear hk); (try clear hi); have hnb17 := NB393_394.out; have hnc17 := NB394_393.out; obtain ⟨hcz18_0, hcz18_1, hcz18_2, hcz18_3, hfz18_0, hfz18_1, hfz18_2, hfz18_3⟩ := bx4_ BK393) | ((with_reducible refine gate_callee (f := 64) rfl ?_); refine goesL_ (some 15) rfl rfl Try.func64 (by kernel_rfl) rfl #[.int .i64 a1_0, .int .i64 1, .int .i64 6] rfl lm_ ?_; (with_reducible refine (impl_inRange.calls a1_0 1 6 true _ A5.out).mono ?_); rintro e w' ⟨rfl, ⟨nd, rfl⟩⟩; refine ⟨_, rfl, ?_⟩; obtain ⟨hcz19_0, hcz19_1, hfz19_0, hfz19_1⟩ := bx2_ BK392) | ((with_reducible refine gate_callee (f := 65) rfl ?_); refine goesL_ (some 21) rfl rfl Try.func65 (by kernel_rfl) rfl #[.agg #[.int .i64 a0_0, .slice A0_1 l0_1.length c0_1], .agg #[.int .i64 a1_0, .int .i64 a1_1, .int .i64 a1_2, .slice A1_3 l1_3.length c1_3]] rfl lm_ ?_; (with_reducible refine (impl_usesExisting.calls a0_0 _ _ l0_1 a1_0 a1_1 a1_2 _ _ l1_3 true _ ?side1 ?side2 ?side3 ?side4 A7.out).mono ?_); (case side1 => repeat (first | exact (Kd.C_below HR0_1.out (bb_ HB.out)) | (with_reducible refine Kd.C_alloc ?_ _) | (with_reducible refine Kd.C_drewN ?_ _) | (with_reducible refine Kd.C_drew ?_))); (case side2 => exact HC0_1.out); (case side3 => repeat (first | exact (Kd.C_below HR1_3.out (bb_ HB.out)) | (with_reducible refine Kd.C_alloc ?_ _) | (with_reducible refine Kd.C_drewN ?_ _) | (with_reducible refine Kd.C_drew ?_))); (case side4 => exact HC1_3.out); rintro e w20 ⟨rfl, hb⟩; refine ⟨_, rfl, ?_⟩; have n_ := bd3_ BK392 BK393 BK394 HB hb; clear BK392 BK393 BK394 HB; obtain ⟨BK392, BK393, BK394, HB⟩ := n_; (try clear hb); (try clear hb2); (try clear hk); (try clear hi)))
    (try simp only [Act.put, List.setIfInBounds_toArray, List.set_cons_zero, List.set_cons_succ])
    go_cut [24] (fun v24 wc => ∃ (kq : Nat) (x24_8 : Bool), v24 = .bool x24_8 ∧ Aside0 (impl_ApplyTietze.j0 kq x24_8 a0_0 l0_1 a1_0 a1_1 a1_2 l1_3 = some (r1, r2, r3)) ∧ Aside0 (kq ≤ k) ∧ Aside0 (wc.heap[gb392]? = some (.cells #[.int .i64 a0_0, (.slice A0_1 l0_1.length c0_1)] 28 (0, 0))) ∧ Aside0 (wc.heap[gb393]? = some (.cells #[.int .i64 a1_0, .int .i64 a1_1, .int .i64 a1_2, (.slice A1_3 l1_3.length c1_3)] 44 (0, 0))) ∧ Aside0 (wc.heap[gb394]? = some (.cells #[.int .i64 0, (.slice none 0 0)] 28 (0, 0))) ∧ Aside0 (Below w.heap.size w wc))
    case first =>
     have H := HC9.out
     clear HC9
     by_cases c21 : a1_0 = 6
     ·rw [if_pos c21] at H
      have c21b0 : (a1_0 == 6) = true := beq_iff_eq.mpr c21
      have c21b1 : (a1_0 != 6) = false := bne_eq_false_iff_eq.mpr c21
      clear c21
      (first | rw [c21b0] | (simp only [i64_w, i32_w]; rw [c21b0]) | skip)
      replace H := Option.bind_eq_some_iff.mp H
      obtain ⟨t398, A220, H⟩ := H
      replace H : (impl_ApplyTietze.j0 k (!t398) a0_0 l0_1 a1_0 a1_1 a1_2 l1_3) = some (r1, r2, r3) := H
      have A22 := am_ A220
      clear A220
      have H' := am_ H
      clear H
      have hnb23 := NB393_392.out
      have hnc23 := NB392_393.out
      have hnb24 := NB393_394.out
      have hnc24 := NB394_393.out
      obtain ⟨hcz25_0, hcz25_1, hcz25_2, hcz25_3, hfz25_0, hfz25_1, hfz25_2, hfz25_3⟩ := bx4_ BK393
      have hnb26 := NB392_394.out
      have hnc26 := NB394_392.out
      obtain ⟨hcz27_0, hcz27_1, hfz27_0, hfz27_1⟩ := bx2_ BK392
      go_wp2_with (first | (go_at_call 66; (with_reducible refine (impl_isReduced.calls k _ _ l1_3 a0_0 t398 _ ?side1 ?side2 A22.out).mono ?_); (case side1 => exact cb_ HR1_3 HB); (case side2 => exact HC1_3.out); rintro e w28 ⟨rfl, hb⟩; have n_ := bd3_ BK392 BK393 BK394 HB hb; clear BK392 BK393 BK394 HB; obtain ⟨BK392, BK393, BK394, HB⟩ := n_; (try clear hb); (try clear hb2); (try clear hk); (try clear hi)))
      go_meet
      case rel => exact ⟨_, (!t398), (by first | rfl | (simp; done) | (simp [*]; done)), H', ⟨by first | omega | exact Nat.le_refl _⟩, ⟨bk_ BK392.out⟩, ⟨bk_ BK393.out⟩, ⟨bk_ BK394.out⟩, ⟨bb_ HB.out⟩⟩
     ·rw [if_neg c21] at H
      have c21b0 : (a1_0 == 6) = false := beq_eq_false_iff_ne.mpr c21
      have c21b1 : (a1_0 != 6) = true := bne_iff_ne.mpr c21
      (first | rw [c21b0] | (simp only [i64_w, i32_w]; rw [c21b0]) | skip)
      have H' := am_ H
      clear H
      have hnb29 := NB393_392.out
      have hnc29 := NB392_393.out
      have hnb30 := NB393_394.out
      have hnc30 := NB394_393.out
      obtain ⟨hcz31_0, hcz31_1, hcz31_2, hcz31_3, hfz31_0, hfz31_1, hfz31_2, hfz31_3⟩ := bx4_ BK393
      go_wp2
      go_meet
      case rel => exact ⟨_, (false), (by first | rfl | (simp; done) | (simp [*]; done)), H', ⟨by first | omega | exact Nat.le_refl _⟩, ⟨bk_ BK392.out⟩, ⟨bk_ BK393.out⟩, ⟨bk_ BK394.out⟩, ⟨bb_ HB.out⟩⟩
    case rest =>
     clear HC9
     try clear c1
     try clear c2
     try clear p2
     try clear c3
     try clear c4
     try clear c5
     try clear c6
     try clear c8
     try clear c13
     try clear c14
     try clear c17
     try clear c21
     try clear c21b0
     try clear c21b1
     try clear c23
     try clear c24
     try clear c25
     try clear c26
     try clear c29
     try clear c30
     try clear hcz15_0
     try clear hcz15_1
     try clear hcz18_0
     try clear hcz18_1
     try clear hcz18_2
     try clear hcz18_3
     try clear hcz19_0
     try clear hcz19_1
     try clear hcz25_0
     try clear hcz25_1
     try clear hcz25_2
     try clear hcz25_3
     try clear hcz27_0
     try clear hcz27_1
     try clear hcz31_0
     try clear hcz31_1
     try clear hcz31_2
     try clear hcz31_3
     try clear hfz15_0
     try clear hfz15_1
     try clear hfz18_0
     try clear hfz18_1
     try clear hfz18_2
     try clear hfz18_3
     try clear hfz19_0
     try clear hfz19_1
     try clear hfz25_0
     try clear hfz25_1
     try clear hfz25_2
     try clear hfz25_3
     try clear hfz27_0
     try clear hfz27_1
     try clear hfz31_0
     try clear hfz31_1
     try clear hfz31_2
     try clear hfz31_3
     obtain ⟨kq, x24_8, rfl, HA, HJ8, BK392, BK393, BK394, HB⟩ := hcut
     cases kq with
     | zero => exact absurd HA.out (by simp [impl_ApplyTietze.j0])
     | succ kj8 =>
      have H := HA.out
      clear HA
      simp only [impl_ApplyTietze.j0] at H
      by_cases c32 : x24_8 = true
      ·subst c32
       have H1 : (some (0, ([] : List (List Int)), 1)) = some (r1, r2, r3) := by rw [if_pos rfl] at H; exact H
       clear H
       have H := H1
       clear H1
       simp only [Option.some.injEq, Prod.mk.injEq] at H
       obtain ⟨rfl, rfl, rfl⟩ := H
       have hnb33 := NB394_392.out
       have hnc33 := NB392_394.out
       have hnb34 := NB394_393.out
       have hnc34 := NB393_394.out
       obtain ⟨hcz35_0, hcz35_1, hfz35_0, hfz35_1⟩ := bx2_ BK394
       go_wp2
       refine bodyPost_ret (results_ct rfl _ _ gb394 28 #[.int .i64 0, .slice none 0 0] (0, 0) _ rfl (by (with_reducible repeat (first | refine blk_drewN ?_ _ | refine blk_drew ?_ | refine blk_alloc ?_ _)); refine blk_put (cs := #[.int .i64 0, .slice none 0 0]) ?_ 1 _ rfl; (with_reducible repeat (first | refine blk_drewN ?_ _ | refine blk_drew ?_ | refine blk_alloc ?_ _)); refine blk_put (cs := #[.int .i64 0, .slice none 0 0]) ?_ 0 _ rfl; (with_reducible repeat (first | refine blk_drewN ?_ _ | refine blk_drew ?_ | refine blk_alloc ?_ _)); exact BK394.out) Try.underlying28 rfl (by kernel_rfl)) rfl ?_
       exact ⟨_, by first | rfl | (simp [errW_none, errW_some] <;> rfl) | (simp [*, errW_none, errW_some] <;> rfl), by first | exact Kd.S_nil _ _ _ _ _ | exact Kd.N_nil _ _ _ _ _ | exact Kd.V_nil _ _ _ _ _ | exact Kd.Q_nil _ _ _ _ _ | exact Kd.R_nil _ _ _ _ _, bb_ HB.out⟩
      ·replace c32 := Bool.eq_false_iff.mpr c32
       subst c32
       have H1 : ((impl_isPossible.f kj8 a0_0 l0_1 a1_0 a1_1 a1_2 l1_3).bind fun t399 => (if t399 = true then ((impl_moved.f kj8 a0_0 l0_1 a1_0 a1_1 a1_2 l1_3).bind fun bt400 => ((impl_isPresentation.f kj8 bt400.1 bt400.2).bind fun t405 => (if t405 = true then (some (bt400.1, bt400.2, 0)) else (some (0, ([] : List (List Int)), 3))))) else (some (0, ([] : List (List Int)), 5)))) = some (r1, r2, r3) := by rw [if_neg (show ¬ (false = true) by decide)] at H; exact H
       clear H
       have H := H1
       clear H1
       replace H := Option.bind_eq_some_iff.mp H
       obtain ⟨t399, A360, H⟩ := H
       replace H : (if t399 = true then ((impl_moved.f kj8 a0_0 l0_1 a1_0 a1_1 a1_2 l1_3).bind fun bt400 => ((impl_isPresentation.f kj8 bt400.1 bt400.2).bind fun t405 => (if t405 = true then (some (bt400.1, bt400.2, 0)) else (some (0, ([] : List (List Int)), 3))))) else (some (0, ([] : List (List Int)), 5))) = some (r1, r2, r3) := H
       have A36 := am_ A360
       clear A360
       by_cases c37 : t399 = true
       ·subst c37
        have H1 : ((impl_moved.f kj8 a0_0 l0_1 a1_0 a1_1 a1_2 l1_3).bind fun bt400 => ((impl_isPresentation.f kj8 bt400.1 bt400.2).bind fun t405 => (if t405 = true then (some (bt400.1, bt400.2, 0)) else (some (0, ([] : List (List Int)), 3))))) = some (r1, r2, r3) := by rw [if_pos rfl] at H; exact H
        clear H
        have H := H1
        clear H1
        replace H := Option.bind_eq_some_iff.mp H
        obtain ⟨⟨t400, t401⟩, A380, H⟩ := H
        replace H : ((impl_isPresentation.f kj8 t400 t401).bind fun t405 => (if t405 = true then (some (t400, t401, 0)) else (some (0, ([] : List (List Int)), 3)))) = some (r1, r2, r3) := H
        have A38 := am_ A380
        clear A380
        replace H := Option.bind_eq_some_iff.mp H
        obtain ⟨t405, A390, H⟩ := H
        replace H : (if t405 = true then (some (t400, t401, 0)) else (some (0, ([] : List (List Int)), 3))) = some (r1, r2, r3) := H
        have A39 := am_ A390
        clear A390
        by_cases c40 : t405 = true
        ·subst c40
         have H1 : (some (t400, t401, 0)) = some (r1, r2, r3) := by rw [if_pos rfl] at H; exact H
         clear H
         have H := H1
         clear H1
         simp only [Option.some.injEq, Prod.mk.injEq] at H
         obtain ⟨rfl, rfl, rfl⟩ := H
         have hnb41 := NB392_393.out
         have hnc41 := NB393_392.out
         have hnb42 := NB392_394.out
         have hnc42 := NB394_392.out
         obtain ⟨hcz43_0, hcz43_1, hfz43_0, hfz43_1⟩ := bx2_ BK392
         have hnb44 := NB393_394.out
         have hnc44 := NB394_393.out
         obtain ⟨hcz45_0, hcz45_1, hcz45_2, hcz45_3, hfz45_0, hfz45_1, hfz45_2, hfz45_3⟩ := bx4_ BK393
         go_wp2_with (first | ((with_reducible refine gate_callee (f := 67) rfl ?_); refine goesL_ (some 40) rfl rfl Try.func67 (by kernel_rfl) rfl #[.agg #[.int .i64 a0_0, .slice A0_1 l0_1.length c0_1], .agg #[.int .i64 a1_0, .int .i64 a1_1, .int .i64 a1_2, .slice A1_3 l1_3.length c1_3]] rfl lm_ ?_; (with_reducible refine (impl_isPossible.calls kj8 a0_0 _ _ l0_1 a1_0 a1_1 a1_2 _ _ l1_3 true _ ?side1 ?side2 ?side3 ?side4 A36.out).mono ?_); (case side1 => exact cb_ HR0_1 HB); (case side2 => exact HC0_1.out); (case side3 => exact cb_ HR1_3 HB); (case side4 => exact HC1_3.out); rintro e w46 ⟨rfl, hb⟩; refine ⟨_, rfl, ?_⟩; have n_ := bd3_ BK392 BK393 BK394 HB hb; clear BK392 BK393 BK394 HB; obtain ⟨BK392, BK393, BK394, HB⟩ := n_; (try clear hb); (try clear hb2); (try clear hk); (try clear hi); obtain ⟨hcz47_0, hcz47_1, hfz47_0, hfz47_1⟩ := bx2_ BK392; obtain ⟨hcz48_0, hcz48_1, hcz48_2, hcz48_3, hfz48_0, hfz48_1, hfz48_2, hfz48_3⟩ := bx4_ BK393) | ((with_reducible refine gate_callee (f := 68) rfl ?_); refine goesL_ (some 45) rfl rfl Try.func68 (by kernel_rfl) rfl #[.agg #[.int .i64 a0_0, .slice A0_1 l0_1.length c0_1], .agg #[.int .i64 a1_0, .int .i64 a1_1, .int .i64 a1_2, .slice A1_3 l1_3.length c1_3]] rfl lm_ ?_; (with_reducible refine (impl_moved.calls kj8 a0_0 _ _ l0_1 a1_0 a1_1 a1_2 _ _ l1_3 t400 t401 _ ?side1 ?side2 ?side3 ?side4 A38.out).mono ?_); (case side1 => exact cb_ HR0_1 HB); (case side2 => exact HC0_1.out); (case side3 => exact cb_ HR1_3 HB); (case side4 => exact HC1_3.out); rintro e w49 ⟨v402, rfl, ho0, hb⟩; refine ⟨_, rfl, ?_⟩; have n0_ := am_ (Kd.S_lower ho0 (below_size (bb_ HB.out))); have n1_ := am_ (bw_ BK392 hb); have n2_ := am_ (bw_ BK393 hb); have n3_ := am_ (bw_ BK394 hb); have n4_ := am_ (below_step (bb_ HB.out) hb); clear BK392 BK393 BK394 HB; revert n0_ n1_ n2_ n3_ n4_; intro HO403 BK392 BK393 BK394 HB; (try clear hb); (try clear hb2); (try clear hk); (try clear hi); (try clear ho0)) | (refine be_ 6 28 #[.int .i64 0, .slice none 0 0] ?_; intro gb404 hg w50 hbox hb; have n0_ := am_ (Kd.S_below (by (with_reducible repeat (first | apply Kd.S_alloc | apply Kd.S_drewN | apply Kd.S_drew)); exact HO403.out) hb); have n1_ := am_ (bw_ BK392 hb); have n2_ := am_ (bw_ BK393 hb); have n3_ := am_ (bw_ BK394 hb); have n4_ := am_ (below_step (bb_ HB.out) hb); have n5_ := am_ (hbox); have n6_ := gs_ HB hg; have n7_ := gs_ HB hg; have n8_ := am_ (nl_ BK392 hg); have n9_ := am_ (ng_ BK392 hg); have n10_ := am_ (nl_ BK393 hg); have n11_ := am_ (ng_ BK393 hg); have n12_ := am_ (nl_ BK394 hg); have n13_ := am_ (ng_ BK394 hg); clear HO403 BK392 BK393 BK394 HB; revert n0_ n1_ n2_ n3_ n4_ n5_ n6_ n7_ n8_ n9_ n10_ n11_ n12_ n13_; intro HO403 BK392 BK393 BK394 HB BK404 GW404 GE404 NB392_404 NB404_392 NB393_404 NB404_393 NB394_404 NB404_394; clear hb hbox hg; have hnb51 := NB404_392.out; have hnc51 := NB392_404.out; have hnb52 := NB404_393.out; have hnc52 := NB393_404.out; have hnb53 := NB404_394.out; have hnc53 := NB394_404.out; obtain ⟨hcz54_0, hcz54_1, hfz54_0, hfz54_1⟩ := bx2_ BK404; obtain ⟨Ao55, co55, eo55⟩ := Kd.S_slice HO403.out; subst eo55) | ((with_reducible refine gate_callee (f := 59) rfl ?_); refine goesL_ (some 47) rfl rfl Try.func59 (by kernel_rfl) rfl #[.agg #[.int .i64 t400, .slice Ao55 t401.length co55]] rfl lm_ ?_; (with_reducible refine (impl_isPresentation.calls kj8 t400 _ _ t401 true _ ?side1 ?side2 A39.out).mono ?_); (case side1 => refine (Kd.S_reads' (e := 39) (base := w.heap.size) (ok := fun k_ => True) (n := t401.length) (c := co55) ?_).2.2; exact (by (with_reducible repeat (first | apply Kd.S_alloc | apply Kd.S_drewN | apply Kd.S_drew)); exact (Kd.S_mono (Kd.S_far (p := ⟨gb404, 1, none⟩) (Kd.S_far (p := ⟨gb404, 0, none⟩) (Kd.S_types HO403.out BK404.out (by decide)) (fun _ hk => hk.2) (.int .i64 t400)) (fun _ hk => hk.2) (.slice Ao55 t401.length co55)) (fun _ h_ => h_.1)))); (case side2 => exact (Kd.S_reads' HO403.out).2.1); rintro e w56 ⟨rfl, hb⟩; refine ⟨_, rfl, ?_⟩; have n0_ := am_ (Kd.S_below (by (with_reducible repeat (first | apply Kd.S_alloc | apply Kd.S_drewN | apply Kd.S_drew)); exact (Kd.S_mono (Kd.S_far (p := ⟨gb404, 1, none⟩) (Kd.S_far (p := ⟨gb404, 0, none⟩) (Kd.S_types HO403.out BK404.out (by decide)) (fun _ hk => hk.2) (.int .i64 t400)) (fun _ hk => hk.2) (.slice Ao55 t401.length co55)) (fun _ h_ => h_.1))) hb); have n1_ := am_ (bw_ BK392 hb); have n2_ := am_ (bw_ BK393 hb); have n3_ := am_ (bw_ BK394 hb); have n4_ := am_ (blk_below (g := gb404) (o := .cells #[.int .i64 t400, .slice Ao55 t401.length co55] 28 (0, 0)) (by (with_reducible repeat (first | refine blk_drewN ?_ _ | refine blk_drew ?_ | refine blk_alloc ?_ _)); refine blk_put (cs := #[.int .i64 t400, .slice none 0 0]) ?_ 1 _ rfl; (with_reducible repeat (first | refine blk_drewN ?_ _ | refine blk_drew ?_ | refine blk_alloc ?_ _)); refine blk_put (cs := #[.int .i64 0, .slice none 0 0]) ?_ 0 _ rfl; (with_reducible repeat (first | refine blk_drewN ?_ _ | refine blk_drew ?_ | refine blk_alloc ?_ _)); exact BK404.out) hb); have n5_ := am_ (below_step (bb_ HB.out) hb); clear HO403 BK392 BK393 BK394 BK404 HB; revert n0_ n1_ n2_ n3_ n4_ n5_; intro HO403 BK392 BK393 BK394 BK404 HB; (try clear hb); (try clear hb2); (try clear hk); (try clear hi); obtain ⟨hcz57_0, hcz57_1, hfz57_0, hfz57_1⟩ := bx2_ BK404; obtain ⟨hcz58_0, hcz58_1, hfz58_0, hfz58_1⟩ := bx2_ BK394))
         refine bodyPost_ret (results_ct rfl _ _ gb394 28 #[.int .i64 t400, .slice Ao55 t401.length co55] (0, 0) _ rfl (by (with_reducible repeat (first | refine blk_drewN ?_ _ | refine blk_drew ?_ | refine blk_alloc ?_ _)); refine blk_put (cs := #[.int .i64 t400, .slice none 0 0]) ?_ 1 _ rfl; (with_reducible repeat (first | refine blk_drewN ?_ _ | refine blk_drew ?_ | refine blk_alloc ?_ _)); refine blk_put (cs := #[.int .i64 0, .slice none 0 0]) ?_ 0 _ rfl; (with_reducible repeat (first | refine blk_drewN ?_ _ | refine blk_drew ?_ | refine blk_alloc ?_ _)); exact BK394.out) Try.underlying28 rfl (by kernel_rfl)) rfl ?_
         exact ⟨_, by first | rfl | (simp [errW_none, errW_some] <;> rfl) | (simp [*, errW_none, errW_some] <;> rfl), by (with_reducible repeat (first | apply Kd.S_alloc | apply Kd.S_drewN | apply Kd.S_drew)); exact Kd.S_mono (Kd.S_far (p := ⟨gb394, 1, none⟩) (Kd.S_far (p := ⟨gb394, 0, none⟩) (Kd.S_types HO403.out BK394.out (by decide)) (fun _ hk => hk.2) (.int .i64 t400)) (fun _ hk => hk.2) (.slice Ao55 t401.length co55)) (fun _ hk => trivial), bb_ HB.out⟩
        ·replace c40 := Bool.eq_false_iff.mpr c40
         subst c40
         have H1 : (some (0, ([] : List (List Int)), 3)) = some (r1, r2, r3) := by rw [if_neg (show ¬ (false = true) by decide)] at H; exact H
         clear H
         have H := H1
         clear H1
         simp only [Option.some.injEq, Prod.mk.injEq] at H
         obtain ⟨rfl, rfl, rfl⟩ := H
         have hnb59 := NB392_393.out
         have hnc59 := NB393_392.out
         have hnb60 := NB392_394.out
         have hnc60 := NB394_392.out
         obtain ⟨hcz61_0, hcz61_1, hfz61_0, hfz61_1⟩ := bx2_ BK392
         have hnb62 := NB393_394.out
         have hnc62 := NB394_393.out
         obtain ⟨hcz63_0, hcz63_1, hcz63_2, hcz63_3, hfz63_0, hfz63_1, hfz63_2, hfz63_3⟩ := bx4_ BK393
         go_wp2_with (first | ((with_reducible refine gate_callee (f := 67) rfl ?_); refine goesL_ (some 40) rfl rfl Try.func67 (by kernel_rfl) rfl #[.agg #[.int .i64 a0_0, .slice A0_1 l0_1.length c0_1], .agg #[.int .i64 a1_0, .int .i64 a1_1, .int .i64 a1_2, .slice A1_3 l1_3.length c1_3]] rfl lm_ ?_; (with_reducible refine (impl_isPossible.calls kj8 a0_0 _ _ l0_1 a1_0 a1_1 a1_2 _ _ l1_3 true _ ?side1 ?side2 ?side3 ?side4 A36.out).mono ?_); (case side1 => exact cb_ HR0_1 HB); (case side2 => exact HC0_1.out); (case side3 => exact cb_ HR1_3 HB); (case side4 => exact HC1_3.out); rintro e w64 ⟨rfl, hb⟩; refine ⟨_, rfl, ?_⟩; have n_ := bd3_ BK392 BK393 BK394 HB hb; clear BK392 BK393 BK394 HB; obtain ⟨BK392, BK393, BK394, HB⟩ := n_; (try clear hb); (try clear hb2); (try clear hk); (try clear hi); obtain ⟨hcz65_0, hcz65_1, hfz65_0, hfz65_1⟩ := bx2_ BK392; obtain ⟨hcz66_0, hcz66_1, hcz66_2, hcz66_3, hfz66_0, hfz66_1, hfz66_2, hfz66_3⟩ := bx4_ BK393) | ((with_reducible refine gate_callee (f := 68) rfl ?_); refine goesL_ (some 45) rfl rfl Try.func68 (by kernel_rfl) rfl #[.agg #[.int .i64 a0_0, .slice A0_1 l0_1.length c0_1], .agg #[.int .i64 a1_0, .int .i64 a1_1, .int .i64 a1_2, .slice A1_3 l1_3.length c1_3]] rfl lm_ ?_; (with_reducible refine (impl_moved.calls kj8 a0_0 _ _ l0_1 a1_0 a1_1 a1_2 _ _ l1_3 t400 t401 _ ?side1 ?side2 ?side3 ?side4 A38.out).mono ?_); (case side1 => exact cb_ HR0_1 HB); (case side2 => exact HC0_1.out); (case side3 => exact cb_ HR1_3 HB); (case side4 => exact HC1_3.out); rintro e w67 ⟨v402, rfl, ho0, hb⟩; refine ⟨_, rfl, ?_⟩; have n0_ := am_ (Kd.S_lower ho0 (below_size (bb_ HB.out))); have n1_ := am_ (bw_ BK392 hb); have n2_ := am_ (bw_ BK393 hb); have n3_ := am_ (bw_ BK394 hb); have n4_ := am_ (below_step (bb_ HB.out) hb); clear BK392 BK393 BK394 HB; revert n0_ n1_ n2_ n3_ n4_; intro HO403 BK392 BK393 BK394 HB; (try clear hb); (try clear hb2); (try clear hk); (try clear hi); (try clear ho0)) | (refine be_ 6 28 #[.int .i64 0, .slice none 0 0] ?_; intro gb404 hg w68 hbox hb; have n0_ := am_ (Kd.S_below (by (with_reducible repeat (first | apply Kd.S_alloc | apply Kd.S_drewN | apply Kd.S_drew)); exact HO403.out) hb); have n1_ := am_ (bw_ BK392 hb); have n2_ := am_ (bw_ BK393 hb); have n3_ := am_ (bw_ BK394 hb); have n4_ := am_ (below_step (bb_ HB.out) hb); have n5_ := am_ (hbox); have n6_ := gs_ HB hg; have n7_ := gs_ HB hg; have n8_ := am_ (nl_ BK392 hg); have n9_ := am_ (ng_ BK392 hg); have n10_ := am_ (nl_ BK393 hg); have n11_ := am_ (ng_ BK393 hg); have n12_ := am_ (nl_ BK394 hg); have n13_ := am_ (ng_ BK394 hg); clear HO403 BK392 BK393 BK394 HB; revert n0_ n1_ n2_ n3_ n4_ n5_ n6_ n7_ n8_ n9_ n10_ n11_ n12_ n13_; intro HO403 BK392 BK393 BK394 HB BK404 GW404 GE404 NB392_404 NB404_392 NB393_404 NB404_393 NB394_404 NB404_394; clear hb hbox hg; have hnb69 := NB404_392.out; have hnc69 := NB392_404.out; have hnb70 := NB404_393.out; have hnc70 := NB393_404.out; have hnb71 := NB404_394.out; have hnc71 := NB394_404.out; obtain ⟨hcz72_0, hcz72_1, hfz72_0, hfz72_1⟩ := bx2_ BK404; obtain ⟨Ao73, co73, eo73⟩ := Kd.S_slice HO403.out; subst eo73) | ((with_reducible refine gate_callee (f := 59) rfl ?_); refine goesL_ (some 47) rfl rfl Try.func59 (by kernel_rfl) rfl #[.agg #[.int .i64 t400, .slice Ao73 t401.length co73]] rfl lm_ ?_; (with_reducible refine (impl_isPresentation.calls kj8 t400 _ _ t401 false _ ?side1 ?side2 A39.out).mono ?_); (case side1 => refine (Kd.S_reads' (e := 39) (base := w.heap.size) (ok := fun k_ => True) (n := t401.length) (c := co73) ?_).2.2; exact (by (with_reducible repeat (first | apply Kd.S_alloc | apply Kd.S_drewN | apply Kd.S_drew)); exact (Kd.S_mono (Kd.S_far (p := ⟨gb404, 1, none⟩) (Kd.S_far (p := ⟨gb404, 0, none⟩) (Kd.S_types HO403.out BK404.out (by decide)) (fun _ hk => hk.2) (.int .i64 t400)) (fun _ hk => hk.2) (.slice Ao73 t401.length co73)) (fun _ h_ => h_.1)))); (case side2 => exact (Kd.S_reads' HO403.out).2.1); rintro e w74 ⟨rfl, hb⟩; refine ⟨_, rfl, ?_⟩; have n0_ := am_ (Kd.S_below (by (with_reducible repeat (first | apply Kd.S_alloc | apply Kd.S_drewN | apply Kd.S_drew)); exact (Kd.S_mono (Kd.S_far (p := ⟨gb404, 1, none⟩) (Kd.S_far (p := ⟨gb404, 0, none⟩) (Kd.S_types HO403.out BK404.out (by decide)) (fun _ hk => hk.2) (.int .i64 t400)) (fun _ hk => hk.2) (.slice Ao73 t401.length co73)) (fun _ h_ => h_.1))) hb); have n1_ := am_ (bw_ BK392 hb); have n2_ := am_ (bw_ BK393 hb); have n3_ := am_ (bw_ BK394 hb); have n4_ := am_ (blk_below (g := gb404) (o := .cells #[.int .i64 t400, .slice Ao73 t401.length co73] 28 (0, 0)) (by (with_reducible repeat (first | refine blk_drewN ?_ _ | refine blk_drew ?_ | refine blk_alloc ?_ _)); refine blk_put (cs := #[.int .i64 t400, .slice none 0 0]) ?_ 1 _ rfl; (with_reducible repeat (first | refine blk_drewN ?_ _ | refine blk_drew ?_ | refine blk_alloc ?_ _)); refine blk_put (cs := #[.int .i64 0, .slice none 0 0]) ?_ 0 _ rfl; (with_reducible repeat (first | refine blk_drewN ?_ _ | refine blk_drew ?_ | refine blk_alloc ?_ _)); exact BK404.out) hb); have n5_ := am_ (below_step (bb_ HB.out) hb); clear HO403 BK392 BK393 BK394 BK404 HB; revert n0_ n1_ n2_ n3_ n4_ n5_; intro HO403 BK392 BK393 BK394 BK404 HB; (try clear hb); (try clear hb2); (try clear hk); (try clear hi); obtain ⟨hcz75_0, hcz75_1, hfz75_0, hfz75_1⟩ := bx2_ BK394))
         refine bodyPost_ret (results_ct rfl _ _ gb394 28 #[.int .i64 0, .slice none 0 0] (0, 0) _ rfl (by (with_reducible repeat (first | refine blk_drewN ?_ _ | refine blk_drew ?_ | refine blk_alloc ?_ _)); refine blk_put (cs := #[.int .i64 0, .slice none 0 0]) ?_ 1 _ rfl; (with_reducible repeat (first | refine blk_drewN ?_ _ | refine blk_drew ?_ | refine blk_alloc ?_ _)); refine blk_put (cs := #[.int .i64 0, .slice none 0 0]) ?_ 0 _ rfl; (with_reducible repeat (first | refine blk_drewN ?_ _ | refine blk_drew ?_ | refine blk_alloc ?_ _)); exact BK394.out) Try.underlying28 rfl (by kernel_rfl)) rfl ?_
         exact ⟨_, by first | rfl | (simp [errW_none, errW_some] <;> rfl) | (simp [*, errW_none, errW_some] <;> rfl), by first | exact Kd.S_nil _ _ _ _ _ | exact Kd.N_nil _ _ _ _ _ | exact Kd.V_nil _ _ _ _ _ | exact Kd.Q_nil _ _ _ _ _ | exact Kd.R_nil _ _ _ _ _, bb_ HB.out⟩
       ·replace c37 := Bool.eq_false_iff.mpr c37
        subst c37
        have H1 : (some (0, ([] : List (List Int)), 5)) = some (r1, r2, r3) := by rw [if_neg (show ¬ (false = true) by decide)] at H; exact H
        clear H
        have H := H1
        clear H1
        simp only [Option.some.injEq, Prod.mk.injEq] at H
        obtain ⟨rfl, rfl, rfl⟩ := H
        have hnb76 := NB392_393.out
        have hnc76 := NB393_392.out
        have hnb77 := NB392_394.out
        have hnc77 := NB394_392.out
        obtain ⟨hcz78_0, hcz78_1, hfz78_0, hfz78_1⟩ := bx2_ BK392
        have hnb79 := NB393_394.out
        have hnc79 := NB394_393.out
        obtain ⟨hcz80_0, hcz80_1, hcz80_2, hcz80_3, hfz80_0, hfz80_1, hfz80_2, hfz80_3⟩ := bx4_ BK393
        go_wp2_with (first | ((with_reducible refine gate_callee (f := 67) rfl ?_); refine goesL_ (some 40) rfl rfl Try.func67 (by kernel_rfl) rfl #[.agg #[.int .i64 a0_0, .slice A0_1 l0_1.length c0_1], .agg #[.int .i64 a1_0, .int .i64 a1_1, .int .i64 a1_2, .slice A1_3 l1_3.length c1_3]] rfl lm_ ?_; (with_reducible refine (impl_isPossible.calls kj8 a0_0 _ _ l0_1 a1_0 a1_1 a1_2 _ _ l1_3 false _ ?side1 ?side2 ?side3 ?side4 A36.out).mono ?_); (case side1 => exact cb_ HR0_1 HB); (case side2 => exact HC0_1.out); (case side3 => exact cb_ HR1_3 HB); (case side4 => exact HC1_3.out); rintro e w81 ⟨rfl, hb⟩; refine ⟨_, rfl, ?_⟩; have n_ := bd3_ BK392 BK393 BK394 HB hb; clear BK392 BK393 BK394 HB; obtain ⟨BK392, BK393, BK394, HB⟩ := n_; (try clear hb); (try clear hb2); (try clear hk); (try clear hi); obtain ⟨hcz82_0, hcz82_1, hfz82_0, hfz82_1⟩ := bx2_ BK394))
        refine bodyPost_ret (results_ct rfl _ _ gb394 28 #[.int .i64 0, .slice none 0 0] (0, 0) _ rfl (by (with_reducible repeat (first | refine blk_drewN ?_ _ | refine blk_drew ?_ | refine blk_alloc ?_ _)); refine blk_put (cs := #[.int .i64 0, .slice none 0 0]) ?_ 1 _ rfl; (with_reducible repeat (first | refine blk_drewN ?_ _ | refine blk_drew ?_ | refine blk_alloc ?_ _)); refine blk_put (cs := #[.int .i64 0, .slice none 0 0]) ?_ 0 _ rfl; (with_reducible repeat (first | refine blk_drewN ?_ _ | refine blk_drew ?_ | refine blk_alloc ?_ _)); exact BK394.out) Try.underlying28 rfl (by kernel_rfl)) rfl ?_
        exact ⟨_, by first | rfl | (simp [errW_none, errW_some] <;> rfl) | (simp [*, errW_none, errW_some] <;> rfl), by first | exact Kd.S_nil _ _ _ _ _ | exact Kd.N_nil _ _ _ _ _ | exact Kd.V_nil _ _ _ _ _ | exact Kd.Q_nil _ _ _ _ _ | exact Kd.R_nil _ _ _ _ _, bb_ HB.out⟩
   ·replace c8 := Bool.eq_false_iff.mpr c8
    subst c8
    have H1 : (some (0, ([] : List (List Int)), 4)) = some (r1, r2, r3) := by rw [if_neg (show ¬ (false = true) by decide)] at H; exact H
    clear H
    have H := H1
    clear H1
    simp only [Option.some.injEq, Prod.mk.injEq] at H
    obtain ⟨rfl, rfl, rfl⟩ := H
    go_enter Try.func25, Try.ntmps25
    go_wp2_with (first | (refine be_ 2 28 #[.int .i64 a0_0, .slice A0_1 l0_1.length c0_1] ?_; intro gb392 hg w83 hbox hb; have n_ := ba0_ HB hbox hb hg; clear  HB hb hbox hg; obtain ⟨HB, BK392, GW392, GE392⟩ := n_) | (refine be_ 3 44 #[.int .i64 a1_0, .int .i64 a1_1, .int .i64 a1_2, .slice A1_3 l1_3.length c1_3] ?_; intro gb393 hg w84 hbox hb; have n_ := ba1_ BK392 HB hbox hb hg; clear BK392 HB hb hbox hg; obtain ⟨BK392, HB, BK393, GW393, GE393, NB392_393, NB393_392⟩ := n_) | (refine be_ 4 28 #[.int .i64 0, .slice none 0 0] ?_; intro gb394 hg w85 hbox hb; have n_ := ba2_ BK392 BK393 HB hbox hb hg; clear BK392 BK393 HB hb hbox hg; obtain ⟨BK392, BK393, HB, BK394, GW394, GE394, NB392_394, NB394_392, NB393_394, NB394_393⟩ := n_; have hnb86 := NB392_393.out; have hnc86 := NB393_392.out; have hnb87 := NB392_394.out; have hnc87 := NB394_392.out; obtain ⟨hcz88_0, hcz88_1, hfz88_0, hfz88_1⟩ := bx2_ BK392) | ((with_reducible refine gate_callee (f := 59) rfl ?_); refine goesL_ (some 9) rfl rfl Try.func59 (by kernel_rfl) rfl #[.agg #[.int .i64 a0_0, .slice A0_1 l0_1.length c0_1]] rfl lm_ ?_; (with_reducible refine (impl_isPresentation.calls k a0_0 _ _ l0_1 true _ ?side1 ?side2 A3.out).mono ?_); (case side1 => exact cb_ HR0_1 HB); (case side2 => exact HC0_1.out); rintro e w89 ⟨rfl, hb⟩; refine ⟨_, rfl, ?_⟩; have n_ := bd3_ BK392 BK393 BK394 HB hb; clear BK392 BK393 BK394 HB; obtain ⟨BK392, BK393, BK394, HB⟩ := n_; (try clear hb); (try clear hb2); (try clear hk); (try clear hi); have hnb90 := NB393_394.out; have hnc90 := NB394_393.out; obtain ⟨hcz91_0, hcz91_1, hcz91_2, hcz91_3, hfz91_0, hfz91_1, hfz91_2, hfz91_3⟩ := bx4_ BK393) | ((with_reducible refine gate_callee (f := 64) rfl ?_); refine goesL_ (some 15) rfl rfl Try.func64 (by kernel_rfl) rfl #[.int .i64 a1_0, .int .i64 1, .int .i64 6] rfl lm_ ?_; (with_reducible refine (impl_inRange.calls a1_0 1 6 true _ A5.out).mono ?_); rintro e w' ⟨rfl, ⟨nd, rfl⟩⟩; refine ⟨_, rfl, ?_⟩; (try (rw [drewN_self w89]; generalize hq_ : World.drewN w89 _ = w89; have n0_ : Aside0 (w89.heap[gb392]? = some (.cells #[.int .i64 a0_0, .slice A0_1 l0_1.length c0_1] 28 (0, 0))) := ⟨by rw [← hq_]; exact (bk_ BK392.out)⟩; have n1_ : Aside0 (w89.heap[gb393]? = some (.cells #[.int .i64 a1_0, .int .i64 a1_1, .int .i64 a1_2, .slice A1_3 l1_3.length c1_3] 44 (0, 0))) := ⟨by rw [← hq_]; exact (bk_ BK393.out)⟩; have n2_ : Aside0 (w89.heap[gb394]? = some (.cells #[.int .i64 0, .slice none 0 0] 28 (0, 0))) := ⟨by rw [← hq_]; exact (bk_ BK394.out)⟩; have n3_ : Aside0 (Below w.heap.size w w89) := ⟨by rw [← hq_]; exact (bb_ HB.out)⟩; clear BK392 BK393 BK394 HB hq_; have BK392 := n0_; have BK393 := n1_; have BK394 := n2_; have HB := n3_; clear n0_ n1_ n2_ n3_)); (try obtain ⟨hcz91_0, hcz91_1, hcz91_2, hcz91_3, hfz91_0, hfz91_1, hfz91_2, hfz91_3⟩ := bx4_ BK393); obtain ⟨hcz92_0, hcz92_1, hfz92_0, hfz92_1⟩ := bx2_ BK392) | ((with_reducible refine gate_callee (f := 65) rfl ?_); refine goesL_ (some 21) rfl rfl Try.func65 (by kernel_rfl) rfl #[.agg #[.int .i64 a0_0, .slice A0_1 l0_1.length c0_1], .agg #[.int .i64 a1_0, .int .i64 a1_1, .int .i64 a1_2, .slice A1_3 l1_3.length c1_3]] rfl lm_ ?_; (with_reducible refine (impl_usesExisting.calls a0_0 _ _ l0_1 a1_0 a1_1 a1_2 _ _ l1_3 false _ ?side1 ?side2 ?side3 ?side4 A7.out).mono ?_); (case side1 => exact cb_ HR0_1 HB); (case side2 => exact HC0_1.out); (case side3 => exact cb_ HR1_3 HB); (case side4 => exact HC1_3.out); rintro e w93 ⟨rfl, hb⟩; refine ⟨_, rfl, ?_⟩; have n_ := bd3_ BK392 BK393 BK394 HB hb; clear BK392 BK393 BK394 HB; obtain ⟨BK392, BK393, BK394, HB⟩ := n_; (try clear hb); (try clear hb2); (try clear hk); (try clear hi); obtain ⟨hcz94_0, hcz94_1, hfz94_0, hfz94_1⟩ := bx2_ BK394))
    refine bodyPost_ret (results_ct rfl _ _ gb394 28 #[.int .i64 0, .slice none 0 0] (0, 0) _ rfl (by (with_reducible repeat (first | refine blk_drewN ?_ _ | refine blk_drew ?_ | refine blk_alloc ?_ _)); refine blk_put (cs := #[.int .i64 0, .slice none 0 0]) ?_ 1 _ rfl; (with_reducible repeat (first | refine blk_drewN ?_ _ | refine blk_drew ?_ | refine blk_alloc ?_ _)); refine blk_put (cs := #[.int .i64 0, .slice none 0 0]) ?_ 0 _ rfl; (with_reducible repeat (first | refine blk_drewN ?_ _ | refine blk_drew ?_ | refine blk_alloc ?_ _)); exact BK394.out) Try.underlying28 rfl (by kernel_rfl)) rfl ?_
    exact ⟨_, by first | rfl | (simp [errW_none, errW_some] <;> rfl) | (simp [*, errW_none, errW_some] <;> rfl), by first | exact Kd.S_nil _ _ _ _ _ | exact Kd.N_nil _ _ _ _ _ | exact Kd.V_nil _ _ _ _ _ | exact Kd.Q_nil _ _ _ _ _ | exact Kd.R_nil _ _ _ _ _, bb_ HB.out⟩
  ·replace c6 := Bool.eq_false_iff.mpr c6
   subst c6
   have H1 : (some (0, ([] : List (List Int)), 2)) = some (r1, r2, r3) := by rw [if_neg (show ¬ (false = true) by decide)] at H; exact H
   clear H
   have H := H1
   clear H1
   simp only [Option.some.injEq, Prod.mk.injEq] at H
   obtain ⟨rfl, rfl, rfl⟩ := H
   go_enter Try.func25, Try.ntmps25
   go_wp2_with (first | (refine be_ 2 28 #[.int .i64 a0_0, .slice A0_1 l0_1.length c0_1] ?_; intro gb392 hg w95 hbox hb; have n_ := ba0_ HB hbox hb hg; clear  HB hb hbox hg; obtain ⟨HB, BK392, GW392, GE392⟩ := n_) | (refine be_ 3 44 #[.int .i64 a1_0, .int .i64 a1_1, .int .i64 a1_2, .slice A1_3 l1_3.length c1_3] ?_; intro gb393 hg w96 hbox hb; have n_ := ba1_ BK392 HB hbox hb hg; clear BK392 HB hb hbox hg; obtain ⟨BK392, HB, BK393, GW393, GE393, NB392_393, NB393_392⟩ := n_) | (refine be_ 4 28 #[.int .i64 0, .slice none 0 0] ?_; intro gb394 hg w97 hbox hb; have n_ := ba2_ BK392 BK393 HB hbox hb hg; clear BK392 BK393 HB hb hbox hg; obtain ⟨BK392, BK393, HB, BK394, GW394, GE394, NB392_394, NB394_392, NB393_394, NB394_393⟩ := n_; have hnb98 := NB392_393.out; have hnc98 := NB393_392.out; have hnb99 := NB392_394.out; have hnc99 := NB394_392.out; obtain ⟨hcz100_0, hcz100_1, hfz100_0, hfz100_1⟩ := bx2_ BK392) | ((with_reducible refine gate_callee (f := 59) rfl ?_); refine goesL_ (some 9) rfl rfl Try.func59 (by kernel_rfl) rfl #[.agg #[.int .i64 a0_0, .slice A0_1 l0_1.length c0_1]] rfl lm_ ?_; (with_reducible refine (impl_isPresentation.calls k a0_0 _ _ l0_1 true _ ?side1 ?side2 A3.out).mono ?_); (case side1 => exact cb_ HR0_1 HB); (case side2 => exact HC0_1.out); rintro e w101 ⟨rfl, hb⟩; refine ⟨_, rfl, ?_⟩; have n_ := bd3_ BK392 BK393 BK394 HB hb; clear BK392 BK393 BK394 HB; obtain ⟨BK392, BK393, BK394, HB⟩ := n_; (try clear hb); (try clear hb2); (try clear hk); (try clear hi); have hnb102 := NB393_394.out; have hnc102 := NB394_393.out; obtain ⟨hcz103_0, hcz103_1, hcz103_2, hcz103_3, hfz103_0, hfz103_1, hfz103_2, hfz103_3⟩ := bx4_ BK393) | ((with_reducible refine gate_callee (f := 64) rfl ?_); refine goesL_ (some 15) rfl rfl Try.func64 (by kernel_rfl) rfl #[.int .i64 a1_0, .int .i64 1, .int .i64 6] rfl lm_ ?_; (with_reducible refine (impl_inRange.calls a1_0 1 6 false _ A5.out).mono ?_); rintro e w' ⟨rfl, ⟨nd, rfl⟩⟩; refine ⟨_, rfl, ?_⟩; (try (rw [drewN_self w101]; generalize hq_ : World.drewN w101 _ = w101; have n0_ : Aside0 (w101.heap[gb392]? = some (.cells #[.int .i64 a0_0, .slice A0_1 l0_1.length c0_1] 28 (0, 0))) := ⟨by rw [← hq_]; exact (bk_ BK392.out)⟩; have n1_ : Aside0 (w101.heap[gb393]? = some (.cells #[.int .i64 a1_0, .int .i64 a1_1, .int .i64 a1_2, .slice A1_3 l1_3.length c1_3] 44 (0, 0))) := ⟨by rw [← hq_]; exact (bk_ BK393.out)⟩; have n2_ : Aside0 (w101.heap[gb394]? = some (.cells #[.int .i64 0, .slice none 0 0] 28 (0, 0))) := ⟨by rw [← hq_]; exact (bk_ BK394.out)⟩; have n3_ : Aside0 (Below w.heap.size w w101) := ⟨by rw [← hq_]; exact (bb_ HB.out)⟩; clear BK392 BK393 BK394 HB hq_; have BK392 := n0_; have BK393 := n1_; have BK394 := n2_; have HB := n3_; clear n0_ n1_ n2_ n3_)); (try obtain ⟨hcz100_0, hcz100_1, hfz100_0, hfz100_1⟩ := bx2_ BK392); (try obtain ⟨hcz103_0, hcz103_1, hcz103_2, hcz103_3, hfz103_0, hfz103_1, hfz103_2, hfz103_3⟩ := bx4_ BK393); obtain ⟨hcz104_0, hcz104_1, hfz104_0, hfz104_1⟩ := bx2_ BK394))
   refine bodyPost_ret (results_ct rfl _ _ gb394 28 #[.int .i64 0, .slice none 0 0] (0, 0) _ rfl (by (with_reducible repeat (first | refine blk_drewN ?_ _ | refine blk_drew ?_ | refine blk_alloc ?_ _)); refine blk_put (cs := #[.int .i64 0, .slice none 0 0]) ?_ 1 _ rfl; (with_reducible repeat (first | refine blk_drewN ?_ _ | refine blk_drew ?_ | refine blk_alloc ?_ _)); refine blk_put (cs := #[.int .i64 0, .slice none 0 0]) ?_ 0 _ rfl; (with_reducible repeat (first | refine blk_drewN ?_ _ | refine blk_drew ?_ | refine blk_alloc ?_ _)); exact BK394.out) Try.underlying28 rfl (by kernel_rfl)) rfl ?_
   exact ⟨_, by first | rfl | (simp [errW_none, errW_some] <;> rfl) | (simp [*, errW_none, errW_some] <;> rfl), by first | exact Kd.S_nil _ _ _ _ _ | exact Kd.N_nil _ _ _ _ _ | exact Kd.V_nil _ _ _ _ _ | exact Kd.Q_nil _ _ _ _ _ | exact Kd.R_nil _ _ _ _ _, bb_ HB.out⟩
 ·replace c4 := Bool.eq_false_iff.mpr c4
  subst c4
  have H1 : (some (0, ([] : List (List Int)), 1)) = some (r1, r2, r3) := by rw [if_neg (show ¬ (false = true) by decide)] at H; exact H
  clear H
  have H := H1
  clear H1
  simp only [Option.some.injEq, Prod.mk.injEq] at H
  obtain ⟨rfl, rfl, rfl⟩ := H
  go_enter Try.func25, Try.ntmps25
  go_wp2_with (first | (refine be_ 2 28 #[.int .i64 a0_0, .slice A0_1 l0_1.length c0_1] ?_; intro gb392 hg w105 hbox hb; have n_ := ba0_ HB hbox hb hg; clear  HB hb hbox hg; obtain ⟨HB, BK392, GW392, GE392⟩ := n_) | (refine be_ 3 44 #[.int .i64 a1_0, .int .i64 a1_1, .int .i64 a1_2, .slice A1_3 l1_3.length c1_3] ?_; intro gb393 hg w106 hbox hb; have n_ := ba1_ BK392 HB hbox hb hg; clear BK392 HB hb hbox hg; obtain ⟨BK392, HB, BK393, GW393, GE393, NB392_393, NB393_392⟩ := n_) | (refine be_ 4 28 #[.int .i64 0, .slice none 0 0] ?_; intro gb394 hg w107 hbox hb; have n_ := ba2_ BK392 BK393 HB hbox hb hg; clear BK392 BK393 HB hb hbox hg; obtain ⟨BK392, BK393, HB, BK394, GW394, GE394, NB392_394, NB394_392, NB393_394, NB394_393⟩ := n_; have hnb108 := NB392_393.out; have hnc108 := NB393_392.out; have hnb109 := NB392_394.out; have hnc109 := NB394_392.out; obtain ⟨hcz110_0, hcz110_1, hfz110_0, hfz110_1⟩ := bx2_ BK392) | ((with_reducible refine gate_callee (f := 59) rfl ?_); refine goesL_ (some 9) rfl rfl Try.func59 (by kernel_rfl) rfl #[.agg #[.int .i64 a0_0, .slice A0_1 l0_1.length c0_1]] rfl lm_ ?_; (with_reducible refine (impl_isPresentation.calls k a0_0 _ _ l0_1 false _ ?side1 ?side2 A3.out).mono ?_); (case side1 => exact cb_ HR0_1 HB); (case side2 => exact HC0_1.out); rintro e w111 ⟨rfl, hb⟩; refine ⟨_, rfl, ?_⟩; have n_ := bd3_ BK392 BK393 BK394 HB hb; clear BK392 BK393 BK394 HB; obtain ⟨BK392, BK393, BK394, HB⟩ := n_; (try clear hb); (try clear hb2); (try clear hk); (try clear hi); have hnb112 := NB394_393.out; have hnc112 := NB393_394.out; obtain ⟨hcz113_0, hcz113_1, hfz113_0, hfz113_1⟩ := bx2_ BK394))
  refine bodyPost_ret (results_ct rfl _ _ gb394 28 #[.int .i64 0, .slice none 0 0] (0, 0) _ rfl (by (with_reducible repeat (first | refine blk_drewN ?_ _ | refine blk_drew ?_ | refine blk_alloc ?_ _)); refine blk_put (cs := #[.int .i64 0, .slice none 0 0]) ?_ 1 _ rfl; (with_reducible repeat (first | refine blk_drewN ?_ _ | refine blk_drew ?_ | refine blk_alloc ?_ _)); refine blk_put (cs := #[.int .i64 0, .slice none 0 0]) ?_ 0 _ rfl; (with_reducible repeat (first | refine blk_drewN ?_ _ | refine blk_drew ?_ | refine blk_alloc ?_ _)); exact BK394.out) Try.underlying28 rfl (by kernel_rfl)) rfl ?_
  exact ⟨_, by first | rfl | (simp [errW_none, errW_some] <;> rfl) | (simp [*, errW_none, errW_some] <;> rfl), by first | exact Kd.S_nil _ _ _ _ _ | exact Kd.N_nil _ _ _ _ _ | exact Kd.V_nil _ _ _ _ _ | exact Kd.Q_nil _ _ _ _ _ | exact Kd.R_nil _ _ _ _ _, bb_ HB.out⟩

/-! ### laws_eqTietzeMove: function 26 -/
def laws_eqTietzeMove.f (k : Nat) (a0_0 : Int) (a0_1 : Int) (a0_2 : Int) (l0_3 : List Int) (a1_0 : Int) (a1_1 : Int) (a1_2 : Int) (l1_3 : List Int) : Option (Bool) := if a0_0 = a1_0 then (if a0_1 = a1_1 then (if a0_2 = a1_2 then ((laws_eqInt64S.f k l0_3 l1_3).bind fun t408 => (if t408 = true then (some true) else (some false))) else (some false)) else (some false)) else (some false)
theorem laws_eqTietzeMove.calls (k : Nat) (a0_0 : Int) (a0_1 : Int) (a0_2 : Int) (A0_3 : Option Addr) (c0_3 : Nat) (l0_3 : List Int) (a1_0 : Int) (a1_1 : Int) (a1_2 : Int) (A1_3 : Option Addr) (c1_3 : Nat) (l1_3 : List Int) (r : Bool) (w : World) (hr0_3 : Kd.C (Kd.int .i64) w A0_3 l0_3.length l0_3) (hc0_3 : l0_3.length ≤ c0_3) (hr1_3 : Kd.C (Kd.int .i64) w A1_3 l1_3.length l1_3) (hc1_3 : l1_3.length ≤ c1_3) (h : laws_eqTietzeMove.f k a0_0 a0_1 a0_2 l0_3 a1_0 a1_1 a1_2 l1_3 = some r) :
  Calls Try.prog 26 #[.agg #[.int .i64 a0_0, .int .i64 a0_1, .int .i64 a0_2, .slice A0_3 l0_3.length c0_3], .agg #[.int .i64 a1_0, .int .i64 a1_1, .int .i64 a1_2, .slice A1_3 l1_3.length c1_3]] w fun e w' => e = .returned (.bool r) ∧ Below w.heap.size w w' := by
 have hu44 := Try.underlying44
 have HR0_3 := am_ hr0_3
 have HC0_3 := am_ hc0_3
 clear hr0_3 hc0_3
 have HR1_3 := am_ hr1_3
 have HC1_3 := am_ hc1_3
 clear hr1_3 hc1_3
 have HB := am_ (Below.refl w.heap.size w)
 have H : (if a0_0 = a1_0 then (if a0_1 = a1_1 then (if a0_2 = a1_2 then ((laws_eqInt64S.f k l0_3 l1_3).bind fun t408 => (if t408 = true then (some true) else (some false))) else (some false)) else (some false)) else (some false)) = some r := h
 clear h
 by_cases c3 : a0_0 = a1_0
 ·rw [if_pos c3] at H
  have c3b0 : (a0_0 == a1_0) = true := beq_iff_eq.mpr c3
  have c3b1 : (a0_0 != a1_0) = false := bne_eq_false_iff_eq.mpr c3
  clear c3
  by_cases c4 : a0_1 = a1_1
  ·rw [if_pos c4] at H
   have c4b0 : (a0_1 == a1_1) = true := beq_iff_eq.mpr c4
   have c4b1 : (a0_1 != a1_1) = false := bne_eq_false_iff_eq.mpr c4
   clear c4
   by_cases c5 : a0_2 = a1_2
   ·rw [if_pos c5] at H
    have c5b0 : (a0_2 == a1_2) = true := beq_iff_eq.mpr c5
    have c5b1 : (a0_2 != a1_2) = false := bne_eq_false_iff_eq.mpr c5
    clear c5
    replace H := Option.bind_eq_some_iff.mp H
    obtain ⟨t408, A60, H⟩ := H
    replace H : (if t408 = true then (some true) else (some false)) = some r := H
    have A6 := am_ A60
    clear A60
    by_cases c7 : t408 = true
    ·subst c7
     have H1 : (some true) = some r := by rw [if_pos rfl] at H; exact H
     clear H
     have H := H1
     clear H1
     obtain rfl := Option.some.inj H
     go_enter Try.func26, Try.ntmps26
     go_wp2_with (first | (refine be_ 2 44 #[.int .i64 a0_0, .int .i64 a0_1, .int .i64 a0_2, .slice A0_3 l0_3.length c0_3] ?_; intro gb406 hg w8 hbox hb; have n_ := ba0_ HB hbox hb hg; clear  HB hb hbox hg; obtain ⟨HB, BK406, GW406, GE406⟩ := n_) | (refine be_ 3 44 #[.int .i64 a1_0, .int .i64 a1_1, .int .i64 a1_2, .slice A1_3 l1_3.length c1_3] ?_; intro gb407 hg w9 hbox hb; have n_ := ba1_ BK406 HB hbox hb hg; clear BK406 HB hb hbox hg; obtain ⟨BK406, HB, BK407, GW407, GE407, NB406_407, NB407_406⟩ := n_; have hnb10 := NB406_407.out; have hnc10 := NB407_406.out; obtain ⟨hcz11_0, hcz11_1, hcz11_2, hcz11_3, hfz11_0, hfz11_1, hfz11_2, hfz11_3⟩ := bx4_ BK406; obtain ⟨hcz12_0, hcz12_1, hcz12_2, hcz12_3, hfz12_0, hfz12_1, hfz12_2, hfz12_3⟩ := bx4_ BK407) | ((with_reducible refine gate_callee (f := 45) rfl ?_); refine goesL_ (some 24) rfl rfl Try.func45 (by kernel_rfl) rfl #[.slice A0_3 l0_3.length c0_3, .slice A1_3 l1_3.length c1_3] rfl lm_ ?_; (with_reducible refine (laws_eqInt64S.calls k _ _ l0_3 _ _ l1_3 true _ ?side1 ?side2 ?side3 ?side4 A6.out).mono ?_); (case side1 => exact cb_ HR0_3 HB); (case side2 => exact HC0_3.out); (case side3 => exact cb_ HR1_3 HB); (case side4 => exact HC1_3.out); rintro e w' ⟨rfl, ⟨nd, rfl⟩⟩; refine ⟨_, rfl, ?_⟩))
     go_ret
     exact ⟨by first | rfl | (simp [errW_none, errW_some] <;> rfl) | (simp [*, errW_none, errW_some] <;> rfl), bb_ HB.out⟩
    ·replace c7 := Bool.eq_false_iff.mpr c7
     subst c7
     have H1 : (some false) = some r := by rw [if_neg (show ¬ (false = true) by decide)] at H; exact H
     clear H
     have H := H1
     clear H1
     obtain rfl := Option.some.inj H
     go_enter Try.func26, Try.ntmps26
     go_wp2_with (first | (refine be_ 2 44 #[.int .i64 a0_0, .int .i64 a0_1, .int .i64 a0_2, .slice A0_3 l0_3.length c0_3] ?_; intro gb406 hg w13 hbox hb; have n_ := ba0_ HB hbox hb hg; clear  HB hb hbox hg; obtain ⟨HB, BK406, GW406, GE406⟩ := n_) | (refine be_ 3 44 #[.int .i64 a1_0, .int .i64 a1_1, .int .i64 a1_2, .slice A1_3 l1_3.length c1_3] ?_; intro gb407 hg w14 hbox hb; have n_ := ba1_ BK406 HB hbox hb hg; clear BK406 HB hb hbox hg; obtain ⟨BK406, HB, BK407, GW407, GE407, NB406_407, NB407_406⟩ := n_; have hnb15 := NB406_407.out; have hnc15 := NB407_406.out; obtain ⟨hcz16_0, hcz16_1, hcz16_2, hcz16_3, hfz16_0, hfz16_1, hfz16_2, hfz16_3⟩ := bx4_ BK406; obtain ⟨hcz17_0, hcz17_1, hcz17_2, hcz17_3, hfz17_0, hfz17_1, hfz17_2, hfz17_3⟩ := bx4_ BK407) | ((with_reducible refine gate_callee (f := 45) rfl ?_); refine goesL_ (some 24) rfl rfl Try.func45 (by kernel_rfl) rfl #[.slice A0_3 l0_3.length c0_3, .slice A1_3 l1_3.length c1_3] rfl lm_ ?_; (with_reducible refine (laws_eqInt64S.calls k _ _ l0_3 _ _ l1_3 false _ ?side1 ?side2 ?side3 ?side4 A6.out).mono ?_); (case side1 => exact cb_ HR0_3 HB); (case side2 => exact HC0_3.out); (case side3 => exact cb_ HR1_3 HB); (case side4 => exact HC1_3.out); rintro e w' ⟨rfl, ⟨nd, rfl⟩⟩; refine ⟨_, rfl, ?_⟩))
     go_ret
     exact ⟨by first | rfl | (simp [errW_none, errW_some] <;> rfl) | (simp [*, errW_none, errW_some] <;> rfl), bb_ HB.out⟩
   ·rw [if_neg c5] at H
    have c5b0 : (a0_2 == a1_2) = false := beq_eq_false_iff_ne.mpr c5
    have c5b1 : (a0_2 != a1_2) = true := bne_iff_ne.mpr c5
    obtain rfl := Option.some.inj H
    go_enter Try.func26, Try.ntmps26
    go_wp2_with (first | (refine be_ 2 44 #[.int .i64 a0_0, .int .i64 a0_1, .int .i64 a0_2, .slice A0_3 l0_3.length c0_3] ?_; intro gb406 hg w18 hbox hb; have n_ := ba0_ HB hbox hb hg; clear  HB hb hbox hg; obtain ⟨HB, BK406, GW406, GE406⟩ := n_) | (refine be_ 3 44 #[.int .i64 a1_0, .int .i64 a1_1, .int .i64 a1_2, .slice A1_3 l1_3.length c1_3] ?_; intro gb407 hg w19 hbox hb; have n_ := ba1_ BK406 HB hbox hb hg; clear BK406 HB hb hbox hg; obtain ⟨BK406, HB, BK407, GW407, GE407, NB406_407, NB407_406⟩ := n_; have hnb20 := NB406_407.out; have hnc20 := NB407_406.out; obtain ⟨hcz21_0, hcz21_1, hcz21_2, hcz21_3, hfz21_0, hfz21_1, hfz21_2, hfz21_3⟩ := bx4_ BK406; obtain ⟨hcz22_0, hcz22_1, hcz22_2, hcz22_3, hfz22_0, hfz22_1, hfz22_2, hfz22_3⟩ := bx4_ BK407))
    go_ret
    exact ⟨by first | rfl | (simp [errW_none, errW_some] <;> rfl) | (simp [*, errW_none, errW_some] <;> rfl), bb_ HB.out⟩
  ·rw [if_neg c4] at H
   have c4b0 : (a0_1 == a1_1) = false := beq_eq_false_iff_ne.mpr c4
   have c4b1 : (a0_1 != a1_1) = true := bne_iff_ne.mpr c4
   obtain rfl := Option.some.inj H
   go_enter Try.func26, Try.ntmps26
   go_wp2_with (first | (refine be_ 2 44 #[.int .i64 a0_0, .int .i64 a0_1, .int .i64 a0_2, .slice A0_3 l0_3.length c0_3] ?_; intro gb406 hg w23 hbox hb; have n_ := ba0_ HB hbox hb hg; clear  HB hb hbox hg; obtain ⟨HB, BK406, GW406, GE406⟩ := n_) | (refine be_ 3 44 #[.int .i64 a1_0, .int .i64 a1_1, .int .i64 a1_2, .slice A1_3 l1_3.length c1_3] ?_; intro gb407 hg w24 hbox hb; have n_ := ba1_ BK406 HB hbox hb hg; clear BK406 HB hb hbox hg; obtain ⟨BK406, HB, BK407, GW407, GE407, NB406_407, NB407_406⟩ := n_; have hnb25 := NB406_407.out; have hnc25 := NB407_406.out; obtain ⟨hcz26_0, hcz26_1, hcz26_2, hcz26_3, hfz26_0, hfz26_1, hfz26_2, hfz26_3⟩ := bx4_ BK406; obtain ⟨hcz27_0, hcz27_1, hcz27_2, hcz27_3, hfz27_0, hfz27_1, hfz27_2, hfz27_3⟩ := bx4_ BK407))
   go_ret
   exact ⟨by first | rfl | (simp [errW_none, errW_some] <;> rfl) | (simp [*, errW_none, errW_some] <;> rfl), bb_ HB.out⟩
 ·rw [if_neg c3] at H
  have c3b0 : (a0_0 == a1_0) = false := beq_eq_false_iff_ne.mpr c3
  have c3b1 : (a0_0 != a1_0) = true := bne_iff_ne.mpr c3
  obtain rfl := Option.some.inj H
  go_enter Try.func26, Try.ntmps26
  go_wp2_with (first | (refine be_ 2 44 #[.int .i64 a0_0, .int .i64 a0_1, .int .i64 a0_2, .slice A0_3 l0_3.length c0_3] ?_; intro gb406 hg w28 hbox hb; have n_ := ba0_ HB hbox hb hg; clear  HB hb hbox hg; obtain ⟨HB, BK406, GW406, GE406⟩ := n_) | (refine be_ 3 44 #[.int .i64 a1_0, .int .i64 a1_1, .int .i64 a1_2, .slice A1_3 l1_3.length c1_3] ?_; intro gb407 hg w29 hbox hb; have n_ := ba1_ BK406 HB hbox hb hg; clear BK406 HB hb hbox hg; obtain ⟨BK406, HB, BK407, GW407, GE407, NB406_407, NB407_406⟩ := n_; have hnb30 := NB406_407.out; have hnc30 := NB407_406.out; obtain ⟨hcz31_0, hcz31_1, hcz31_2, hcz31_3, hfz31_0, hfz31_1, hfz31_2, hfz31_3⟩ := bx4_ BK406; obtain ⟨hcz32_0, hcz32_1, hcz32_2, hcz32_3, hfz32_0, hfz32_1, hfz32_2, hfz32_3⟩ := bx4_ BK407))
  go_ret
  exact ⟨by first | rfl | (simp [errW_none, errW_some] <;> rfl) | (simp [*, errW_none, errW_some] <;> rfl), bb_ HB.out⟩

end Go.Proofs.Ytbcdngjajjgmkaa.PFnExactApplyTietze
