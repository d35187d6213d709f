/- Written by this session's program out of the kit's print and this session's contracts. -/
import Derived.Test.YtbcdngjajjgmkaaVFnExactApplyTietzePx0
import Derived.Test.YtbcdngjajjgmkaaVFnExactApplyTietzePx10
import Derived.Test.YtbcdngjajjgmkaaVFnExactApplyTietzePx11
import Derived.Test.YtbcdngjajjgmkaaVFnExactApplyTietzePx12
import Derived.Test.YtbcdngjajjgmkaaVFnExactApplyTietzePx13
namespace Go.Proofs.Ytbcdngjajjgmkaa.PFnExactApplyTietze
open Go.RowKit Go.Proofs.YtbcdngjajjgmkaaW.PrintWords Go.Proofs.YtbcdngjajjgmkaaW.PrintLast Go.Proofs.YtbcdngjajjgmkaaW.PrintMore
set_option maxHeartbeats 16000000
set_option maxRecDepth 100000
set_option linter.unusedVariables false
set_option linter.unusedSimpArgs false

theorem impl_moved.calls_1 (k : Nat) (a0_0 : Int) (A0_1 : Option Addr) (c0_1 : Nat) (l0_1 : List (List Int)) (a1_1 : Int) (a1_2 : Int) (A1_3 : Option Addr) (c1_3 : Nat) (l1_3 : List Int) (cp rows r : List (List Int)) (w : World) (hr0_1 : Kd.C (Kd.slice 2 (Kd.int .i64)) w A0_1 l0_1.length l0_1) (hc0_1 : l0_1.length ≤ c0_1) (hr1_3 : Kd.C (Kd.int .i64) w A1_3 l1_3.length l1_3) (hc1_3 : l1_3.length ≤ c1_3)
  (hlen : l0_1.length ≤ 1000) (hrl : ∀ x ∈ l0_1, x.length ≤ 1000) (hwl : l1_3.length ≤ 2000000) (hcp : impl_copyLists.f k l0_1 = some cp) (hcl : cp.length = l0_1.length) (hi : 0 ≤ a1_1 ∧ a1_1 < (l0_1.length : Int)) (hrows : rows = cp.set a1_1.toNat (invWord (rd_L1 l0_1 a1_1))) (hmr : mapRed k rows = some r) :
  Calls Try.prog 68 #[.agg #[.int .i64 a0_0, .slice A0_1 l0_1.length c0_1], .agg #[.int .i64 1, .int .i64 a1_1, .int .i64 a1_2, .slice A1_3 l1_3.length c1_3]] w fun e w' => ∃ v0_ : Value, e = .returned (.agg #[.int .i64 a0_0, v0_]) ∧ Kd.S (Kd.slice 2 (Kd.int .i64)) 39 w' w.heap.size (fun _ => True) v0_ r ∧ Below w.heap.size w w' := by
 have hbig := hr0_1.2.1
 have HR0 := Aside0.mk hr0_1
 have HC0 := Aside0.mk hc0_1
 have HR3 := Aside0.mk hr1_3
 have HC3 := Aside0.mk hc1_3
 have HLEN := Aside0.mk (And.intro hlen (And.intro hrl hwl))
 have HCP := Aside0.mk hcp
 have HCL := Aside0.mk hcl
 have HROWS := Aside0.mk hrows
 have HMR := Aside0.mk (mapRed_at k rows r hmr)
 obtain ⟨i, rfl⟩ : ∃ i : Nat, a1_1 = i := ⟨a1_1.toNat, by have := hi; omega⟩
 have hi1 : i < l0_1.length := by have := hi; omega
 have HI := Aside0.mk hi1
 obtain ⟨row, hrow⟩ : ∃ row, row = rd_L1 l0_1 (i : Int) := ⟨_, rfl⟩
 have hrow2 : l0_1[i] = row := by rw [hrow]; simp [rd_L1, hi1]
 rw [← hrow, Int.toNat_natCast] at HROWS
 obtain ⟨ad, A8, c8, ea, hx0, hcr, hCr⟩ := at_rowC hr0_1 i hi1
 cases ea
 rw [hrow2] at hx0 hcr hCr
 have HCR := Aside0.mk hCr
 have HCRL := Aside0.mk hcr
 have HX0 := Aside0.mk hx0
 have HRL := Aside0.mk (show row.length ≤ 1000 by rw [← hrow2]; exact hrl _ (List.getElem_mem hi1))
 have p1 : (0 ≤ (i : Int)) = True := eq_true (by omega)
 have p2 : ((i : Int) < (l0_1.length : Int)) = True := eq_true (by omega)
 have p3 : ((i : Int) < (cp.length : Int)) = True := eq_true (by omega)
 clear hx0 hcr hCr hrow hrow2 hi1
 clear hr0_1 hc0_1 hr1_3 hc1_3 hlen hrl hwl hcp hcl hrows hmr hi
 go_enter Try.func68, Try.ntmps68
 go_wp2_with (first
  | (refine be_ 2 28 #[.int .i64 a0_0, .slice (some ad) l0_1.length c0_1] ?_; intro b2 hg w2 hbox hb; have B2 := Aside0.mk hbox; have G2 := Aside0.mk (show w.heap.size ≤ b2 by rw [hg]; exact Nat.le_refl _); have HB2 := Aside0.mk hb; clear hg hbox hb)
  | (refine be_ 3 44 #[.int .i64 1, .int .i64 (i : Int), .int .i64 a1_2, .slice A1_3 l1_3.length c1_3] ?_; intro b3 hg w3 hbox hb; have B23 := Aside0.mk (blk_below B2.out hb); have G3 := Aside0.mk (show w.heap.size ≤ b3 by rw [hg]; exact HB2.out.size); have B3 := Aside0.mk hbox; have HB3 := Aside0.mk (below_step HB2.out hb); clear hg hbox hb B2 HB2)
  | (refine be_ 4 28 #[.int .i64 0, .slice none 0 0] ?_; intro b4 hg w4 hbox hb; have B24 := Aside0.mk (blk_below B23.out hb); have B34 := Aside0.mk (blk_below B3.out hb); have G4 := Aside0.mk (show w.heap.size ≤ b4 by rw [hg]; exact HB3.out.size); have B4 := Aside0.mk hbox; have HB4 := Aside0.mk (below_step HB3.out hb); clear hg hbox hb B23 B3 HB3))
 have HB5 := Aside0.mk (below_drew1 HB4.out)
 have B25 := Aside0.mk (blk_drew B24.out)
 have B35 := Aside0.mk (blk_drew B34.out)
 have B45 := Aside0.mk (blk_drew B4.out)
 refine start_ (n := 8) (S := fun w' => w'.cell? ⟨b2, 0, none⟩ = some (.int .i64 a0_0) ∧ w'.cell? ⟨b2, 1, none⟩ = some (.slice (some ad) l0_1.length c0_1)) (ds := []) (kA_ 8 0) (by kernel_rfl) rfl (by kernel_rfl) ⟨(blk_cell B25.out 0).trans rfl, (blk_cell B25.out 1).trans rfl⟩ (fun hHeld => ?_)
 clear HB4 B24 B34 B4
 generalize w4.drew = w5 at HB5 B25 B35 B45 hHeld ⊢
 refine kz_ 0 9 (kA_ 8 1) ?_
 refine kt_ 1 10 (kA_ 8 3) hHeld ?_
 refine kz_ 2 11 (kA_ 8 7) ?_
 refine kt_ 3 12 (kA_ 8 15) hHeld ?_
 have HCALL := Aside0.mk fun (W : World) (hW : Below w.heap.size w W) => impl_copyLists.calls k (some ad) c0_1 l0_1 cp W (Kd.C_below HR0.out hW) HC0.out HCP.out
 refine join_ (σ := Value × Nat) 1 (kA_ 8 127) (fun s_ => [(13, s_.1), (5, .pointer (some ⟨s_.2, 0, none⟩)), (14, .agg #[.int .i64 a0_0, s_.1])]) (fun s_ w' => (∃ A c, s_.1 = .slice A cp.length c) ∧ FR0 w b2 b3 b4 s_.2 #[.int .i64 a0_0, .slice (some ad) l0_1.length c0_1] #[.int .i64 1, .int .i64 (i : Int), .int .i64 a1_2, .slice A1_3 l1_3.length c1_3] s_.1 cp w') ?_ ?_
 rotate_left
 ·intro hCont
  refine two_ (i := 4) (j := 6) (Ni := some 13) (Nj := some 5) (kA_ 8 31) (kA_ 8 79) rfl rfl rfl rfl (by kernel_rfl) (by decide) (by decide) (fun K hK => ?_) (fun K hK => ?_)
  ·go_simp
   go_at_call 44
   refine (HCALL.out _ HB5.out).mono ?_
   rintro e w6 ⟨u, rfl, ho, hb⟩
   obtain ⟨Au, cu, eu⟩ := Kd.S_slice ho
   subst eu
   have HS := Aside0.mk (Kd.S_lower ho HB5.out.size)
   have HB6 := Aside0.mk (below_step HB5.out hb)
   have B26 := Aside0.mk (blk_below B25.out hb)
   have B36 := Aside0.mk (blk_below B35.out hb)
   have B46 := Aside0.mk (blk_below B45.out hb)
   clear ho hb HB5 B25 B35 B45
   refine hK.out _ _ ⟨(blk_cell B26.out 0).trans rfl, (blk_cell B26.out 1).trans rfl⟩ (fun hHeld => ?_)
   clear hK K
   refine kz_ 5 14 (kA_ 8 63) ?_
   refine oa_ 6 5 (kA_ 8 127) (fun K hK => ?_)
   refine box_step ?hg (N := 5) ?hd (cs := #[.int .i64 0, .slice none 0 0]) (t := 28) ?hr ?_; (case hd => rfl); (case hg => rfl); (case hr => first | (go_simp; done) | (go_simp; rfl))
   intro b5 hg w7 hbox hb
   have HF := Aside0.mk (show FR0 w b2 b3 b4 b5 #[.int .i64 a0_0, .slice (some ad) l0_1.length c0_1] #[.int .i64 1, .int .i64 (i : Int), .int .i64 a1_2, .slice A1_3 l1_3.length c1_3] (.slice Au cp.length cu) cp w7 from ⟨blk_below B26.out hb, blk_below B36.out hb, blk_below B46.out hb, hbox, Kd.S_below HS.out hb, below_step HB6.out hb, by rw [hg]; exact Nat.ne_of_lt (blk_lt B26.out), by rw [hg]; exact Nat.ne_of_lt (blk_lt B36.out), by rw [hg]; exact Nat.ne_of_lt (blk_lt B46.out), G4.out, by rw [hg]; exact HB6.out.size⟩)
   clear hg hbox hb HS HB6 B26 B36 B46
   refine hK.out _ _ ⟨(blk_cell HF.out.1 0).trans rfl, (blk_cell HF.out.1 1).trans rfl⟩ (fun hHeld => ?_)
   clear hK K
   refine nm_ 5 ?_
   exact norm_ (by simp only [putAll, Act.put, List.setIfInBounds_toArray, List.set_cons_zero, List.set_cons_succ]) (hCont (.slice Au cp.length cu, b5) _ ⟨⟨_, _, rfl⟩, HF.out⟩)
  ·refine box_step ?hg (N := 5) ?hd (cs := #[.int .i64 0, .slice none 0 0]) (t := 28) ?hr ?_; (case hd => rfl); (case hg => rfl); (case hr => first | (go_simp; done) | (go_simp; rfl))
   intro b5 hg w6 hbox hb
   have HB6 := Aside0.mk (below_step HB5.out hb)
   have B26 := Aside0.mk (blk_below B25.out hb)
   have B36 := Aside0.mk (blk_below B35.out hb)
   have B46 := Aside0.mk (blk_below B45.out hb)
   have B56 := Aside0.mk hbox
   have HD := Aside0.mk (show FD w b2 b3 b4 b5 from ⟨by rw [hg]; exact Nat.ne_of_lt (blk_lt B25.out), by rw [hg]; exact Nat.ne_of_lt (blk_lt B35.out), by rw [hg]; exact Nat.ne_of_lt (blk_lt B45.out), G4.out, by rw [hg]; exact HB5.out.size⟩)
   clear hg hbox hb HB5 B25 B35 B45
   refine hK.out _ _ ⟨(blk_cell B26.out 0).trans rfl, (blk_cell B26.out 1).trans rfl⟩ (fun hHeld => ?_)
   clear hK K
   refine nm_ 5 ?_
   refine oa_ 4 13 (kA_ 8 95) (fun K hK => ?_)
   go_simp
   go_at_call 44
   refine (HCALL.out _ HB6.out).mono ?_
   rintro e w7 ⟨u, rfl, ho, hb⟩
   obtain ⟨Au, cu, eu⟩ := Kd.S_slice ho
   subst eu
   have HF := Aside0.mk (show FR0 w b2 b3 b4 b5 #[.int .i64 a0_0, .slice (some ad) l0_1.length c0_1] #[.int .i64 1, .int .i64 (i : Int), .int .i64 a1_2, .slice A1_3 l1_3.length c1_3] (.slice Au cp.length cu) cp w7 from ⟨blk_below B26.out hb, blk_below B36.out hb, blk_below B46.out hb, blk_below B56.out hb, Kd.S_lower ho HB6.out.size, below_step HB6.out hb, HD.out⟩)
   clear ho hb HB6 B26 B36 B46 B56
   refine hK.out _ _ ⟨(blk_cell HF.out.1 0).trans rfl, (blk_cell HF.out.1 1).trans rfl⟩ (fun hHeld => ?_)
   clear hK K
   refine kz_ 5 14 (kA_ 8 127) ?_
   exact norm_ (by simp only [putAll, Act.put, List.setIfInBounds_toArray, List.set_cons_zero, List.set_cons_succ]) (hCont (.slice Au cp.length cu, b5) _ ⟨⟨_, _, rfl⟩, HF.out⟩)
 rintro ⟨u, b5⟩ w7 ⟨⟨Au, cu, eu⟩, hF⟩
 simp only at eu hF
 subst eu
 have HF0 := Aside0.mk hF
 have HD := Aside0.mk hF.2.2.2.2.2.2
 clear hF HCALL HB5 B25 B35 B45 hHeld
 refine norm_ (a' := ?_) ?_ ?_
 rotate_left
 ·simp only [putAll, Act.put, List.setIfInBounds_toArray, List.set_cons_zero, List.set_cons_succ]
  rfl
 refine one_ (i := 7) (N := none) (kA_ 8 255) rfl rfl (by kernel_rfl) (by decide) (fun K hK => ?_)
 have y0 : w7.cell? ⟨b5, 0, none⟩ = some (.int .i64 0) := (blk_cell HF0.out.2.2.2.1 0).trans rfl
 have y1 : w7.cell? ⟨b5, 1, none⟩ = some (.slice none 0 0) := (blk_cell HF0.out.2.2.2.1 1).trans rfl
 have y2 := blk_frozen HF0.out.2.2.2.1 0
 have y3 := blk_frozen HF0.out.2.2.2.1 1
 refine skip_ (w1 := ?_) (by rfl) rfl ?_ ?_
 rotate_left
 ·go_simp
  rfl
 have HF := Aside0.mk (HF0.out.put a0_0)
 refine hK.out _ _ ⟨(blk_cell HF.out.p 0).trans rfl, (blk_cell HF.out.p 1).trans rfl⟩ (fun hHeld => ?_)
 clear hK K y0 y1 y2 y3 HF0 hHeld
 refine done_ (by kernel_rfl) ?_
 generalize ((w7.setCell ⟨b5, 0, none⟩ (.int .i64 a0_0)).setCell ⟨b5, 1, none⟩ (.slice Au cp.length cu)) = w8 at HF ⊢
 have yk : w8.cell? ⟨b3, 0, none⟩ = some (.int .i64 1) := (blk_cell HF.out.m 0).trans rfl
 obtain ⟨go, cap_, eg, _, _, _, _⟩ := Kd.S_form HF.out.s (by have := HCL.out; have := HI.out; omega)
 injection eg with e1 e2 e3
 subst e1 e3
 clear e2
 go_upto_region 4 with fail
 have hb1 := below_drew1 (Below.refl w8.heap.size w8)
 have HF1 := Aside0.mk (HF.out.below hb1)
 clear yk
 have HINV := Aside0.mk fun (W : World) (hW : Below w.heap.size w W) => impl_inverse.calls A8 c8 row (invWord row) W (Kd.C_below HCR.out hW) HCRL.out (if_pos (by have := HRL.out; omega))
 refine start_ (n := 13) (S := fun w' => w'.cell? ⟨b5, 1, none⟩ = some (.slice (some ⟨go, 0, none⟩) cp.length cu) ∧ w'.cell? ⟨b3, 1, none⟩ = some (.int .i64 (i : Int)) ∧ w'.cell? ⟨b2, 1, none⟩ = some (.slice (some ad) l0_1.length c0_1) ∧ w'.cell? (ad.add i) = some (.slice A8 row.length c8)) (ds := [12]) (kA_ 13 0) (by kernel_rfl) rfl (by kernel_rfl) ⟨(blk_cell HF1.out.o 1).trans rfl, (blk_cell HF1.out.m 1).trans rfl, (blk_cell HF1.out.p 1).trans rfl, (HF1.out.b.cell (World.block_lt_of_cell? w _ HX0.out)).trans HX0.out⟩ (fun hHeld => ?_)
 clear HF hb1
 generalize w8.drew = w11 at HF1 hHeld ⊢
 refine kz_ 0 19 (kA_ 13 1) ?_
 refine kt_ 1 20 (kA_ 13 3) hHeld ?_
 refine kz_ 2 21 (kA_ 13 7) ?_
 refine kt_ 3 22 (kA_ 13 15) hHeld ?_
 refine kz_ 4 23 (kA_ 13 31) ?_
 refine kt_ 5 24 (kA_ 13 63) hHeld ?_
 refine kz_ 6 25 (kA_ 13 127) ?_
 refine kt_ 7 26 (kA_ 13 255) hHeld ?_
 refine kz_ 8 27 (kA_ 13 511) ?_
 refine kt_ 9 28 (kA_ 13 1023) hHeld ?_
 refine oa_ 10 29 (kA_ 13 2047) (fun K hK => ?_)
 go_simp
 go_at_call 101
 refine (HINV.out _ HF1.out.b).mono ?_
 rintro e w12 ⟨v12, rfl, ho12, hb12⟩
 have HS2 := Aside0.mk (Kd.S_elder' HF1.out.s (Kd.R_base ho12) hb12)
 have HF2 := Aside0.mk (HF1.out.below hb12)
 have HN2 := Aside0.mk (Kd.R_lower ho12 HF1.out.b.size)
 obtain ⟨An, cn, en⟩ := Kd.R_slice ho12
 obtain ⟨mn, hmn⟩ : ∃ q, q = (invWord row).length := ⟨_, rfl⟩
 rw [← hmn] at en
 clear hmn
 subst en
 clear ho12 hb12 HINV HF1
 refine hK.out _ _ ⟨(blk_cell HF2.out.o 1).trans rfl, (blk_cell HF2.out.m 1).trans rfl, (blk_cell HF2.out.p 1).trans rfl, (HF2.out.b.cell (World.block_lt_of_cell? w _ HX0.out)).trans HX0.out⟩ (fun hHeld2 => ?_)
 clear hK K hHeld
 refine kz_ 11 30 (kA_ 13 4095) ?_
 have HF3 := Aside0.mk (FR.elem HF2.out HS2.out (i := i) (by have := HCL.out; have := HI.out; omega) HN2.out)
 obtain ⟨Ax, mx_, cx, x1, x2⟩ := S_at_ HF2.out.s i (by have := HCL.out; have := HI.out; omega)
 refine last_ (i := 12) (N := none) (kA_ 13 8191) rfl rfl (by kernel_rfl) (by decide) (fun K hK => ?_)
 refine skip_ (w1 := ?_) (by rfl) rfl ?_ ?_
 rotate_left
 ·go_simp
  rfl
 refine hK.out _ _ ?_
 clear hK K x1 x2 HS2 HF2 HN2 hHeld2
 refine done_ (by kernel_rfl) ?_
 generalize (w12.setCell ⟨go, i, none⟩ (.slice An mn cn)) = w14 at HF3 ⊢
 have HF := Aside0.mk (show FR w b2 b3 b4 b5 #[.int .i64 a0_0, .slice (some ad) l0_1.length c0_1] #[.int .i64 1, .int .i64 (i : Int), .int .i64 a1_2, .slice A1_3 l1_3.length c1_3] a0_0 (.slice (some ⟨go, 0, none⟩) cp.length cu) rows w14 by rw [HROWS.out]; exact HF3.out)
 clear HF3
 have HRS := Aside0.mk (show rows.length ≤ 1001 by rw [HROWS.out, List.length_set]; have := HCL.out; have := HLEN.out.1; omega)
 obtain ⟨Au, hAu⟩ : ∃ q, q = (some ⟨go, 0, none⟩ : Option Addr) := ⟨_, rfl⟩
 obtain ⟨mu, hmu_⟩ : ∃ q, q = cp.length := ⟨_, rfl⟩
 rw [← hAu, ← hmu_] at HF ⊢
 clear hAu hmu_ p3
 have z1 : w14.cell? ⟨b5, 1, none⟩ = some (.slice Au mu cu) := (blk_cell HF.out.o 1).trans rfl
 have HMU := Aside0.mk (Kd.S_reads' HF.out.s).1
 have HSM := Aside0.mk (show mu ≤ 1001 by rw [HMU.out]; exact HRS.out)
 go_wp2
 clear z1
 have HFs := Aside0.mk (show FR w b2 b3 b4 b5 #[.int .i64 a0_0, .slice (some ad) l0_1.length c0_1] #[.int .i64 1, .int .i64 (i : Int), .int .i64 a1_2, .slice A1_3 l1_3.length c1_3] a0_0 (.slice Au mu cu) (redTo r rows 0) w14 by simpa [redTo] using HF.out)
 go_loopg [7, 8, 113] mu (fun gg _ _ s113 wr => ∃ kk : Nat, kk ≤ mu ∧ mu - kk ≤ gg ∧ s113 = .int .i64 kk ∧ Aside0 (FR w b2 b3 b4 b5 #[.int .i64 a0_0, .slice (some ad) l0_1.length c0_1] #[.int .i64 1, .int .i64 (i : Int), .int .i64 a1_2, .slice A1_3 l1_3.length c1_3] a0_0 (.slice Au mu cu) (redTo r rows kk) wr))
 case atStart => exact ⟨0, Nat.zero_le _, by omega, rfl, HFs⟩
 case round =>
  clear HF HFs
  obtain ⟨kk, hkk, hg, rfl, HF⟩ := hrel
  have hmu := HMU.out
  have hml := HMR.out.1
  by_cases hlt : kk < mu
  ·have hltz : (kk : Int) < (mu : Int) := by omega
   have hkl : kk < rows.length := by omega
   have hkr : kk < r.length := by omega
   have hll := redTo_len r rows kk hml (by omega)
   obtain ⟨go, cap, eg, gb, gl, cl, HG⟩ := Kd.S_form HF.out.s (by omega)
   injection eg with e1 e2 e3
   subst e1 e3
   have hC := (Kd.S_reads' HF.out.s).2.2
   obtain ⟨ad2, A', c', e, hx0, hle, hcrow⟩ := at_rowC hC kk (by omega)
   injection e with e
   subst e
   rw [redTo_at r rows kk hml hkl (by omega)] at hx0 hle hcrow
   rw [add_plain] at hx0
   have z1 : wr.cell? ⟨b5, 1, none⟩ = some (.slice (some ⟨go, 0, none⟩) mu cu) := (blk_cell HF.out.o 1).trans rfl
   have HSET := Aside0.mk (redTo_set r rows kk hml hkl hkr)
   have HCALL := Aside0.mk fun (W : World) (hW : Below wr.heap.size wr W) => impl_reduced.calls k A' c' rows[kk] r[kk] W (Kd.C_below hcrow hW) hle (HMR.out.2 kk hkl hkr)
   have HLL := Aside0.mk hll
   generalize rows[kk] = row2 at hx0 hle hcrow HCALL
   generalize hrk : r[kk] = tn at HSET HCALL
   clear hmu hml hkl e2 gb gl cl HG hC hle hcrow hll hrk hkr
   go_upto_region 21 with fail
   have hb1 := below_drew1 (Below.refl wr.heap.size wr)
   have HF1 := Aside0.mk (HF.out.below hb1)
   have HC1 := Aside0.mk (HCALL.out _ hb1)
   have pk2 : ((kk : Int) < (mu : Int)) = True := eq_true hltz
   refine start_ (n := 7) (S := fun w' => w'.cell? ⟨b5, 1, none⟩ = some (.slice (some ⟨go, 0, none⟩) mu cu)) (ds := [6]) (kA_ 7 0) (by kernel_rfl) rfl (by kernel_rfl) ((blk_cell HF1.out.o 1).trans rfl) (fun hHeld => ?_)
   clear HF hb1 hx0 z1 HCALL
   generalize wr.drew = w11 at HF1 HC1 hHeld ⊢
   refine kz_ 0 118 (kA_ 7 1) ?_
   refine kt_ 1 119 (kA_ 7 3) hHeld ?_
   refine kz_ 2 120 (kA_ 7 7) ?_
   refine kz_ 3 121 (kA_ 7 15) ?_
   refine oa_ 4 122 (kA_ 7 31) (fun K hK => ?_)
   go_simp
   go_at_call 58
   refine HC1.out.mono ?_
   rintro e w12 ⟨v12, rfl, ho12, hb12⟩
   have HS2 := Aside0.mk (Kd.S_elder' HF1.out.s (Kd.R_base ho12) hb12)
   have HF2 := Aside0.mk (HF1.out.below hb12)
   have HN2 := Aside0.mk (Kd.R_lower ho12 HF1.out.b.size)
   obtain ⟨An, cn, en⟩ := Kd.R_slice ho12
   obtain ⟨mn, hmn⟩ : ∃ q, q = tn.length := ⟨_, rfl⟩
   rw [← hmn] at en
   clear hmn
   subst en
   clear ho12 hb12 HC1 HF1
   refine hK.out _ _ ((blk_cell HF2.out.o 1).trans rfl) (fun hHeld2 => ?_)
   clear hK K hHeld
   refine kz_ 5 123 (kA_ 7 63) ?_
   have HF3 := Aside0.mk (FR.elem HF2.out HS2.out (i := kk) (by have := HLL.out; have := HMU.out; omega) HN2.out)
   rw [HSET.out] at HF3
   obtain ⟨Ax, mx_, cx, x1, x2⟩ := S_at_ HF2.out.s kk (by have := HLL.out; have := HMU.out; omega)
   refine last_ (i := 6) (N := none) (kA_ 7 127) rfl rfl (by kernel_rfl) (by decide) (fun K hK => ?_)
   refine skip_ (w1 := ?_) (by rfl) rfl ?_ ?_
   rotate_left
   ·go_simp
    rfl
   refine hK.out _ _ ?_
   clear hK K x1 x2 HS2 HF2 HN2 hHeld2
   refine done_ (by kernel_rfl) ?_
   generalize (w12.setCell ⟨go, kk, none⟩ (.slice An mn cn)) = w14 at HF3 ⊢
   go_wp2
   go_roundg (mu - (kk + 1))
   case measure => omega
   case rel => exact ⟨kk + 1, by omega, by omega, (by first | rfl | exact congrArg (Value.int .i64) (show wrap64 ((kk : Int) + 1) = ((kk + 1 : Nat) : Int) by have := HSM.out; unfold wrap64; omega)), HF3⟩
  ·have hltz : ¬ (kk : Int) < (mu : Int) := by omega
   have hk : kk = mu := by omega
   subst hk
   have y0 : wr.cell? ⟨b5, 0, none⟩ = some (.int .i64 a0_0) := (blk_cell HF.out.o 0).trans rfl
   have y1 : wr.cell? ⟨b5, 1, none⟩ = some (.slice Au kk cu) := (blk_cell HF.out.o 1).trans rfl
   have y2 : wr.cell? ⟨b4, 0, none⟩ = some (.int .i64 0) := (blk_cell HF.out.z 0).trans rfl
   have y3 : wr.cell? ⟨b4, 1, none⟩ = some (.slice none 0 0) := (blk_cell HF.out.z 1).trans rfl
   have y4 := blk_frozen HF.out.z 0
   have y5 := blk_frozen HF.out.z 1
   have y6 := HD.out.2.2.1
   have y7 := HD.out.2.2.1.symm
   have HE := Aside0.mk (show redTo r rows kk = r by unfold redTo; rw [List.take_of_length_le (by omega), List.drop_of_length_le (by omega), List.append_nil])
   rw [HE.out] at HF
   clear hmu hml
   go_wp2
   refine bodyPost_ret (results_cell_row rfl _ _ b4 28 #[.int .i64 a0_0, .slice Au kk cu] (0, 0) _ rfl (blk_put (blk_put HF.out.z 0 _ rfl) 1 _ rfl) Try.underlying28 rfl (by kernel_rfl)) rfl ?_
   exact ⟨_, rfl, Kd.S_set (Kd.S_set HF.out.s HF.out.z (by decide) 0 _) (blk_put HF.out.z 0 _ rfl) (by decide) 1 _, below_set (below_set HF.out.b HD.out.2.2.2.1) HD.out.2.2.2.1⟩

theorem impl_moved.calls_2 (k : Nat) (a0_0 : Int) (A0_1 : Option Addr) (c0_1 : Nat) (l0_1 : List (List Int)) (a1_1 : Int) (a1_2 : Int) (A1_3 : Option Addr) (c1_3 : Nat) (l1_3 : List Int) (cp rows r : List (List Int)) (w : World) (hr0_1 : Kd.C (Kd.slice 2 (Kd.int .i64)) w A0_1 l0_1.length l0_1) (hc0_1 : l0_1.length ≤ c0_1) (hr1_3 : Kd.C (Kd.int .i64) w A1_3 l1_3.length l1_3) (hc1_3 : l1_3.length ≤ c1_3)
  (hlen : l0_1.length ≤ 1000) (hrl : ∀ x ∈ l0_1, x.length ≤ 1000) (hwl : l1_3.length ≤ 2000000) (hcp : impl_copyLists.f k l0_1 = some cp) (hcl : cp.length = l0_1.length) (hi : 0 ≤ a1_1 ∧ a1_1 < (l0_1.length : Int)) (hrows : rows = rotT cp a1_1.toNat (rd_L1 l0_1 a1_1)) (hmr : mapRed k rows = some r) :
  Calls Try.prog 68 #[.agg #[.int .i64 a0_0, .slice A0_1 l0_1.length c0_1], .agg #[.int .i64 2, .int .i64 a1_1, .int .i64 a1_2, .slice A1_3 l1_3.length c1_3]] w fun e w' => ∃ v0_ : Value, e = .returned (.agg #[.int .i64 a0_0, v0_]) ∧ Kd.S (Kd.slice 2 (Kd.int .i64)) 39 w' w.heap.size (fun _ => True) v0_ r ∧ Below w.heap.size w w' := by
 have hbig := hr0_1.2.1
 have HR0 := Aside0.mk hr0_1
 have HC0 := Aside0.mk hc0_1
 have HR3 := Aside0.mk hr1_3
 have HC3 := Aside0.mk hc1_3
 have HLEN := Aside0.mk (And.intro hlen (And.intro hrl hwl))
 have HCP := Aside0.mk hcp
 have HCL := Aside0.mk hcl
 have HROWS := Aside0.mk hrows
 have HMR := Aside0.mk (mapRed_at k rows r hmr)
 obtain ⟨i, rfl⟩ : ∃ i : Nat, a1_1 = i := ⟨a1_1.toNat, by have := hi; omega⟩
 have hi1 : i < l0_1.length := by have := hi; omega
 have HI := Aside0.mk hi1
 obtain ⟨row, hrow⟩ : ∃ row, row = rd_L1 l0_1 (i : Int) := ⟨_, rfl⟩
 have hrow2 : l0_1[i] = row := by rw [hrow]; simp [rd_L1, hi1]
 rw [← hrow, Int.toNat_natCast] at HROWS
 obtain ⟨ad, A8, c8, ea, hx0, hcr, hCr⟩ := at_rowC hr0_1 i hi1
 cases ea
 rw [hrow2] at hx0 hcr hCr
 have HCR := Aside0.mk hCr
 have HCRL := Aside0.mk hcr
 have HX0 := Aside0.mk hx0
 have HRL := Aside0.mk (show row.length ≤ 1000 by rw [← hrow2]; exact hrl _ (List.getElem_mem hi1))
 have p1 : (0 ≤ (i : Int)) = True := eq_true (by omega)
 have p2 : ((i : Int) < (l0_1.length : Int)) = True := eq_true (by omega)
 have p3 : ((i : Int) < (cp.length : Int)) = True := eq_true (by omega)
 clear hx0 hcr hCr hrow hrow2 hi1
 clear hr0_1 hc0_1 hr1_3 hc1_3 hlen hrl hwl hcp hcl hrows hmr hi
 go_enter Try.func68, Try.ntmps68
 go_wp2_with (first
  | (refine be_ 2 28 #[.int .i64 a0_0, .slice (some ad) l0_1.length c0_1] ?_; intro b2 hg w2 hbox hb; have B2 := Aside0.mk hbox; have G2 := Aside0.mk (show w.heap.size ≤ b2 by rw [hg]; exact Nat.le_refl _); have HB2 := Aside0.mk hb; clear hg hbox hb)
  | (refine be_ 3 44 #[.int .i64 2, .int .i64 (i : Int), .int .i64 a1_2, .slice A1_3 l1_3.length c1_3] ?_; intro b3 hg w3 hbox hb; have B23 := Aside0.mk (blk_below B2.out hb); have G3 := Aside0.mk (show w.heap.size ≤ b3 by rw [hg]; exact HB2.out.size); have B3 := Aside0.mk hbox; have HB3 := Aside0.mk (below_step HB2.out hb); clear hg hbox hb B2 HB2)
  | (refine be_ 4 28 #[.int .i64 0, .slice none 0 0] ?_; intro b4 hg w4 hbox hb; have B24 := Aside0.mk (blk_below B23.out hb); have B34 := Aside0.mk (blk_below B3.out hb); have G4 := Aside0.mk (show w.heap.size ≤ b4 by rw [hg]; exact HB3.out.size); have B4 := Aside0.mk hbox; have HB4 := Aside0.mk (below_step HB3.out hb); clear hg hbox hb B23 B3 HB3))
 have HB5 := Aside0.mk (below_drew1 HB4.out)
 have B25 := Aside0.mk (blk_drew B24.out)
 have B35 := Aside0.mk (blk_drew B34.out)
 have B45 := Aside0.mk (blk_drew B4.out)
 refine start_ (n := 8) (S := fun w' => w'.cell? ⟨b2, 0, none⟩ = some (.int .i64 a0_0) ∧ w'.cell? ⟨b2, 1, none⟩ = some (.slice (some ad) l0_1.length c0_1)) (ds := []) (kA_ 8 0) (by kernel_rfl) rfl (by kernel_rfl) ⟨(blk_cell B25.out 0).trans rfl, (blk_cell B25.out 1).trans rfl⟩ (fun hHeld => ?_)
 clear HB4 B24 B34 B4
 generalize w4.drew = w5 at HB5 B25 B35 B45 hHeld ⊢
 refine kz_ 0 9 (kA_ 8 1) ?_
 refine kt_ 1 10 (kA_ 8 3) hHeld ?_
 refine kz_ 2 11 (kA_ 8 7) ?_
 refine kt_ 3 12 (kA_ 8 15) hHeld ?_
 have HCALL := Aside0.mk fun (W : World) (hW : Below w.heap.size w W) => impl_copyLists.calls k (some ad) c0_1 l0_1 cp W (Kd.C_below HR0.out hW) HC0.out HCP.out
 refine join_ (σ := Value × Nat) 1 (kA_ 8 127) (fun s_ => [(13, s_.1), (5, .pointer (some ⟨s_.2, 0, none⟩)), (14, .agg #[.int .i64 a0_0, s_.1])]) (fun s_ w' => (∃ A c, s_.1 = .slice A cp.length c) ∧ FR0 w b2 b3 b4 s_.2 #[.int .i64 a0_0, .slice (some ad) l0_1.length c0_1] #[.int .i64 2, .int .i64 (i : Int), .int .i64 a1_2, .slice A1_3 l1_3.length c1_3] s_.1 cp w') ?_ ?_
 rotate_left
 ·intro hCont
  refine two_ (i := 4) (j := 6) (Ni := some 13) (Nj := some 5) (kA_ 8 31) (kA_ 8 79) rfl rfl rfl rfl (by kernel_rfl) (by decide) (by decide) (fun K hK => ?_) (fun K hK => ?_)
  ·go_simp
   go_at_call 44
   refine (HCALL.out _ HB5.out).mono ?_
   rintro e w6 ⟨u, rfl, ho, hb⟩
   obtain ⟨Au, cu, eu⟩ := Kd.S_slice ho
   subst eu
   have HS := Aside0.mk (Kd.S_lower ho HB5.out.size)
   have HB6 := Aside0.mk (below_step HB5.out hb)
   have B26 := Aside0.mk (blk_below B25.out hb)
   have B36 := Aside0.mk (blk_below B35.out hb)
   have B46 := Aside0.mk (blk_below B45.out hb)
   clear ho hb HB5 B25 B35 B45
   refine hK.out _ _ ⟨(blk_cell B26.out 0).trans rfl, (blk_cell B26.out 1).trans rfl⟩ (fun hHeld => ?_)
   clear hK K
   refine kz_ 5 14 (kA_ 8 63) ?_
   refine oa_ 6 5 (kA_ 8 127) (fun K hK => ?_)
   refine box_step ?hg (N := 5) ?hd (cs := #[.int .i64 0, .slice none 0 0]) (t := 28) ?hr ?_; (case hd => rfl); (case hg => rfl); (case hr => first | (go_simp; done) | (go_simp; rfl))
   intro b5 hg w7 hbox hb
   have HF := Aside0.mk (show FR0 w b2 b3 b4 b5 #[.int .i64 a0_0, .slice (some ad) l0_1.length c0_1] #[.int .i64 2, .int .i64 (i : Int), .int .i64 a1_2, .slice A1_3 l1_3.length c1_3] (.slice Au cp.length cu) cp w7 from ⟨blk_below B26.out hb, blk_below B36.out hb, blk_below B46.out hb, hbox, Kd.S_below HS.out hb, below_step HB6.out hb, by rw [hg]; exact Nat.ne_of_lt (blk_lt B26.out), by rw [hg]; exact Nat.ne_of_lt (blk_lt B36.out), by rw [hg]; exact Nat.ne_of_lt (blk_lt B46.out), G4.out, by rw [hg]; exact HB6.out.size⟩)
   clear hg hbox hb HS HB6 B26 B36 B46
   refine hK.out _ _ ⟨(blk_cell HF.out.1 0).trans rfl, (blk_cell HF.out.1 1).trans rfl⟩ (fun hHeld => ?_)
   clear hK K
   refine nm_ 5 ?_
   exact norm_ (by simp only [putAll, Act.put, List.setIfInBounds_toArray, List.set_cons_zero, List.set_cons_succ]) (hCont (.slice Au cp.length cu, b5) _ ⟨⟨_, _, rfl⟩, HF.out⟩)
  ·refine box_step ?hg (N := 5) ?hd (cs := #[.int .i64 0, .slice none 0 0]) (t := 28) ?hr ?_; (case hd => rfl); (case hg => rfl); (case hr => first | (go_simp; done) | (go_simp; rfl))
   intro b5 hg w6 hbox hb
   have HB6 := Aside0.mk (below_step HB5.out hb)
   have B26 := Aside0.mk (blk_below B25.out hb)
   have B36 := Aside0.mk (blk_below B35.out hb)
   have B46 := Aside0.mk (blk_below B45.out hb)
   have B56 := Aside0.mk hbox
   have HD := Aside0.mk (show FD w b2 b3 b4 b5 from ⟨by rw [hg]; exact Nat.ne_of_lt (blk_lt B25.out), by rw [hg]; exact Nat.ne_of_lt (blk_lt B35.out), by rw [hg]; exact Nat.ne_of_lt (blk_lt B45.out), G4.out, by rw [hg]; exact HB5.out.size⟩)
   clear hg hbox hb HB5 B25 B35 B45
   refine hK.out _ _ ⟨(blk_cell B26.out 0).trans rfl, (blk_cell B26.out 1).trans rfl⟩ (fun hHeld => ?_)
   clear hK K
   refine nm_ 5 ?_
   refine oa_ 4 13 (kA_ 8 95) (fun K hK => ?_)
   go_simp
   go_at_call 44
   refine (HCALL.out _ HB6.out).mono ?_
   rintro e w7 ⟨u, rfl, ho, hb⟩
   obtain ⟨Au, cu, eu⟩ := Kd.S_slice ho
   subst eu
   have HF := Aside0.mk (show FR0 w b2 b3 b4 b5 #[.int .i64 a0_0, .slice (some ad) l0_1.length c0_1] #[.int .i64 2, .int .i64 (i : Int), .int .i64 a1_2, .slice A1_3 l1_3.length c1_3] (.slice Au cp.length cu) cp w7 from ⟨blk_below B26.out hb, blk_below B36.out hb, blk_below B46.out hb, blk_below B56.out hb, Kd.S_lower ho HB6.out.size, below_step HB6.out hb, HD.out⟩)
   clear ho hb HB6 B26 B36 B46 B56
   refine hK.out _ _ ⟨(blk_cell HF.out.1 0).trans rfl, (blk_cell HF.out.1 1).trans rfl⟩ (fun hHeld => ?_)
   clear hK K
   refine kz_ 5 14 (kA_ 8 127) ?_
   exact norm_ (by simp only [putAll, Act.put, List.setIfInBounds_toArray, List.set_cons_zero, List.set_cons_succ]) (hCont (.slice Au cp.length cu, b5) _ ⟨⟨_, _, rfl⟩, HF.out⟩)
 rintro ⟨u, b5⟩ w7 ⟨⟨Au, cu, eu⟩, hF⟩
 simp only at eu hF
 subst eu
 have HF0 := Aside0.mk hF
 have HD := Aside0.mk hF.2.2.2.2.2.2
 clear hF HCALL HB5 B25 B35 B45 hHeld
 refine norm_ (a' := ?_) ?_ ?_
 rotate_left
 ·simp only [putAll, Act.put, List.setIfInBounds_toArray, List.set_cons_zero, List.set_cons_succ]
  rfl
 refine one_ (i := 7) (N := none) (kA_ 8 255) rfl rfl (by kernel_rfl) (by decide) (fun K hK => ?_)
 have y0 : w7.cell? ⟨b5, 0, none⟩ = some (.int .i64 0) := (blk_cell HF0.out.2.2.2.1 0).trans rfl
 have y1 : w7.cell? ⟨b5, 1, none⟩ = some (.slice none 0 0) := (blk_cell HF0.out.2.2.2.1 1).trans rfl
 have y2 := blk_frozen HF0.out.2.2.2.1 0
 have y3 := blk_frozen HF0.out.2.2.2.1 1
 refine skip_ (w1 := ?_) (by rfl) rfl ?_ ?_
 rotate_left
 ·go_simp
  rfl
 have HF := Aside0.mk (HF0.out.put a0_0)
 refine hK.out _ _ ⟨(blk_cell HF.out.p 0).trans rfl, (blk_cell HF.out.p 1).trans rfl⟩ (fun hHeld => ?_)
 clear hK K y0 y1 y2 y3 HF0 hHeld
 refine done_ (by kernel_rfl) ?_
 generalize ((w7.setCell ⟨b5, 0, none⟩ (.int .i64 a0_0)).setCell ⟨b5, 1, none⟩ (.slice Au cp.length cu)) = w8 at HF ⊢
 have yk : w8.cell? ⟨b3, 0, none⟩ = some (.int .i64 2) := (blk_cell HF.out.m 0).trans rfl
 obtain ⟨go, cap_, eg, _, _, _, _⟩ := Kd.S_form HF.out.s (by have := HCL.out; have := HI.out; omega)
 injection eg with e1 e2 e3
 subst e1 e3
 clear e2
 have yi : w8.cell? ⟨b3, 1, none⟩ = some (.int .i64 (i : Int)) := (blk_cell HF.out.m 1).trans rfl
 have yp : w8.cell? ⟨b2, 1, none⟩ = some (.slice (some ad) l0_1.length c0_1) := (blk_cell HF.out.p 1).trans rfl
 have yr : w8.cell? (ad.add i) = some (.slice A8 row.length c8) := (HF.out.b.cell (World.block_lt_of_cell? w _ HX0.out)).trans HX0.out
 by_cases cz : 0 < row.length
 ·have hgt1 : decide (0 < (row.length : Int)) = true := decide_eq_true (by omega)
  have hgt2 : ((row.length : Int) > 0) = True := eq_true (by omega)
  have hgt3 : (0 < (row.length : Int)) = True := eq_true (by omega)
  have hgt4 : decide (0 < row.length) = true := decide_eq_true cz
  have hgt5 : (0 < row.length) = True := eq_true cz
  obtain ⟨adr, er, hxat⟩ := Kd.at_int HCR.out 0 (by omega) (by omega)
  subst er
  have HXAT := Aside0.mk (show w.cell? adr = some (.int .i64 (rd row 0)) by rw [show (0 : Int).toNat = 0 from rfl, Addr.add_zero'] at hxat; exact hxat)
  clear hxat
  obtain ⟨i01, hi01, _, hsz1, _⟩ := info_parts info2
  obtain ⟨A9, hcut9, hA9, hC9⟩ := print_drop_of (P := Try.prog) (Value.int .i64) 0 39 2 .i64 Try.underlying39 hi01 hsz1 (some adr) c8 row 1 (by omega) (by omega) HCRL.out
  have HR9 := Aside0.mk fun W (hW : Below w.heap.size w W) => Kd.C_of_reads (h1 := fun _ => rfl) (hA9 _ (Kd.reads_of_C (Kd.C_below HCR.out hW)))
  clear hA9 hi01 hsz1
  have HROWS2 := Aside0.mk (show rows = cp.set i (row.drop 1 ++ [rd row 0]) by rw [HROWS.out]; unfold rotT; rw [if_pos cz])
  have HR1L := Aside0.mk (show (row.drop (1 : Int).toNat).length ≤ 1000 by have := HRL.out; rw [List.length_drop]; omega)
  obtain ⟨r9, hr9⟩ : ∃ q, q = row.drop (1 : Int).toNat := ⟨_, rfl⟩
  have HR9E := Aside0.mk (show r9 = row.drop 1 from hr9)
  rw [← hr9] at hcut9 HR9 hC9 HR1L
  obtain ⟨c9, hc9⟩ : ∃ q, q = c8 - (1 : Int).toNat := ⟨_, rfl⟩
  rw [← hc9] at hcut9 hC9
  clear hc9
  have HC9 := Aside0.mk hC9
  clear hr9 hC9 cz
  go_upto_region 8 with fail
  have hb1 := below_drew1 (Below.refl w8.heap.size w8)
  have HF1 := Aside0.mk (HF.out.below hb1)
  have HCLN := Aside0.mk fun (W : World) (hW : Below w.heap.size w W) => slices_Clone_int64_int64.calls A9 c9 r9 r9 W (HR9.out W hW) HC9.out (if_pos (by have := HR1L.out; omega))
  refine start_ (n := 14) (S := fun w' => w'.cell? ⟨b5, 1, none⟩ = some (.slice (some ⟨go, 0, none⟩) cp.length cu) ∧ w'.cell? ⟨b3, 1, none⟩ = some (.int .i64 (i : Int)) ∧ w'.cell? adr = some (.int .i64 (rd row 0))) (ds := [13]) (kA_ 14 0) (by kernel_rfl) rfl (by kernel_rfl) ⟨(blk_cell HF1.out.o 1).trans rfl, (blk_cell HF1.out.m 1).trans rfl, (HF1.out.b.cell (World.block_lt_of_cell? w _ HXAT.out)).trans HXAT.out⟩ (fun hHeld => ?_)
  clear HF hb1 yk yi yp yr
  generalize w8.drew = w11 at HF1 hHeld ⊢
  refine kz_ 0 42 (kA_ 14 1) ?_
  refine kt_ 1 43 (kA_ 14 3) hHeld ?_
  refine kz_ 2 44 (kA_ 14 7) ?_
  refine kt_ 3 45 (kA_ 14 15) hHeld ?_
  refine kz_ 4 46 (kA_ 14 31) ?_
  refine kz_ 5 47 (kA_ 14 63) ?_
  refine kz_ 7 49 (kA_ 14 191) ?_
  refine kz_ 8 50 (kA_ 14 447) ?_
  refine kt_ 9 51 (kA_ 14 959) hHeld ?_
  refine join_ (σ := Value × Nat) 3 (kA_ 14 2047) (fun s_ => [(48, s_.1), (52, .slice (some ⟨s_.2, 0, none⟩) 1 1)]) (fun s_ w' => (∃ A c, s_.1 = .slice A r9.length c) ∧ FR w b2 b3 b4 b5 #[.int .i64 a0_0, .slice (some ad) l0_1.length c0_1] #[.int .i64 2, .int .i64 (i : Int), .int .i64 a1_2, .slice A1_3 l1_3.length c1_3] a0_0 (.slice (some ⟨go, 0, none⟩) cp.length cu) cp w' ∧ Kd.S (Kd.slice 2 (Kd.int .i64)) 39 w' w.heap.size (fun k => True ∧ some k ≠ s_.1.ownBlock) (.slice (some ⟨go, 0, none⟩) cp.length cu) cp ∧ Kd.R (Kd.int .i64) 2 w' w.heap.size (fun _ => True) s_.1 r9 ∧ w'.heap[s_.2]? = some (.cells #[.int .i64 (rd row 0)] 2 (0, 0))) ?_ ?_
  rotate_left
  ·intro hCont
   refine two_ (i := 6) (j := 10) (Ni := some 48) (Nj := some 52) (kA_ 14 1023) (kA_ 14 1983) rfl rfl rfl rfl (by kernel_rfl) (by decide) (by decide) (fun K hK => ?_) (fun K hK => ?_)
   ·go_simp
    go_at_call 83
    refine (HCLN.out _ HF1.out.b).mono ?_
    rintro e w12 ⟨v12, rfl, ho12, hb12⟩
    have HS2 := Aside0.mk (Kd.S_elder' HF1.out.s (Kd.R_base ho12) hb12)
    have HF2 := Aside0.mk (HF1.out.below hb12)
    have HN2 := Aside0.mk (Kd.R_lower ho12 HF1.out.b.size)
    obtain ⟨An, cn, en⟩ := Kd.R_slice ho12
    subst en
    clear ho12 hb12 HF1
    refine hK.out _ _ ⟨(blk_cell HF2.out.o 1).trans rfl, (blk_cell HF2.out.m 1).trans rfl, (HF2.out.b.cell (World.block_lt_of_cell? w _ HXAT.out)).trans HXAT.out⟩ (fun hHeld => ?_)
    clear hK K
    refine oa_ 10 52 (kA_ 14 2047) (fun K hK => ?_)
    refine value_ (w1 := ?_) (v := ?_) (by rfl) rfl ?_ ?_
    rotate_left 2
    ·go_simp
     constructor
     ·rfl
     ·rfl
    have hba := below_alloc (Below.refl w12.heap.size w12) (.cells #[.int .i64 (rd row 0)] 2)
    have HFa := Aside0.mk (HF2.out.below hba)
    refine hK.out _ _ ⟨(blk_cell HFa.out.o 1).trans rfl, (blk_cell HFa.out.m 1).trans rfl, (HFa.out.b.cell (World.block_lt_of_cell? w _ HXAT.out)).trans HXAT.out⟩ (fun hHeld => ?_)
    clear hK K
    refine nm_ 52 ?_
    exact norm_ (by simp only [putAll, Act.put, List.setIfInBounds_toArray, List.set_cons_zero, List.set_cons_succ]) (hCont (.slice An r9.length cn, w12.heap.size) _ ⟨⟨_, _, rfl⟩, HFa.out, Kd.S_below HS2.out hba, Kd.R_below HN2.out hba, blk_new w12 _⟩)
   ·refine value_ (w1 := ?_) (v := ?_) (by rfl) rfl ?_ ?_
    rotate_left 2
    ·go_simp
     constructor
     ·rfl
     ·rfl
    have hba := below_alloc (Below.refl w11.heap.size w11) (.cells #[.int .i64 (rd row 0)] 2)
    have HFa := Aside0.mk (HF1.out.below hba)
    have HL := Aside0.mk (blk_new w11 (.cells #[.int .i64 (rd row 0)] 2))
    refine hK.out _ _ ⟨(blk_cell HFa.out.o 1).trans rfl, (blk_cell HFa.out.m 1).trans rfl, (HFa.out.b.cell (World.block_lt_of_cell? w _ HXAT.out)).trans HXAT.out⟩ (fun hHeld => ?_)
    clear hK K hba HF1
    refine nm_ 52 ?_
    refine oa_ 6 48 (kA_ 14 2047) (fun K hK => ?_)
    go_simp
    go_at_call 83
    refine (HCLN.out _ HFa.out.b).mono ?_
    rintro e w12 ⟨v12, rfl, ho12, hb12⟩
    have HS2 := Aside0.mk (Kd.S_elder' HFa.out.s (Kd.R_base ho12) hb12)
    have HF2 := Aside0.mk (HFa.out.below hb12)
    have HN2 := Aside0.mk (Kd.R_lower ho12 HFa.out.b.size)
    have HL2 := Aside0.mk (blk_below HL.out hb12)
    obtain ⟨An, cn, en⟩ := Kd.R_slice ho12
    subst en
    clear ho12 hb12 HFa HL
    refine hK.out _ _ ⟨(blk_cell HF2.out.o 1).trans rfl, (blk_cell HF2.out.m 1).trans rfl, (HF2.out.b.cell (World.block_lt_of_cell? w _ HXAT.out)).trans HXAT.out⟩ (fun hHeld => ?_)
    clear hK K
    exact norm_ (by simp only [putAll, Act.put, List.setIfInBounds_toArray, List.set_cons_zero, List.set_cons_succ]) (hCont (.slice An r9.length cn, w11.heap.size) _ ⟨⟨_, _, rfl⟩, HF2.out, HS2.out, HN2.out, HL2.out⟩)
  rintro ⟨v9, b9⟩ w9 ⟨⟨A9v, c9v, e9v⟩, hF9, hS9, hR9, hL9⟩
  simp only at e9v hF9 hS9 hR9 hL9
  subst e9v
  have HF9 := Aside0.mk hF9
  have HS9 := Aside0.mk hS9
  have HV9 := Aside0.mk hR9
  have HL9 := Aside0.mk hL9
  clear hF9 hS9 hR9 hL9 HCLN HF1 hHeld
  refine norm_ (a' := ?_) ?_ ?_
  rotate_left
  ·simp only [putAll, Act.put, List.setIfInBounds_toArray, List.set_cons_zero, List.set_cons_succ]
   rfl
  refine oa_ 11 53 (kA_ 14 4095) (fun K hK => ?_)
  refine Kd.R_append_rows_step (Kd.int .i64) (w0 := w) w.heap.size (by rfl) (.tmp 48) (.tmp 52) 39 2 (.int .i64 0) 8 rfl Try.underlying39 info2 rfl (by decide) (by omega) (.slice A9v r9.length c9v) r9 [rd row 0] (some ⟨b9, 0, none⟩) 1 1 (fun _ => True) (fun _ => False) rfl rfl HV9.out (lit_row HL9.out) (fun _ _ h => h) (fun _ h => h.elim) (fun _ _ => trivial) HF9.out.b HF9.out.b.size (by have := HR1L.out; omega) ?_
  intro v12 w12 ho12 hb12 hg12 hat12
  obtain ⟨h1_, h2_⟩ := FR.grow HF9.out HS9.out HV9.out hg12 hat12 hb12
  have HF2 := Aside0.mk h1_
  have HS2 := Aside0.mk h2_
  have HN2 := Aside0.mk ho12
  obtain ⟨An, cn, en⟩ := Kd.R_slice ho12
  obtain ⟨mn, hmn⟩ : ∃ q, q = (r9 ++ [rd row 0]).length := ⟨_, rfl⟩
  rw [← hmn] at en
  clear hmn
  subst en
  clear ho12 hb12 hg12 hat12 h1_ h2_ HF9 HS9 HV9 HL9
  refine hK.out _ _ ⟨(blk_cell HF2.out.o 1).trans rfl, (blk_cell HF2.out.m 1).trans rfl, (HF2.out.b.cell (World.block_lt_of_cell? w _ HXAT.out)).trans HXAT.out⟩ (fun hHeld2 => ?_)
  clear hK K
  refine nm_ 53 ?_
  refine kz_ 12 54 (kA_ 14 8191) ?_
  rw [HR9E.out] at HN2
  clear HROWS
  have HROWS := HROWS2
  clear HROWS2
  have HF3 := Aside0.mk (FR.elem HF2.out HS2.out (i := i) (by have := HCL.out; have := HI.out; omega) HN2.out)
  obtain ⟨Ax, mx_, cx, x1, x2⟩ := S_at_ HF2.out.s i (by have := HCL.out; have := HI.out; omega)
  refine last_ (i := 13) (N := none) (kA_ 14 16383) rfl rfl (by kernel_rfl) (by decide) (fun K hK => ?_)
  refine skip_ (w1 := ?_) (by rfl) rfl ?_ ?_
  rotate_left
  ·go_simp
   rfl
  refine hK.out _ _ ?_
  clear hK K x1 x2 HS2 HF2 HN2 hHeld2
  refine done_ (by kernel_rfl) ?_
  generalize (w12.setCell ⟨go, i, none⟩ (.slice An mn cn)) = w14 at HF3 ⊢
  have HF := Aside0.mk (show FR w b2 b3 b4 b5 #[.int .i64 a0_0, .slice (some ad) l0_1.length c0_1] #[.int .i64 2, .int .i64 (i : Int), .int .i64 a1_2, .slice A1_3 l1_3.length c1_3] a0_0 (.slice (some ⟨go, 0, none⟩) cp.length cu) rows w14 by rw [HROWS.out]; exact HF3.out)
  clear HF3
  have HRS := Aside0.mk (show rows.length ≤ 1001 by rw [HROWS.out, List.length_set]; have := HCL.out; have := HLEN.out.1; omega)
  obtain ⟨Au, hAu⟩ : ∃ q, q = (some ⟨go, 0, none⟩ : Option Addr) := ⟨_, rfl⟩
  obtain ⟨mu, hmu_⟩ : ∃ q, q = cp.length := ⟨_, rfl⟩
  rw [← hAu, ← hmu_] at HF ⊢
  clear hAu hmu_ p3
  have z1 : w14.cell? ⟨b5, 1, none⟩ = some (.slice Au mu cu) := (blk_cell HF.out.o 1).trans rfl
  have HMU := Aside0.mk (Kd.S_reads' HF.out.s).1
  have HSM := Aside0.mk (show mu ≤ 1001 by rw [HMU.out]; exact HRS.out)
  go_wp2
  clear z1
  have HFs := Aside0.mk (show FR w b2 b3 b4 b5 #[.int .i64 a0_0, .slice (some ad) l0_1.length c0_1] #[.int .i64 2, .int .i64 (i : Int), .int .i64 a1_2, .slice A1_3 l1_3.length c1_3] a0_0 (.slice Au mu cu) (redTo r rows 0) w14 by simpa [redTo] using HF.out)
  go_loopg [7, 8, 113] mu (fun gg _ _ s113 wr => ∃ kk : Nat, kk ≤ mu ∧ mu - kk ≤ gg ∧ s113 = .int .i64 kk ∧ Aside0 (FR w b2 b3 b4 b5 #[.int .i64 a0_0, .slice (some ad) l0_1.length c0_1] #[.int .i64 2, .int .i64 (i : Int), .int .i64 a1_2, .slice A1_3 l1_3.length c1_3] a0_0 (.slice Au mu cu) (redTo r rows kk) wr))
  case atStart => exact ⟨0, Nat.zero_le _, by omega, rfl, HFs⟩
  case round =>
   clear HF HFs
   obtain ⟨kk, hkk, hg, rfl, HF⟩ := hrel
   have hmu := HMU.out
   have hml := HMR.out.1
   by_cases hlt : kk < mu
   ·have hltz : (kk : Int) < (mu : Int) := by omega
    have hkl : kk < rows.length := by omega
    have hkr : kk < r.length := by omega
    have hll := redTo_len r rows kk hml (by omega)
    obtain ⟨go, cap, eg, gb, gl, cl, HG⟩ := Kd.S_form HF.out.s (by omega)
    injection eg with e1 e2 e3
    subst e1 e3
    have hC := (Kd.S_reads' HF.out.s).2.2
    obtain ⟨ad2, A', c', e, hx0, hle, hcrow⟩ := at_rowC hC kk (by omega)
    injection e with e
    subst e
    rw [redTo_at r rows kk hml hkl (by omega)] at hx0 hle hcrow
    rw [add_plain] at hx0
    have z1 : wr.cell? ⟨b5, 1, none⟩ = some (.slice (some ⟨go, 0, none⟩) mu cu) := (blk_cell HF.out.o 1).trans rfl
    have HSET := Aside0.mk (redTo_set r rows kk hml hkl hkr)
    have HCALL := Aside0.mk fun (W : World) (hW : Below wr.heap.size wr W) => impl_reduced.calls k A' c' rows[kk] r[kk] W (Kd.C_below hcrow hW) hle (HMR.out.2 kk hkl hkr)
    have HLL := Aside0.mk hll
    generalize rows[kk] = row2 at hx0 hle hcrow HCALL
    generalize hrk : r[kk] = tn at HSET HCALL
    clear hmu hml hkl e2 gb gl cl HG hC hle hcrow hll hrk hkr
    go_upto_region 21 with fail
    have hb1 := below_drew1 (Below.refl wr.heap.size wr)
    have HF1 := Aside0.mk (HF.out.below hb1)
    have HC1 := Aside0.mk (HCALL.out _ hb1)
    have pk2 : ((kk : Int) < (mu : Int)) = True := eq_true hltz
    refine start_ (n := 7) (S := fun w' => w'.cell? ⟨b5, 1, none⟩ = some (.slice (some ⟨go, 0, none⟩) mu cu)) (ds := [6]) (kA_ 7 0) (by kernel_rfl) rfl (by kernel_rfl) ((blk_cell HF1.out.o 1).trans rfl) (fun hHeld => ?_)
    clear HF hb1 hx0 z1 HCALL
    generalize wr.drew = w11 at HF1 HC1 hHeld ⊢
    refine kz_ 0 118 (kA_ 7 1) ?_
    refine kt_ 1 119 (kA_ 7 3) hHeld ?_
    refine kz_ 2 120 (kA_ 7 7) ?_
    refine kz_ 3 121 (kA_ 7 15) ?_
    refine oa_ 4 122 (kA_ 7 31) (fun K hK => ?_)
    go_simp
    go_at_call 58
    refine HC1.out.mono ?_
    rintro e w12 ⟨v12, rfl, ho12, hb12⟩
    have HS2 := Aside0.mk (Kd.S_elder' HF1.out.s (Kd.R_base ho12) hb12)
    have HF2 := Aside0.mk (HF1.out.below hb12)
    have HN2 := Aside0.mk (Kd.R_lower ho12 HF1.out.b.size)
    obtain ⟨An, cn, en⟩ := Kd.R_slice ho12
    obtain ⟨mn, hmn⟩ : ∃ q, q = tn.length := ⟨_, rfl⟩
    rw [← hmn] at en
    clear hmn
    subst en
    clear ho12 hb12 HC1 HF1
    refine hK.out _ _ ((blk_cell HF2.out.o 1).trans rfl) (fun hHeld2 => ?_)
    clear hK K hHeld
    refine kz_ 5 123 (kA_ 7 63) ?_
    have HF3 := Aside0.mk (FR.elem HF2.out HS2.out (i := kk) (by have := HLL.out; have := HMU.out; omega) HN2.out)
    rw [HSET.out] at HF3
    obtain ⟨Ax, mx_, cx, x1, x2⟩ := S_at_ HF2.out.s kk (by have := HLL.out; have := HMU.out; omega)
    refine last_ (i := 6) (N := none) (kA_ 7 127) rfl rfl (by kernel_rfl) (by decide) (fun K hK => ?_)
    refine skip_ (w1 := ?_) (by rfl) rfl ?_ ?_
    rotate_left
    ·go_simp
     rfl
    refine hK.out _ _ ?_
    clear hK K x1 x2 HS2 HF2 HN2 hHeld2
    refine done_ (by kernel_rfl) ?_
    generalize (w12.setCell ⟨go, kk, none⟩ (.slice An mn cn)) = w14 at HF3 ⊢
    go_wp2
    go_roundg (mu - (kk + 1))
    case measure => omega
    case rel => exact ⟨kk + 1, by omega, by omega, (by first | rfl | exact congrArg (Value.int .i64) (show wrap64 ((kk : Int) + 1) = ((kk + 1 : Nat) : Int) by have := HSM.out; unfold wrap64; omega)), HF3⟩
   ·have hltz : ¬ (kk : Int) < (mu : Int) := by omega
    have hk : kk = mu := by omega
    subst hk
    have y0 : wr.cell? ⟨b5, 0, none⟩ = some (.int .i64 a0_0) := (blk_cell HF.out.o 0).trans rfl
    have y1 : wr.cell? ⟨b5, 1, none⟩ = some (.slice Au kk cu) := (blk_cell HF.out.o 1).trans rfl
    have y2 : wr.cell? ⟨b4, 0, none⟩ = some (.int .i64 0) := (blk_cell HF.out.z 0).trans rfl
    have y3 : wr.cell? ⟨b4, 1, none⟩ = some (.slice none 0 0) := (blk_cell HF.out.z 1).trans rfl
    have y4 := blk_frozen HF.out.z 0
    have y5 := blk_frozen HF.out.z 1
    have y6 := HD.out.2.2.1
    have y7 := HD.out.2.2.1.symm
    have HE := Aside0.mk (show redTo r rows kk = r by unfold redTo; rw [List.take_of_length_le (by omega), List.drop_of_length_le (by omega), List.append_nil])
    rw [HE.out] at HF
    clear hmu hml
    go_wp2
    refine bodyPost_ret (results_cell_row rfl _ _ b4 28 #[.int .i64 a0_0, .slice Au kk cu] (0, 0) _ rfl (blk_put (blk_put HF.out.z 0 _ rfl) 1 _ rfl) Try.underlying28 rfl (by kernel_rfl)) rfl ?_
    exact ⟨_, rfl, Kd.S_set (Kd.S_set HF.out.s HF.out.z (by decide) 0 _) (blk_put HF.out.z 0 _ rfl) (by decide) 1 _, below_set (below_set HF.out.b HD.out.2.2.2.1) HD.out.2.2.2.1⟩
 ·have hgt1 : decide (0 < (row.length : Int)) = false := decide_eq_false (by omega)
  have hgt2 : ((row.length : Int) > 0) = False := eq_false (by omega)
  have hgt3 : (0 < (row.length : Int)) = False := eq_false (by omega)
  have hgt4 : decide (0 < row.length) = false := decide_eq_false cz
  have hgt5 : (0 < row.length) = False := eq_false cz
  have HROWS2 := Aside0.mk (show rows = cp by rw [HROWS.out]; unfold rotT; rw [if_neg cz])
  have HRS := Aside0.mk (show rows.length ≤ 1001 by rw [HROWS2.out]; have := HCL.out; have := HLEN.out.1; omega)
  have HF9 := Aside0.mk (show FR w b2 b3 b4 b5 #[.int .i64 a0_0, .slice (some ad) l0_1.length c0_1] #[.int .i64 2, .int .i64 (i : Int), .int .i64 a1_2, .slice A1_3 l1_3.length c1_3] a0_0 (.slice (some ⟨go, 0, none⟩) cp.length cu) rows w8 by rw [HROWS2.out]; exact HF.out)
  clear HF cz
  have HF := HF9
  clear HF9
  obtain ⟨Au, hAu⟩ : ∃ q, q = (some ⟨go, 0, none⟩ : Option Addr) := ⟨_, rfl⟩
  obtain ⟨mu, hmu_⟩ : ∃ q, q = cp.length := ⟨_, rfl⟩
  rw [← hAu, ← hmu_] at HF ⊢
  clear hAu hmu_ p3
  have z1 : w8.cell? ⟨b5, 1, none⟩ = some (.slice Au mu cu) := (blk_cell HF.out.o 1).trans rfl
  have HMU := Aside0.mk (Kd.S_reads' HF.out.s).1
  have HSM := Aside0.mk (show mu ≤ 1001 by rw [HMU.out]; exact HRS.out)
  go_wp2
  clear z1
  have HFs := Aside0.mk (show FR w b2 b3 b4 b5 #[.int .i64 a0_0, .slice (some ad) l0_1.length c0_1] #[.int .i64 2, .int .i64 (i : Int), .int .i64 a1_2, .slice A1_3 l1_3.length c1_3] a0_0 (.slice Au mu cu) (redTo r rows 0) w8 by simpa [redTo] using HF.out)
  go_loopg [7, 8, 113] mu (fun gg _ _ s113 wr => ∃ kk : Nat, kk ≤ mu ∧ mu - kk ≤ gg ∧ s113 = .int .i64 kk ∧ Aside0 (FR w b2 b3 b4 b5 #[.int .i64 a0_0, .slice (some ad) l0_1.length c0_1] #[.int .i64 2, .int .i64 (i : Int), .int .i64 a1_2, .slice A1_3 l1_3.length c1_3] a0_0 (.slice Au mu cu) (redTo r rows kk) wr))
  case atStart => exact ⟨0, Nat.zero_le _, by omega, rfl, HFs⟩
  case round =>
   clear HF HFs
   obtain ⟨kk, hkk, hg, rfl, HF⟩ := hrel
   have hmu := HMU.out
   have hml := HMR.out.1
   by_cases hlt : kk < mu
   ·have hltz : (kk : Int) < (mu : Int) := by omega
    have hkl : kk < rows.length := by omega
    have hkr : kk < r.length := by omega
    have hll := redTo_len r rows kk hml (by omega)
    obtain ⟨go, cap, eg, gb, gl, cl, HG⟩ := Kd.S_form HF.out.s (by omega)
    injection eg with e1 e2 e3
    subst e1 e3
    have hC := (Kd.S_reads' HF.out.s).2.2
    obtain ⟨ad2, A', c', e, hx0, hle, hcrow⟩ := at_rowC hC kk (by omega)
    injection e with e
    subst e
    rw [redTo_at r rows kk hml hkl (by omega)] at hx0 hle hcrow
    rw [add_plain] at hx0
    have z1 : wr.cell? ⟨b5, 1, none⟩ = some (.slice (some ⟨go, 0, none⟩) mu cu) := (blk_cell HF.out.o 1).trans rfl
    have HSET := Aside0.mk (redTo_set r rows kk hml hkl hkr)
    have HCALL := Aside0.mk fun (W : World) (hW : Below wr.heap.size wr W) => impl_reduced.calls k A' c' rows[kk] r[kk] W (Kd.C_below hcrow hW) hle (HMR.out.2 kk hkl hkr)
    have HLL := Aside0.mk hll
    generalize rows[kk] = row2 at hx0 hle hcrow HCALL
    generalize hrk : r[kk] = tn at HSET HCALL
    clear hmu hml hkl e2 gb gl cl HG hC hle hcrow hll hrk hkr
    go_upto_region 21 with fail
    have hb1 := below_drew1 (Below.refl wr.heap.size wr)
    have HF1 := Aside0.mk (HF.out.below hb1)
    have HC1 := Aside0.mk (HCALL.out _ hb1)
    have pk2 : ((kk : Int) < (mu : Int)) = True := eq_true hltz
    refine start_ (n := 7) (S := fun w' => w'.cell? ⟨b5, 1, none⟩ = some (.slice (some ⟨go, 0, none⟩) mu cu)) (ds := [6]) (kA_ 7 0) (by kernel_rfl) rfl (by kernel_rfl) ((blk_cell HF1.out.o 1).trans rfl) (fun hHeld => ?_)
    clear HF hb1 hx0 z1 HCALL
    generalize wr.drew = w11 at HF1 HC1 hHeld ⊢
    refine kz_ 0 118 (kA_ 7 1) ?_
    refine kt_ 1 119 (kA_ 7 3) hHeld ?_
    refine kz_ 2 120 (kA_ 7 7) ?_
    refine kz_ 3 121 (kA_ 7 15) ?_
    refine oa_ 4 122 (kA_ 7 31) (fun K hK => ?_)
    go_simp
    go_at_call 58
    refine HC1.out.mono ?_
    rintro e w12 ⟨v12, rfl, ho12, hb12⟩
    have HS2 := Aside0.mk (Kd.S_elder' HF1.out.s (Kd.R_base ho12) hb12)
    have HF2 := Aside0.mk (HF1.out.below hb12)
    have HN2 := Aside0.mk (Kd.R_lower ho12 HF1.out.b.size)
    obtain ⟨An, cn, en⟩ := Kd.R_slice ho12
    obtain ⟨mn, hmn⟩ : ∃ q, q = tn.length := ⟨_, rfl⟩
    rw [← hmn] at en
    clear hmn
    subst en
    clear ho12 hb12 HC1 HF1
    refine hK.out _ _ ((blk_cell HF2.out.o 1).trans rfl) (fun hHeld2 => ?_)
    clear hK K hHeld
    refine kz_ 5 123 (kA_ 7 63) ?_
    have HF3 := Aside0.mk (FR.elem HF2.out HS2.out (i := kk) (by have := HLL.out; have := HMU.out; omega) HN2.out)
    rw [HSET.out] at HF3
    obtain ⟨Ax, mx_, cx, x1, x2⟩ := S_at_ HF2.out.s kk (by have := HLL.out; have := HMU.out; omega)
    refine last_ (i := 6) (N := none) (kA_ 7 127) rfl rfl (by kernel_rfl) (by decide) (fun K hK => ?_)
    refine skip_ (w1 := ?_) (by rfl) rfl ?_ ?_
    rotate_left
    ·go_simp
     rfl
    refine hK.out _ _ ?_
    clear hK K x1 x2 HS2 HF2 HN2 hHeld2
    refine done_ (by kernel_rfl) ?_
    generalize (w12.setCell ⟨go, kk, none⟩ (.slice An mn cn)) = w14 at HF3 ⊢
    go_wp2
    go_roundg (mu - (kk + 1))
    case measure => omega
    case rel => exact ⟨kk + 1, by omega, by omega, (by first | rfl | exact congrArg (Value.int .i64) (show wrap64 ((kk : Int) + 1) = ((kk + 1 : Nat) : Int) by have := HSM.out; unfold wrap64; omega)), HF3⟩
   ·have hltz : ¬ (kk : Int) < (mu : Int) := by omega
    have hk : kk = mu := by omega
    subst hk
    have y0 : wr.cell? ⟨b5, 0, none⟩ = some (.int .i64 a0_0) := (blk_cell HF.out.o 0).trans rfl
    have y1 : wr.cell? ⟨b5, 1, none⟩ = some (.slice Au kk cu) := (blk_cell HF.out.o 1).trans rfl
    have y2 : wr.cell? ⟨b4, 0, none⟩ = some (.int .i64 0) := (blk_cell HF.out.z 0).trans rfl
    have y3 : wr.cell? ⟨b4, 1, none⟩ = some (.slice none 0 0) := (blk_cell HF.out.z 1).trans rfl
    have y4 := blk_frozen HF.out.z 0
    have y5 := blk_frozen HF.out.z 1
    have y6 := HD.out.2.2.1
    have y7 := HD.out.2.2.1.symm
    have HE := Aside0.mk (show redTo r rows kk = r by unfold redTo; rw [List.take_of_length_le (by omega), List.drop_of_length_le (by omega), List.append_nil])
    rw [HE.out] at HF
    clear hmu hml
    go_wp2
    refine bodyPost_ret (results_cell_row rfl _ _ b4 28 #[.int .i64 a0_0, .slice Au kk cu] (0, 0) _ rfl (blk_put (blk_put HF.out.z 0 _ rfl) 1 _ rfl) Try.underlying28 rfl (by kernel_rfl)) rfl ?_
    exact ⟨_, rfl, Kd.S_set (Kd.S_set HF.out.s HF.out.z (by decide) 0 _) (blk_put HF.out.z 0 _ rfl) (by decide) 1 _, below_set (below_set HF.out.b HD.out.2.2.2.1) HD.out.2.2.2.1⟩

end Go.Proofs.Ytbcdngjajjgmkaa.PFnExactApplyTietze
