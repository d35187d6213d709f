/- Written by this session's program out of the kit's print and this session's contracts. -/
import Derived.Test.YtbcdngjajjgmkaaVFnExactSimplifyPresentationPx0
import Derived.Test.YtbcdngjajjgmkaaVFnExactSimplifyPresentationPx11
import Derived.Test.YtbcdngjajjgmkaaVFnExactSimplifyPresentationPx12
import Derived.Test.YtbcdngjajjgmkaaVFnExactSimplifyPresentationPx13
import Derived.Test.YtbcdngjajjgmkaaVFnExactSimplifyPresentationPx14
namespace Go.Proofs.Ytbcdngjajjgmkaa.PFnExactSimplifyPresentation
open Go.RowKit Go.Proofs.YtbcdngjajjgmkaaW.PrintWords Go.Proofs.YtbcdngjajjgmkaaW.PrintLast Go.Proofs.YtbcdngjajjgmkaaW.PrintMore
set_option maxHeartbeats 16000000
set_option maxRecDepth 100000
set_option linter.unusedVariables false
set_option linter.unusedSimpArgs false

theorem impl_moved.calls_4 (k : Nat) (a0_0 : Int) (A0_1 : Option Addr) (c0_1 : Nat) (l0_1 : List (List Int)) (a1_1 : Int) (a1_2 : Int) (A1_3 : Option Addr) (c1_3 : Nat) (l1_3 : List Int) (cp rows r : List (List Int)) (w : World) (hr0_1 : Kd.C (Kd.slice 2 (Kd.int .i64)) w A0_1 l0_1.length l0_1) (hc0_1 : l0_1.length ≤ c0_1) (hr1_3 : Kd.C (Kd.int .i64) w A1_3 l1_3.length l1_3) (hc1_3 : l1_3.length ≤ c1_3)
  (hlen : l0_1.length ≤ 1000) (hrl : ∀ x ∈ l0_1, x.length ≤ 1000) (hwl : l1_3.length ≤ 2000000) (hcp : impl_copyLists.f k l0_1 = some cp) (hcl : cp.length = l0_1.length) (hi : 0 ≤ a1_1 ∧ a1_1 < (l0_1.length : Int)) (hrows : rows = cp.eraseIdx a1_1.toNat) (hmr : mapRed k rows = some r) :
  Calls Try.prog 68 #[.agg #[.int .i64 a0_0, .slice A0_1 l0_1.length c0_1], .agg #[.int .i64 4, .int .i64 a1_1, .int .i64 a1_2, .slice A1_3 l1_3.length c1_3]] w fun e w' => ∃ v0_ : Value, e = .returned (.agg #[.int .i64 a0_0, v0_]) ∧ Kd.S (Kd.slice 2 (Kd.int .i64)) 39 w' w.heap.size (fun _ => True) v0_ r ∧ Below w.heap.size w w' := by
 have hbig := hr0_1.2.1
 have HR0 := Aside0.mk hr0_1
 have HC0 := Aside0.mk hc0_1
 have HR3 := Aside0.mk hr1_3
 have HC3 := Aside0.mk hc1_3
 have HLEN := Aside0.mk (And.intro hlen (And.intro hrl hwl))
 have HCP := Aside0.mk hcp
 have HCL := Aside0.mk hcl
 have HROWS := Aside0.mk hrows
 have HMR := Aside0.mk (mapRed_at k rows r hmr)
 obtain ⟨i, rfl⟩ : ∃ i : Nat, a1_1 = i := ⟨a1_1.toNat, by have := hi; omega⟩
 have hi1 : i < l0_1.length := by have := hi; omega
 have HI := Aside0.mk hi1
 rw [Int.toNat_natCast] at HROWS
 have p1 : (0 ≤ (i : Int)) = True := eq_true (by omega)
 have p3 : ((i : Int) < (cp.length : Int)) = True := eq_true (by omega)
 clear hi1
 clear hr0_1 hc0_1 hr1_3 hc1_3 hlen hrl hwl hcp hcl hrows hmr hi
 go_enter Try.func68, Try.ntmps68
 go_wp2_with (first
  | (refine be_ 2 28 #[.int .i64 a0_0, .slice A0_1 l0_1.length c0_1] ?_; intro b2 hg w2 hbox hb; have B2 := Aside0.mk hbox; have G2 := Aside0.mk (show w.heap.size ≤ b2 by rw [hg]; exact Nat.le_refl _); have HB2 := Aside0.mk hb; clear hg hbox hb)
  | (refine be_ 3 44 #[.int .i64 4, .int .i64 (i : Int), .int .i64 a1_2, .slice A1_3 l1_3.length c1_3] ?_; intro b3 hg w3 hbox hb; have B23 := Aside0.mk (blk_below B2.out hb); have G3 := Aside0.mk (show w.heap.size ≤ b3 by rw [hg]; exact HB2.out.size); have B3 := Aside0.mk hbox; have HB3 := Aside0.mk (below_step HB2.out hb); clear hg hbox hb B2 HB2)
  | (refine be_ 4 28 #[.int .i64 0, .slice none 0 0] ?_; intro b4 hg w4 hbox hb; have B24 := Aside0.mk (blk_below B23.out hb); have B34 := Aside0.mk (blk_below B3.out hb); have G4 := Aside0.mk (show w.heap.size ≤ b4 by rw [hg]; exact HB3.out.size); have B4 := Aside0.mk hbox; have HB4 := Aside0.mk (below_step HB3.out hb); clear hg hbox hb B23 B3 HB3))
 have HB5 := Aside0.mk (below_drew1 HB4.out)
 have B25 := Aside0.mk (blk_drew B24.out)
 have B35 := Aside0.mk (blk_drew B34.out)
 have B45 := Aside0.mk (blk_drew B4.out)
 refine start_ (n := 8) (S := fun w' => w'.cell? ⟨b2, 0, none⟩ = some (.int .i64 a0_0) ∧ w'.cell? ⟨b2, 1, none⟩ = some (.slice A0_1 l0_1.length c0_1)) (ds := []) (kA_ 8 0) (by kernel_rfl) rfl (by kernel_rfl) ⟨(blk_cell B25.out 0).trans rfl, (blk_cell B25.out 1).trans rfl⟩ (fun hHeld => ?_)
 clear HB4 B24 B34 B4
 generalize w4.drew = w5 at HB5 B25 B35 B45 hHeld ⊢
 refine kz_ 0 9 (kA_ 8 1) ?_
 refine kt_ 1 10 (kA_ 8 3) hHeld ?_
 refine kz_ 2 11 (kA_ 8 7) ?_
 refine kt_ 3 12 (kA_ 8 15) hHeld ?_
 have HCALL := Aside0.mk fun (W : World) (hW : Below w.heap.size w W) => impl_copyLists.calls k A0_1 c0_1 l0_1 cp W (Kd.C_below HR0.out hW) HC0.out HCP.out
 refine join_ (σ := Value × Nat) 1 (kA_ 8 127) (fun s_ => [(13, s_.1), (5, .pointer (some ⟨s_.2, 0, none⟩)), (14, .agg #[.int .i64 a0_0, s_.1])]) (fun s_ w' => (∃ A c, s_.1 = .slice A cp.length c) ∧ FR0 w b2 b3 b4 s_.2 #[.int .i64 a0_0, .slice A0_1 l0_1.length c0_1] #[.int .i64 4, .int .i64 (i : Int), .int .i64 a1_2, .slice A1_3 l1_3.length c1_3] s_.1 cp w') ?_ ?_
 rotate_left
 ·intro hCont
  refine two_ (i := 4) (j := 6) (Ni := some 13) (Nj := some 5) (kA_ 8 31) (kA_ 8 79) rfl rfl rfl rfl (by kernel_rfl) (by decide) (by decide) (fun K hK => ?_) (fun K hK => ?_)
  ·go_simp
   go_at_call 44
   refine (HCALL.out _ HB5.out).mono ?_
   rintro e w6 ⟨u, rfl, ho, hb⟩
   obtain ⟨Au, cu, eu⟩ := Kd.S_slice ho
   subst eu
   have HS := Aside0.mk (Kd.S_lower ho HB5.out.size)
   have HB6 := Aside0.mk (below_step HB5.out hb)
   have B26 := Aside0.mk (blk_below B25.out hb)
   have B36 := Aside0.mk (blk_below B35.out hb)
   have B46 := Aside0.mk (blk_below B45.out hb)
   clear ho hb HB5 B25 B35 B45
   refine hK.out _ _ ⟨(blk_cell B26.out 0).trans rfl, (blk_cell B26.out 1).trans rfl⟩ (fun hHeld => ?_)
   clear hK K
   refine kz_ 5 14 (kA_ 8 63) ?_
   refine oa_ 6 5 (kA_ 8 127) (fun K hK => ?_)
   refine box_step ?hg (N := 5) ?hd (cs := #[.int .i64 0, .slice none 0 0]) (t := 28) ?hr ?_; (case hd => rfl); (case hg => rfl); (case hr => first | (go_simp; done) | (go_simp; rfl))
   intro b5 hg w7 hbox hb
   have HF := Aside0.mk (show FR0 w b2 b3 b4 b5 #[.int .i64 a0_0, .slice A0_1 l0_1.length c0_1] #[.int .i64 4, .int .i64 (i : Int), .int .i64 a1_2, .slice A1_3 l1_3.length c1_3] (.slice Au cp.length cu) cp w7 from ⟨blk_below B26.out hb, blk_below B36.out hb, blk_below B46.out hb, hbox, Kd.S_below HS.out hb, below_step HB6.out hb, by rw [hg]; exact Nat.ne_of_lt (blk_lt B26.out), by rw [hg]; exact Nat.ne_of_lt (blk_lt B36.out), by rw [hg]; exact Nat.ne_of_lt (blk_lt B46.out), G4.out, by rw [hg]; exact HB6.out.size⟩)
   clear hg hbox hb HS HB6 B26 B36 B46
   refine hK.out _ _ ⟨(blk_cell HF.out.1 0).trans rfl, (blk_cell HF.out.1 1).trans rfl⟩ (fun hHeld => ?_)
   clear hK K
   refine nm_ 5 ?_
   exact norm_ (by simp only [putAll, Act.put, List.setIfInBounds_toArray, List.set_cons_zero, List.set_cons_succ]) (hCont (.slice Au cp.length cu, b5) _ ⟨⟨_, _, rfl⟩, HF.out⟩)
  ·refine box_step ?hg (N := 5) ?hd (cs := #[.int .i64 0, .slice none 0 0]) (t := 28) ?hr ?_; (case hd => rfl); (case hg => rfl); (case hr => first | (go_simp; done) | (go_simp; rfl))
   intro b5 hg w6 hbox hb
   have HB6 := Aside0.mk (below_step HB5.out hb)
   have B26 := Aside0.mk (blk_below B25.out hb)
   have B36 := Aside0.mk (blk_below B35.out hb)
   have B46 := Aside0.mk (blk_below B45.out hb)
   have B56 := Aside0.mk hbox
   have HD := Aside0.mk (show FD w b2 b3 b4 b5 from ⟨by rw [hg]; exact Nat.ne_of_lt (blk_lt B25.out), by rw [hg]; exact Nat.ne_of_lt (blk_lt B35.out), by rw [hg]; exact Nat.ne_of_lt (blk_lt B45.out), G4.out, by rw [hg]; exact HB5.out.size⟩)
   clear hg hbox hb HB5 B25 B35 B45
   refine hK.out _ _ ⟨(blk_cell B26.out 0).trans rfl, (blk_cell B26.out 1).trans rfl⟩ (fun hHeld => ?_)
   clear hK K
   refine nm_ 5 ?_
   refine oa_ 4 13 (kA_ 8 95) (fun K hK => ?_)
   go_simp
   go_at_call 44
   refine (HCALL.out _ HB6.out).mono ?_
   rintro e w7 ⟨u, rfl, ho, hb⟩
   obtain ⟨Au, cu, eu⟩ := Kd.S_slice ho
   subst eu
   have HF := Aside0.mk (show FR0 w b2 b3 b4 b5 #[.int .i64 a0_0, .slice A0_1 l0_1.length c0_1] #[.int .i64 4, .int .i64 (i : Int), .int .i64 a1_2, .slice A1_3 l1_3.length c1_3] (.slice Au cp.length cu) cp w7 from ⟨blk_below B26.out hb, blk_below B36.out hb, blk_below B46.out hb, blk_below B56.out hb, Kd.S_lower ho HB6.out.size, below_step HB6.out hb, HD.out⟩)
   clear ho hb HB6 B26 B36 B46 B56
   refine hK.out _ _ ⟨(blk_cell HF.out.1 0).trans rfl, (blk_cell HF.out.1 1).trans rfl⟩ (fun hHeld => ?_)
   clear hK K
   refine kz_ 5 14 (kA_ 8 127) ?_
   exact norm_ (by simp only [putAll, Act.put, List.setIfInBounds_toArray, List.set_cons_zero, List.set_cons_succ]) (hCont (.slice Au cp.length cu, b5) _ ⟨⟨_, _, rfl⟩, HF.out⟩)
 rintro ⟨u, b5⟩ w7 ⟨⟨Au, cu, eu⟩, hF⟩
 simp only at eu hF
 subst eu
 have HF0 := Aside0.mk hF
 have HD := Aside0.mk hF.2.2.2.2.2.2
 clear hF HCALL HB5 B25 B35 B45 hHeld
 refine norm_ (a' := ?_) ?_ ?_
 rotate_left
 ·simp only [putAll, Act.put, List.setIfInBounds_toArray, List.set_cons_zero, List.set_cons_succ]
  rfl
 refine one_ (i := 7) (N := none) (kA_ 8 255) rfl rfl (by kernel_rfl) (by decide) (fun K hK => ?_)
 have y0 : w7.cell? ⟨b5, 0, none⟩ = some (.int .i64 0) := (blk_cell HF0.out.2.2.2.1 0).trans rfl
 have y1 : w7.cell? ⟨b5, 1, none⟩ = some (.slice none 0 0) := (blk_cell HF0.out.2.2.2.1 1).trans rfl
 have y2 := blk_frozen HF0.out.2.2.2.1 0
 have y3 := blk_frozen HF0.out.2.2.2.1 1
 refine skip_ (w1 := ?_) (by rfl) rfl ?_ ?_
 rotate_left
 ·go_simp
  rfl
 have HF := Aside0.mk (HF0.out.put a0_0)
 refine hK.out _ _ ⟨(blk_cell HF.out.p 0).trans rfl, (blk_cell HF.out.p 1).trans rfl⟩ (fun hHeld => ?_)
 clear hK K y0 y1 y2 y3 HF0 hHeld
 refine done_ (by kernel_rfl) ?_
 generalize ((w7.setCell ⟨b5, 0, none⟩ (.int .i64 a0_0)).setCell ⟨b5, 1, none⟩ (.slice Au cp.length cu)) = w8 at HF ⊢
 have yk : w8.cell? ⟨b3, 0, none⟩ = some (.int .i64 4) := (blk_cell HF.out.m 0).trans rfl
 obtain ⟨go, cap_, eg, _, _, _, _⟩ := Kd.S_form HF.out.s (by have := HCL.out; have := HI.out; omega)
 injection eg with e1 e2 e3
 subst e1 e3
 clear e2
 have yi : w8.cell? ⟨b3, 1, none⟩ = some (.int .i64 (i : Int)) := (blk_cell HF.out.m 1).trans rfl
 have yo : w8.cell? ⟨b5, 1, none⟩ = some (.slice (some ⟨go, 0, none⟩) cp.length cu) := (blk_cell HF.out.o 1).trans rfl
 have HDEL := Aside0.mk (deleteRows go cu i cp.length cp w w8 (fun _ => True) HF.out.s (by have := HCL.out; have := HI.out; omega) (by have := HCL.out; have := HLEN.out.1; omega) HF.out.b)
 obtain ⟨n0, hn0⟩ : ∃ q, q = cp.length := ⟨_, rfl⟩
 rw [← hn0] at yo HDEL
 have HN0 := Aside0.mk hn0
 clear hn0 p3
 go_wp2_with (go_at_call 103; refine HDEL.out.mono ?_; rintro e w9 ⟨rfl, hs9, hb9, hg9⟩; have k9 := blk_grown HF.out.o hg9 (Kd.S_ne HF.out.s HF.out.o (by decide)); have y1 : w9.cell? ⟨b5, 1, none⟩ = some (.slice (some ⟨go, 0, none⟩) n0 cu) := (blk_cell k9 1).trans (by rw [HN0.out]; rfl); have y2 := blk_frozen k9 1; have HF9 := Aside0.mk (FR.swap HD.out HF.out hs9 hb9 hg9); clear k9 hs9 hb9 hg9 yi yo yk HDEL)
 generalize (w9.setCell ⟨b5, 1, none⟩ (.slice (some ⟨go, 0, none⟩) (n0 - 1) cu)) = w14 at HF9 ⊢
 have HFq := Aside0.mk (show FR w b2 b3 b4 b5 #[.int .i64 a0_0, .slice A0_1 l0_1.length c0_1] #[.int .i64 4, .int .i64 (i : Int), .int .i64 a1_2, .slice A1_3 l1_3.length c1_3] a0_0 (.slice (some ⟨go, 0, none⟩) (n0 - 1) cu) rows w14 by rw [HROWS.out]; exact HF9.out)
 have HRS := Aside0.mk (show rows.length ≤ 1001 by rw [HROWS.out]; have h1 := List.length_eraseIdx_le cp i; have := HCL.out; have := HLEN.out.1; omega)
 clear HF HF9
 have HF := HFq
 clear HFq HN0
 obtain ⟨Au, hAu⟩ : ∃ q, q = (some ⟨go, 0, none⟩ : Option Addr) := ⟨_, rfl⟩
 obtain ⟨mu, hmu_⟩ : ∃ q, q = n0 - 1 := ⟨_, rfl⟩
 rw [← hAu, ← hmu_] at HF ⊢
 clear hAu hmu_
 have z1 : w14.cell? ⟨b5, 1, none⟩ = some (.slice Au mu cu) := (blk_cell HF.out.o 1).trans rfl
 have HMU := Aside0.mk (Kd.S_reads' HF.out.s).1
 have HSM := Aside0.mk (show mu ≤ 1001 by rw [HMU.out]; exact HRS.out)
 go_wp2
 clear z1
 have HFs := Aside0.mk (show FR w b2 b3 b4 b5 #[.int .i64 a0_0, .slice A0_1 l0_1.length c0_1] #[.int .i64 4, .int .i64 (i : Int), .int .i64 a1_2, .slice A1_3 l1_3.length c1_3] a0_0 (.slice Au mu cu) (redTo r rows 0) w14 by simpa [redTo] using HF.out)
 go_loopg [7, 8, 113] mu (fun gg _ _ s113 wr => ∃ kk : Nat, kk ≤ mu ∧ mu - kk ≤ gg ∧ s113 = .int .i64 kk ∧ Aside0 (FR w b2 b3 b4 b5 #[.int .i64 a0_0, .slice A0_1 l0_1.length c0_1] #[.int .i64 4, .int .i64 (i : Int), .int .i64 a1_2, .slice A1_3 l1_3.length c1_3] a0_0 (.slice Au mu cu) (redTo r rows kk) wr))
 case atStart => exact ⟨0, Nat.zero_le _, by omega, rfl, HFs⟩
 case round =>
  clear HF HFs
  obtain ⟨kk, hkk, hg, rfl, HF⟩ := hrel
  have hmu := HMU.out
  have hml := HMR.out.1
  by_cases hlt : kk < mu
  ·have hltz : (kk : Int) < (mu : Int) := by omega
   have hkl : kk < rows.length := by omega
   have hkr : kk < r.length := by omega
   have hll := redTo_len r rows kk hml (by omega)
   obtain ⟨go, cap, eg, gb, gl, cl, HG⟩ := Kd.S_form HF.out.s (by omega)
   injection eg with e1 e2 e3
   subst e1 e3
   have hC := (Kd.S_reads' HF.out.s).2.2
   obtain ⟨ad2, A', c', e, hx0, hle, hcrow⟩ := at_rowC hC kk (by omega)
   injection e with e
   subst e
   rw [redTo_at r rows kk hml hkl (by omega)] at hx0 hle hcrow
   rw [add_plain] at hx0
   have z1 : wr.cell? ⟨b5, 1, none⟩ = some (.slice (some ⟨go, 0, none⟩) mu cu) := (blk_cell HF.out.o 1).trans rfl
   have HSET := Aside0.mk (redTo_set r rows kk hml hkl hkr)
   have HCALL := Aside0.mk fun (W : World) (hW : Below wr.heap.size wr W) => impl_reduced.calls k A' c' rows[kk] r[kk] W (Kd.C_below hcrow hW) hle (HMR.out.2 kk hkl hkr)
   have HLL := Aside0.mk hll
   generalize rows[kk] = row2 at hx0 hle hcrow HCALL
   generalize hrk : r[kk] = tn at HSET HCALL
   clear hmu hml hkl e2 gb gl cl HG hC hle hcrow hll hrk hkr
   go_upto_region 21 with fail
   have hb1 := below_drew1 (Below.refl wr.heap.size wr)
   have HF1 := Aside0.mk (HF.out.below hb1)
   have HC1 := Aside0.mk (HCALL.out _ hb1)
   have pk2 : ((kk : Int) < (mu : Int)) = True := eq_true hltz
   refine start_ (n := 7) (S := fun w' => w'.cell? ⟨b5, 1, none⟩ = some (.slice (some ⟨go, 0, none⟩) mu cu)) (ds := [6]) (kA_ 7 0) (by kernel_rfl) rfl (by kernel_rfl) ((blk_cell HF1.out.o 1).trans rfl) (fun hHeld => ?_)
   clear HF hb1 hx0 z1 HCALL
   generalize wr.drew = w11 at HF1 HC1 hHeld ⊢
   refine kz_ 0 118 (kA_ 7 1) ?_
   refine kt_ 1 119 (kA_ 7 3) hHeld ?_
   refine kz_ 2 120 (kA_ 7 7) ?_
   refine kz_ 3 121 (kA_ 7 15) ?_
   refine oa_ 4 122 (kA_ 7 31) (fun K hK => ?_)
   go_simp
   go_at_call 58
   refine HC1.out.mono ?_
   rintro e w12 ⟨v12, rfl, ho12, hb12⟩
   have HS2 := Aside0.mk (Kd.S_elder' HF1.out.s (Kd.R_base ho12) hb12)
   have HF2 := Aside0.mk (HF1.out.below hb12)
   have HN2 := Aside0.mk (Kd.R_lower ho12 HF1.out.b.size)
   obtain ⟨An, cn, en⟩ := Kd.R_slice ho12
   obtain ⟨mn, hmn⟩ : ∃ q, q = tn.length := ⟨_, rfl⟩
   rw [← hmn] at en
   clear hmn
   subst en
   clear ho12 hb12 HC1 HF1
   refine hK.out _ _ ((blk_cell HF2.out.o 1).trans rfl) (fun hHeld2 => ?_)
   clear hK K hHeld
   refine kz_ 5 123 (kA_ 7 63) ?_
   have HF3 := Aside0.mk (FR.elem HF2.out HS2.out (i := kk) (by have := HLL.out; have := HMU.out; omega) HN2.out)
   rw [HSET.out] at HF3
   obtain ⟨Ax, mx_, cx, x1, x2⟩ := S_at_ HF2.out.s kk (by have := HLL.out; have := HMU.out; omega)
   refine last_ (i := 6) (N := none) (kA_ 7 127) rfl rfl (by kernel_rfl) (by decide) (fun K hK => ?_)
   refine skip_ (w1 := ?_) (by rfl) rfl ?_ ?_
   rotate_left
   ·go_simp
    rfl
   refine hK.out _ _ ?_
   clear hK K x1 x2 HS2 HF2 HN2 hHeld2
   refine done_ (by kernel_rfl) ?_
   generalize (w12.setCell ⟨go, kk, none⟩ (.slice An mn cn)) = w14 at HF3 ⊢
   go_wp2
   go_roundg (mu - (kk + 1))
   case measure => omega
   case rel => exact ⟨kk + 1, by omega, by omega, (by first | rfl | exact congrArg (Value.int .i64) (show wrap64 ((kk : Int) + 1) = ((kk + 1 : Nat) : Int) by have := HSM.out; unfold wrap64; omega)), HF3⟩
  ·have hltz : ¬ (kk : Int) < (mu : Int) := by omega
   have hk : kk = mu := by omega
   subst hk
   have y0 : wr.cell? ⟨b5, 0, none⟩ = some (.int .i64 a0_0) := (blk_cell HF.out.o 0).trans rfl
   have y1 : wr.cell? ⟨b5, 1, none⟩ = some (.slice Au kk cu) := (blk_cell HF.out.o 1).trans rfl
   have y2 : wr.cell? ⟨b4, 0, none⟩ = some (.int .i64 0) := (blk_cell HF.out.z 0).trans rfl
   have y3 : wr.cell? ⟨b4, 1, none⟩ = some (.slice none 0 0) := (blk_cell HF.out.z 1).trans rfl
   have y4 := blk_frozen HF.out.z 0
   have y5 := blk_frozen HF.out.z 1
   have y6 := HD.out.2.2.1
   have y7 := HD.out.2.2.1.symm
   have HE := Aside0.mk (show redTo r rows kk = r by unfold redTo; rw [List.take_of_length_le (by omega), List.drop_of_length_le (by omega), List.append_nil])
   rw [HE.out] at HF
   clear hmu hml
   go_wp2
   refine bodyPost_ret (results_cell_row rfl _ _ b4 28 #[.int .i64 a0_0, .slice Au kk cu] (0, 0) _ rfl (blk_put (blk_put HF.out.z 0 _ rfl) 1 _ rfl) Try.underlying28 rfl (by kernel_rfl)) rfl ?_
   exact ⟨_, rfl, Kd.S_set (Kd.S_set HF.out.s HF.out.z (by decide) 0 _) (blk_put HF.out.z 0 _ rfl) (by decide) 1 _, below_set (below_set HF.out.b HD.out.2.2.2.1) HD.out.2.2.2.1⟩

theorem impl_moved.calls_5 (k : Nat) (a0_0 : Int) (A0_1 : Option Addr) (c0_1 : Nat) (l0_1 : List (List Int)) (a1_1 : Int) (a1_2 : Int) (A1_3 : Option Addr) (c1_3 : Nat) (l1_3 : List Int) (cp rows r : List (List Int)) (g2 : Int) (w : World) (hr0_1 : Kd.C (Kd.slice 2 (Kd.int .i64)) w A0_1 l0_1.length l0_1) (hc0_1 : l0_1.length ≤ c0_1) (hr1_3 : Kd.C (Kd.int .i64) w A1_3 l1_3.length l1_3) (hc1_3 : l1_3.length ≤ c1_3)
  (hlen : l0_1.length ≤ 1000) (hrl : ∀ x ∈ l0_1, x.length ≤ 1000) (hwl : l1_3.length ≤ 2000000) (hcp : impl_copyLists.f k l0_1 = some cp) (hcl : cp.length = l0_1.length) (hi : impl_removed.f a0_0 l0_1 5 a1_1 a1_2 l1_3 = some (g2, rows) ∧ rows.length ≤ 1001) (hrows : rows = rows) (hmr : mapRed k rows = some r) :
  Calls Try.prog 68 #[.agg #[.int .i64 a0_0, .slice A0_1 l0_1.length c0_1], .agg #[.int .i64 5, .int .i64 a1_1, .int .i64 a1_2, .slice A1_3 l1_3.length c1_3]] w fun e w' => ∃ v0_ : Value, e = .returned (.agg #[.int .i64 g2, v0_]) ∧ Kd.S (Kd.slice 2 (Kd.int .i64)) 39 w' w.heap.size (fun _ => True) v0_ r ∧ Below w.heap.size w w' := by
 have hbig := hr0_1.2.1
 have HR0 := Aside0.mk hr0_1
 have HC0 := Aside0.mk hc0_1
 have HR3 := Aside0.mk hr1_3
 have HC3 := Aside0.mk hc1_3
 have HLEN := Aside0.mk (And.intro hlen (And.intro hrl hwl))
 have HCP := Aside0.mk hcp
 have HCL := Aside0.mk hcl
 have HROWS := Aside0.mk hrows
 have HMR := Aside0.mk (mapRed_at k rows r hmr)
 have HREM := Aside0.mk hi
 clear hr0_1 hc0_1 hr1_3 hc1_3 hlen hrl hwl hcp hcl hrows hmr hi
 go_enter Try.func68, Try.ntmps68
 go_wp2_with (first
  | (refine be_ 2 28 #[.int .i64 a0_0, .slice A0_1 l0_1.length c0_1] ?_; intro b2 hg w2 hbox hb; have B2 := Aside0.mk hbox; have G2 := Aside0.mk (show w.heap.size ≤ b2 by rw [hg]; exact Nat.le_refl _); have HB2 := Aside0.mk hb; clear hg hbox hb)
  | (refine be_ 3 44 #[.int .i64 5, .int .i64 a1_1, .int .i64 a1_2, .slice A1_3 l1_3.length c1_3] ?_; intro b3 hg w3 hbox hb; have B23 := Aside0.mk (blk_below B2.out hb); have G3 := Aside0.mk (show w.heap.size ≤ b3 by rw [hg]; exact HB2.out.size); have B3 := Aside0.mk hbox; have HB3 := Aside0.mk (below_step HB2.out hb); clear hg hbox hb B2 HB2)
  | (refine be_ 4 28 #[.int .i64 0, .slice none 0 0] ?_; intro b4 hg w4 hbox hb; have B24 := Aside0.mk (blk_below B23.out hb); have B34 := Aside0.mk (blk_below B3.out hb); have G4 := Aside0.mk (show w.heap.size ≤ b4 by rw [hg]; exact HB3.out.size); have B4 := Aside0.mk hbox; have HB4 := Aside0.mk (below_step HB3.out hb); clear hg hbox hb B23 B3 HB3))
 have HB5 := Aside0.mk (below_drew1 HB4.out)
 have B25 := Aside0.mk (blk_drew B24.out)
 have B35 := Aside0.mk (blk_drew B34.out)
 have B45 := Aside0.mk (blk_drew B4.out)
 refine start_ (n := 8) (S := fun w' => w'.cell? ⟨b2, 0, none⟩ = some (.int .i64 a0_0) ∧ w'.cell? ⟨b2, 1, none⟩ = some (.slice A0_1 l0_1.length c0_1)) (ds := []) (kA_ 8 0) (by kernel_rfl) rfl (by kernel_rfl) ⟨(blk_cell B25.out 0).trans rfl, (blk_cell B25.out 1).trans rfl⟩ (fun hHeld => ?_)
 clear HB4 B24 B34 B4
 generalize w4.drew = w5 at HB5 B25 B35 B45 hHeld ⊢
 refine kz_ 0 9 (kA_ 8 1) ?_
 refine kt_ 1 10 (kA_ 8 3) hHeld ?_
 refine kz_ 2 11 (kA_ 8 7) ?_
 refine kt_ 3 12 (kA_ 8 15) hHeld ?_
 have HCALL := Aside0.mk fun (W : World) (hW : Below w.heap.size w W) => impl_copyLists.calls k A0_1 c0_1 l0_1 cp W (Kd.C_below HR0.out hW) HC0.out HCP.out
 refine join_ (σ := Value × Nat) 1 (kA_ 8 127) (fun s_ => [(13, s_.1), (5, .pointer (some ⟨s_.2, 0, none⟩)), (14, .agg #[.int .i64 a0_0, s_.1])]) (fun s_ w' => (∃ A c, s_.1 = .slice A cp.length c) ∧ FR0 w b2 b3 b4 s_.2 #[.int .i64 a0_0, .slice A0_1 l0_1.length c0_1] #[.int .i64 5, .int .i64 a1_1, .int .i64 a1_2, .slice A1_3 l1_3.length c1_3] s_.1 cp w') ?_ ?_
 rotate_left
 ·intro hCont
  refine two_ (i := 4) (j := 6) (Ni := some 13) (Nj := some 5) (kA_ 8 31) (kA_ 8 79) rfl rfl rfl rfl (by kernel_rfl) (by decide) (by decide) (fun K hK => ?_) (fun K hK => ?_)
  ·go_simp
   go_at_call 44
   refine (HCALL.out _ HB5.out).mono ?_
   rintro e w6 ⟨u, rfl, ho, hb⟩
   obtain ⟨Au, cu, eu⟩ := Kd.S_slice ho
   subst eu
   have HS := Aside0.mk (Kd.S_lower ho HB5.out.size)
   have HB6 := Aside0.mk (below_step HB5.out hb)
   have B26 := Aside0.mk (blk_below B25.out hb)
   have B36 := Aside0.mk (blk_below B35.out hb)
   have B46 := Aside0.mk (blk_below B45.out hb)
   clear ho hb HB5 B25 B35 B45
   refine hK.out _ _ ⟨(blk_cell B26.out 0).trans rfl, (blk_cell B26.out 1).trans rfl⟩ (fun hHeld => ?_)
   clear hK K
   refine kz_ 5 14 (kA_ 8 63) ?_
   refine oa_ 6 5 (kA_ 8 127) (fun K hK => ?_)
   refine box_step ?hg (N := 5) ?hd (cs := #[.int .i64 0, .slice none 0 0]) (t := 28) ?hr ?_; (case hd => rfl); (case hg => rfl); (case hr => first | (go_simp; done) | (go_simp; rfl))
   intro b5 hg w7 hbox hb
   have HF := Aside0.mk (show FR0 w b2 b3 b4 b5 #[.int .i64 a0_0, .slice A0_1 l0_1.length c0_1] #[.int .i64 5, .int .i64 a1_1, .int .i64 a1_2, .slice A1_3 l1_3.length c1_3] (.slice Au cp.length cu) cp w7 from ⟨blk_below B26.out hb, blk_below B36.out hb, blk_below B46.out hb, hbox, Kd.S_below HS.out hb, below_step HB6.out hb, by rw [hg]; exact Nat.ne_of_lt (blk_lt B26.out), by rw [hg]; exact Nat.ne_of_lt (blk_lt B36.out), by rw [hg]; exact Nat.ne_of_lt (blk_lt B46.out), G4.out, by rw [hg]; exact HB6.out.size⟩)
   clear hg hbox hb HS HB6 B26 B36 B46
   refine hK.out _ _ ⟨(blk_cell HF.out.1 0).trans rfl, (blk_cell HF.out.1 1).trans rfl⟩ (fun hHeld => ?_)
   clear hK K
   refine nm_ 5 ?_
   exact norm_ (by simp only [putAll, Act.put, List.setIfInBounds_toArray, List.set_cons_zero, List.set_cons_succ]) (hCont (.slice Au cp.length cu, b5) _ ⟨⟨_, _, rfl⟩, HF.out⟩)
  ·refine box_step ?hg (N := 5) ?hd (cs := #[.int .i64 0, .slice none 0 0]) (t := 28) ?hr ?_; (case hd => rfl); (case hg => rfl); (case hr => first | (go_simp; done) | (go_simp; rfl))
   intro b5 hg w6 hbox hb
   have HB6 := Aside0.mk (below_step HB5.out hb)
   have B26 := Aside0.mk (blk_below B25.out hb)
   have B36 := Aside0.mk (blk_below B35.out hb)
   have B46 := Aside0.mk (blk_below B45.out hb)
   have B56 := Aside0.mk hbox
   have HD := Aside0.mk (show FD w b2 b3 b4 b5 from ⟨by rw [hg]; exact Nat.ne_of_lt (blk_lt B25.out), by rw [hg]; exact Nat.ne_of_lt (blk_lt B35.out), by rw [hg]; exact Nat.ne_of_lt (blk_lt B45.out), G4.out, by rw [hg]; exact HB5.out.size⟩)
   clear hg hbox hb HB5 B25 B35 B45
   refine hK.out _ _ ⟨(blk_cell B26.out 0).trans rfl, (blk_cell B26.out 1).trans rfl⟩ (fun hHeld => ?_)
   clear hK K
   refine nm_ 5 ?_
   refine oa_ 4 13 (kA_ 8 95) (fun K hK => ?_)
   go_simp
   go_at_call 44
   refine (HCALL.out _ HB6.out).mono ?_
   rintro e w7 ⟨u, rfl, ho, hb⟩
   obtain ⟨Au, cu, eu⟩ := Kd.S_slice ho
   subst eu
   have HF := Aside0.mk (show FR0 w b2 b3 b4 b5 #[.int .i64 a0_0, .slice A0_1 l0_1.length c0_1] #[.int .i64 5, .int .i64 a1_1, .int .i64 a1_2, .slice A1_3 l1_3.length c1_3] (.slice Au cp.length cu) cp w7 from ⟨blk_below B26.out hb, blk_below B36.out hb, blk_below B46.out hb, blk_below B56.out hb, Kd.S_lower ho HB6.out.size, below_step HB6.out hb, HD.out⟩)
   clear ho hb HB6 B26 B36 B46 B56
   refine hK.out _ _ ⟨(blk_cell HF.out.1 0).trans rfl, (blk_cell HF.out.1 1).trans rfl⟩ (fun hHeld => ?_)
   clear hK K
   refine kz_ 5 14 (kA_ 8 127) ?_
   exact norm_ (by simp only [putAll, Act.put, List.setIfInBounds_toArray, List.set_cons_zero, List.set_cons_succ]) (hCont (.slice Au cp.length cu, b5) _ ⟨⟨_, _, rfl⟩, HF.out⟩)
 rintro ⟨u, b5⟩ w7 ⟨⟨Au, cu, eu⟩, hF⟩
 simp only at eu hF
 subst eu
 have HF0 := Aside0.mk hF
 have HD := Aside0.mk hF.2.2.2.2.2.2
 clear hF HCALL HB5 B25 B35 B45 hHeld
 refine norm_ (a' := ?_) ?_ ?_
 rotate_left
 ·simp only [putAll, Act.put, List.setIfInBounds_toArray, List.set_cons_zero, List.set_cons_succ]
  rfl
 refine one_ (i := 7) (N := none) (kA_ 8 255) rfl rfl (by kernel_rfl) (by decide) (fun K hK => ?_)
 have y0 : w7.cell? ⟨b5, 0, none⟩ = some (.int .i64 0) := (blk_cell HF0.out.2.2.2.1 0).trans rfl
 have y1 : w7.cell? ⟨b5, 1, none⟩ = some (.slice none 0 0) := (blk_cell HF0.out.2.2.2.1 1).trans rfl
 have y2 := blk_frozen HF0.out.2.2.2.1 0
 have y3 := blk_frozen HF0.out.2.2.2.1 1
 refine skip_ (w1 := ?_) (by rfl) rfl ?_ ?_
 rotate_left
 ·go_simp
  rfl
 have HF := Aside0.mk (HF0.out.put a0_0)
 refine hK.out _ _ ⟨(blk_cell HF.out.p 0).trans rfl, (blk_cell HF.out.p 1).trans rfl⟩ (fun hHeld => ?_)
 clear hK K y0 y1 y2 y3 HF0 hHeld
 refine done_ (by kernel_rfl) ?_
 generalize ((w7.setCell ⟨b5, 0, none⟩ (.int .i64 a0_0)).setCell ⟨b5, 1, none⟩ (.slice Au cp.length cu)) = w8 at HF ⊢
 have yk : w8.cell? ⟨b3, 0, none⟩ = some (.int .i64 5) := (blk_cell HF.out.m 0).trans rfl
 have HCALL := Aside0.mk (impl_removed.calls a0_0 A0_1 c0_1 l0_1 5 a1_1 a1_2 A1_3 c1_3 l1_3 g2 rows w8 (Kd.C_below HR0.out HF.out.b) HC0.out (Kd.C_below HR3.out HF.out.b) HC3.out HREM.out.1)
 have HRS := Aside0.mk HREM.out.2
 have q0 : w8.cell? ⟨b2, 0, none⟩ = some (.int .i64 a0_0) := (blk_cell HF.out.p 0).trans rfl
 have q1 : w8.cell? ⟨b2, 1, none⟩ = some (.slice A0_1 l0_1.length c0_1) := (blk_cell HF.out.p 1).trans rfl
 have q3 : w8.cell? ⟨b3, 1, none⟩ = some (.int .i64 a1_1) := (blk_cell HF.out.m 1).trans rfl
 have q4 : w8.cell? ⟨b3, 2, none⟩ = some (.int .i64 a1_2) := (blk_cell HF.out.m 2).trans rfl
 have q5 : w8.cell? ⟨b3, 3, none⟩ = some (.slice A1_3 l1_3.length c1_3) := (blk_cell HF.out.m 3).trans rfl
 clear HREM
 go_wp2_with (go_at_call 104; refine HCALL.out.mono ?_; rintro e w9 ⟨v9, rfl, hs9, hb9⟩; obtain ⟨Av, cv, ev⟩ := Kd.S_slice hs9; obtain ⟨mu, hmv⟩ : ∃ q, q = rows.length := ⟨_, rfl⟩; rw [← hmv] at ev; clear hmv; subst ev; have HFb := Aside0.mk (HF.out.below hb9); have HS9 := Aside0.mk (Kd.S_lower hs9 HF.out.b.size); have y0 : w9.cell? ⟨b5, 0, none⟩ = some (.int .i64 a0_0) := (blk_cell HFb.out.o 0).trans rfl; have y1 : w9.cell? ⟨b5, 1, none⟩ = some (.slice Au cp.length cu) := (blk_cell HFb.out.o 1).trans rfl; have y2 := blk_frozen HFb.out.o 0; have y3 := blk_frozen HFb.out.o 1; have HF9 := Aside0.mk (FR.setall HD.out HFb.out HS9.out g2); clear hs9 hb9 q0 q1 q3 q4 q5 yk HCALL)
 generalize ((w9.setCell ⟨b5, 0, none⟩ (.int .i64 g2)).setCell ⟨b5, 1, none⟩ (.slice Av mu cv)) = w14 at HF9 ⊢
 clear HF HFb HS9
 have HF := HF9
 clear HF9
 obtain ⟨Au, rfl⟩ : ∃ q, q = Av := ⟨_, rfl⟩
 obtain ⟨cu, rfl⟩ : ∃ q, q = cv := ⟨_, rfl⟩
 have z1 : w14.cell? ⟨b5, 1, none⟩ = some (.slice Au mu cu) := (blk_cell HF.out.o 1).trans rfl
 have HMU := Aside0.mk (Kd.S_reads' HF.out.s).1
 have HSM := Aside0.mk (show mu ≤ 1001 by rw [HMU.out]; exact HRS.out)
 go_wp2
 clear z1
 have HFs := Aside0.mk (show FR w b2 b3 b4 b5 #[.int .i64 a0_0, .slice A0_1 l0_1.length c0_1] #[.int .i64 5, .int .i64 a1_1, .int .i64 a1_2, .slice A1_3 l1_3.length c1_3] g2 (.slice Au mu cu) (redTo r rows 0) w14 by simpa [redTo] using HF.out)
 go_loopg [7, 8, 113] mu (fun gg _ _ s113 wr => ∃ kk : Nat, kk ≤ mu ∧ mu - kk ≤ gg ∧ s113 = .int .i64 kk ∧ Aside0 (FR w b2 b3 b4 b5 #[.int .i64 a0_0, .slice A0_1 l0_1.length c0_1] #[.int .i64 5, .int .i64 a1_1, .int .i64 a1_2, .slice A1_3 l1_3.length c1_3] g2 (.slice Au mu cu) (redTo r rows kk) wr))
 case atStart => exact ⟨0, Nat.zero_le _, by omega, rfl, HFs⟩
 case round =>
  clear HF HFs
  obtain ⟨kk, hkk, hg, rfl, HF⟩ := hrel
  have hmu := HMU.out
  have hml := HMR.out.1
  by_cases hlt : kk < mu
  ·have hltz : (kk : Int) < (mu : Int) := by omega
   have hkl : kk < rows.length := by omega
   have hkr : kk < r.length := by omega
   have hll := redTo_len r rows kk hml (by omega)
   obtain ⟨go, cap, eg, gb, gl, cl, HG⟩ := Kd.S_form HF.out.s (by omega)
   injection eg with e1 e2 e3
   subst e1 e3
   have hC := (Kd.S_reads' HF.out.s).2.2
   obtain ⟨ad2, A', c', e, hx0, hle, hcrow⟩ := at_rowC hC kk (by omega)
   injection e with e
   subst e
   rw [redTo_at r rows kk hml hkl (by omega)] at hx0 hle hcrow
   rw [add_plain] at hx0
   have z1 : wr.cell? ⟨b5, 1, none⟩ = some (.slice (some ⟨go, 0, none⟩) mu cu) := (blk_cell HF.out.o 1).trans rfl
   have HSET := Aside0.mk (redTo_set r rows kk hml hkl hkr)
   have HCALL := Aside0.mk fun (W : World) (hW : Below wr.heap.size wr W) => impl_reduced.calls k A' c' rows[kk] r[kk] W (Kd.C_below hcrow hW) hle (HMR.out.2 kk hkl hkr)
   have HLL := Aside0.mk hll
   generalize rows[kk] = row2 at hx0 hle hcrow HCALL
   generalize hrk : r[kk] = tn at HSET HCALL
   clear hmu hml hkl e2 gb gl cl HG hC hle hcrow hll hrk hkr
   go_upto_region 21 with fail
   have hb1 := below_drew1 (Below.refl wr.heap.size wr)
   have HF1 := Aside0.mk (HF.out.below hb1)
   have HC1 := Aside0.mk (HCALL.out _ hb1)
   have pk2 : ((kk : Int) < (mu : Int)) = True := eq_true hltz
   refine start_ (n := 7) (S := fun w' => w'.cell? ⟨b5, 1, none⟩ = some (.slice (some ⟨go, 0, none⟩) mu cu)) (ds := [6]) (kA_ 7 0) (by kernel_rfl) rfl (by kernel_rfl) ((blk_cell HF1.out.o 1).trans rfl) (fun hHeld => ?_)
   clear HF hb1 hx0 z1 HCALL
   generalize wr.drew = w11 at HF1 HC1 hHeld ⊢
   refine kz_ 0 118 (kA_ 7 1) ?_
   refine kt_ 1 119 (kA_ 7 3) hHeld ?_
   refine kz_ 2 120 (kA_ 7 7) ?_
   refine kz_ 3 121 (kA_ 7 15) ?_
   refine oa_ 4 122 (kA_ 7 31) (fun K hK => ?_)
   go_simp
   go_at_call 58
   refine HC1.out.mono ?_
   rintro e w12 ⟨v12, rfl, ho12, hb12⟩
   have HS2 := Aside0.mk (Kd.S_elder' HF1.out.s (Kd.R_base ho12) hb12)
   have HF2 := Aside0.mk (HF1.out.below hb12)
   have HN2 := Aside0.mk (Kd.R_lower ho12 HF1.out.b.size)
   obtain ⟨An, cn, en⟩ := Kd.R_slice ho12
   obtain ⟨mn, hmn⟩ : ∃ q, q = tn.length := ⟨_, rfl⟩
   rw [← hmn] at en
   clear hmn
   subst en
   clear ho12 hb12 HC1 HF1
   refine hK.out _ _ ((blk_cell HF2.out.o 1).trans rfl) (fun hHeld2 => ?_)
   clear hK K hHeld
   refine kz_ 5 123 (kA_ 7 63) ?_
   have HF3 := Aside0.mk (FR.elem HF2.out HS2.out (i := kk) (by have := HLL.out; have := HMU.out; omega) HN2.out)
   rw [HSET.out] at HF3
   obtain ⟨Ax, mx_, cx, x1, x2⟩ := S_at_ HF2.out.s kk (by have := HLL.out; have := HMU.out; omega)
   refine last_ (i := 6) (N := none) (kA_ 7 127) rfl rfl (by kernel_rfl) (by decide) (fun K hK => ?_)
   refine skip_ (w1 := ?_) (by rfl) rfl ?_ ?_
   rotate_left
   ·go_simp
    rfl
   refine hK.out _ _ ?_
   clear hK K x1 x2 HS2 HF2 HN2 hHeld2
   refine done_ (by kernel_rfl) ?_
   generalize (w12.setCell ⟨go, kk, none⟩ (.slice An mn cn)) = w14 at HF3 ⊢
   go_wp2
   go_roundg (mu - (kk + 1))
   case measure => omega
   case rel => exact ⟨kk + 1, by omega, by omega, (by first | rfl | exact congrArg (Value.int .i64) (show wrap64 ((kk : Int) + 1) = ((kk + 1 : Nat) : Int) by have := HSM.out; unfold wrap64; omega)), HF3⟩
  ·have hltz : ¬ (kk : Int) < (mu : Int) := by omega
   have hk : kk = mu := by omega
   subst hk
   have y0 : wr.cell? ⟨b5, 0, none⟩ = some (.int .i64 g2) := (blk_cell HF.out.o 0).trans rfl
   have y1 : wr.cell? ⟨b5, 1, none⟩ = some (.slice Au kk cu) := (blk_cell HF.out.o 1).trans rfl
   have y2 : wr.cell? ⟨b4, 0, none⟩ = some (.int .i64 0) := (blk_cell HF.out.z 0).trans rfl
   have y3 : wr.cell? ⟨b4, 1, none⟩ = some (.slice none 0 0) := (blk_cell HF.out.z 1).trans rfl
   have y4 := blk_frozen HF.out.z 0
   have y5 := blk_frozen HF.out.z 1
   have y6 := HD.out.2.2.1
   have y7 := HD.out.2.2.1.symm
   have HE := Aside0.mk (show redTo r rows kk = r by unfold redTo; rw [List.take_of_length_le (by omega), List.drop_of_length_le (by omega), List.append_nil])
   rw [HE.out] at HF
   clear hmu hml
   go_wp2
   refine bodyPost_ret (results_cell_row rfl _ _ b4 28 #[.int .i64 g2, .slice Au kk cu] (0, 0) _ rfl (blk_put (blk_put HF.out.z 0 _ rfl) 1 _ rfl) Try.underlying28 rfl (by kernel_rfl)) rfl ?_
   exact ⟨_, rfl, Kd.S_set (Kd.S_set HF.out.s HF.out.z (by decide) 0 _) (blk_put HF.out.z 0 _ rfl) (by decide) 1 _, below_set (below_set HF.out.b HD.out.2.2.2.1) HD.out.2.2.2.1⟩

end Go.Proofs.Ytbcdngjajjgmkaa.PFnExactSimplifyPresentation
