/- Written by this session's program out of the kit's print and this session's contracts. -/
import Derived.Test.YtmffjekpnibnfaaPFnPermGroupx0
import Derived.Test.YtmffjekpnibnfaaPFnPermGroupx1
namespace Go.Proofs.Ytmffjekpnibnfaa.PFnPermGroup
open Go.RowKit Go.Proofs.YtmffjekpnibnfaaW.PrintWords Go.Proofs.YtmffjekpnibnfaaW.PrintLast Go.Proofs.YtmffjekpnibnfaaW.PrintMore
attribute [local go_sem] max2_int min2_int max_two min_two max_three min_three max_four min_four   -- for this text's walks alone
set_option linter.unusedVariables false
set_option linter.unusedSimpArgs false

/-! ### impl_indexOf: function 53 -/
/-- One image, less the smaller ones ahead of it. -/
def ixIn (q : List Int) (i : Nat) : Nat → Int
  | 0 => rd q i
  | j + 1 => if rd q j < rd q i then wrap64 (ixIn q i j - 1) else ixIn q i j
def ixOut (q : List Int) : Nat → Int
  | 0 => 0
  | i + 1 => wrap64 (ixOut q i + wrap64 (ixIn q i i * rd [6, 2, 1, 1] i))
def impl_indexOf.f (q : List Int) : Option Int := if q.length = 4 then some (ixOut q 4) else none
theorem heap_allocs2 (w : World) (o0 o1 : Obj) (W : World) (hW : W = (w.alloc o0).alloc o1) : Below w.heap.size w W ∧ W.heap[w.heap.size]? = some o0 ∧ W.heap[w.heap.size + 1]? = some o1 := by
  subst hW
  have s1 : ∀ (v : World) (o : Obj), (v.alloc o).heap.size = v.heap.size + 1 := fun v o => by show (v.heap.push o).size = _; simp
  have n1 : ∀ (v : World) (o : Obj) (k : Nat), k = v.heap.size → (v.alloc o).heap[k]? = some o := fun v o k hk => by rw [hk]; exact heap_alloc_new v o
  refine ⟨Below.alloc (Below.alloc (Below.refl _ _) (Nat.le_refl _) _) (by rw [s1]; omega) _, ?_, ?_⟩
  · rw [Below.heap_alloc _ _ _ (by rw [s1]; omega)]
    exact n1 _ _ _ rfl
  · exact n1 _ _ _ (by rw [s1])
set_option maxHeartbeats 8000000 in
set_option maxRecDepth 100000 in
theorem impl_indexOf.calls (q : List Int) (r : Int) (w : World) (h : impl_indexOf.f q = some r) :
    Calls Try.prog 53 #[.agg (nums .i64 q).toArray] w fun e w' => e = .returned (.int .i64 r) ∧ Below w.heap.size w w' := by
  unfold impl_indexOf.f at h
  by_cases hp : q.length = 4
  case neg => rw [if_neg hp] at h; exact absurd h (by simp)
  rw [if_pos hp] at h
  obtain rfl := Option.some.inj h
  obtain ⟨x0, x1, x2, x3, hq⟩ : ∃ x0 x1 x2 x3, q = [x0, x1, x2, x3] := by
    match q, hp with
    | [x0, x1, x2, x3], _ => exact ⟨x0, x1, x2, x3, rfl⟩
  rw [show (nums .i64 q).toArray = #[.int .i64 x0, .int .i64 x1, .int .i64 x2, .int .i64 x3] by rw [hq]; rfl]
  have HQ := Aside0.mk hq
  clear h hp hq
  go_enter Try.func53, Try.ntmps53
  go_wp2
  obtain ⟨W, hW⟩ : ∃ W, W = (w.alloc (.cells #[.int .i64 x0, .int .i64 x1, .int .i64 x2, .int .i64 x3] 45 (0, 0))).alloc (.cells #[.int .i64 6, .int .i64 2, .int .i64 1, .int .i64 1] 2 (0, 0)) := ⟨_, rfl⟩
  obtain ⟨hb, h0, h1⟩ := heap_allocs2 w _ _ W hW
  rw [← hW]
  have HB := Aside0.mk hb
  have hat : ∀ j, j < 4 → W.cell? ⟨w.heap.size, j, none⟩ = some (.int .i64 (rd q j)) := fun j hj => by
    rw [blk_cell h0 j]
    exact (by rw [HQ.out]; rfl : (#[.int .i64 x0, .int .i64 x1, .int .i64 x2, .int .i64 x3] : Array Value) = (nums .i64 q).toArray) ▸ nums_at q j (by rw [HQ.out]; exact hj)
  have hab : ∀ j, j < 4 → W.cell? ⟨w.heap.size + 1, j, none⟩ = some (.int .i64 (rd [6, 2, 1, 1] j)) := fun j hj => by
    rw [blk_cell h1 j]
    exact nums_at [6, 2, 1, 1] j hj
  have HA := Aside0.mk hat
  have HAB := Aside0.mk hab
  clear hb h0 h1 hW hat hab
  go_loopg [3, 11] 4 (fun gg s3 s11 wr => ∃ i : Nat, gg + i = 4 ∧ s3 = .int .i64 (ixOut q i) ∧ s11 = .int .i64 i ∧ wr = W)
  case atStart => exact ⟨0, rfl, rfl, rfl, rfl⟩
  case round =>
    obtain ⟨i, hi, rfl, rfl, rfl⟩ := hrel
    obtain ⟨g0, hg0⟩ : ∃ g0, g0 = gk := ⟨_, rfl⟩
    subst hg0
    by_cases h4 : i = 4
    · subst h4
      go_wp2
      go_ret
      exact ⟨rfl, HB.out⟩
    · have hi4 : i < 4 := by omega
      have hd : decide ((i : Int) < 4) = true := decide_eq_true (by omega)
      have hi4t : ((i : Int) < 4) = True := eq_true (by omega)
      have hi4u : (i < 4) = True := eq_true (by omega)
      have hi4n : (i ≤ 4) = True := eq_true (by omega)
      have hcb := HAB.out i hi4
      have hci := HA.out i hi4
      have hsl := run_slice4 w.heap.size i (Nat.le_of_lt hi4)
      have w3_ : IntKind.i64.wrap ((i : Int) + 1) = ((i + 1 : Nat) : Int) := by rw [i64_w]; unfold wrap64; omega
      have HI := Aside0.mk hi
      have HI4 := Aside0.mk hi4
      clear hi h4 hi4
      go_wp2
      go_loopg [6, 22] i (fun g2 s6 s22 wr2 => ∃ j : Nat, g2 + j = i ∧ s6 = .int .i64 (ixIn q i j) ∧ s22 = .int .i64 j ∧ wr2 = wr)
      case atStart => exact ⟨0, by omega, rfl, rfl, rfl⟩
      case round =>
        obtain ⟨j, hj, rfl, rfl, rfl⟩ := hrel
        by_cases hji : j = i
        · subst hji
          go_wp2
          go_roundg (g0 - 1)
          case measure => have := HI.out; have := HI4.out; omega
          case rel => exact ⟨j + 1, by have := HI.out; have := HI4.out; omega, rfl, rfl, rfl⟩
        · have hji2 : j < i := by omega
          have hdj : decide ((j : Int) < (i : Int)) = true := decide_eq_true (by omega)
          have hjt : ((j : Int) < (i : Int)) = True := eq_true (by omega)
          have hjn : (j < i) = True := eq_true hji2
          have hcj := HA.out j (by have := HI4.out; omega)
          have w4_ : IntKind.i64.wrap ((j : Int) + 1) = ((j + 1 : Nat) : Int) := by rw [i64_w]; have := HI4.out; unfold wrap64; omega
          by_cases hgt : rd q j < rd q i
          · have hgd : decide (rd q (j : Int) < rd q (i : Int)) = true := decide_eq_true hgt
            have HJ := Aside0.mk hj
            have HJI := Aside0.mk hji2
            have hs : ixIn q i (j + 1) = wrap64 (ixIn q i j - 1) := if_pos hgt
            have HS := Aside0.mk hs
            clear hj hji hji2 hgt hs
            go_wp2
            go_roundg (gk - 1)
            case measure => have := HJ.out; have := HJI.out; omega
            case rel => exact ⟨j + 1, by have := HJ.out; have := HJI.out; omega, by rw [HS.out], rfl, rfl⟩
          · have hgd : decide (rd q (j : Int) < rd q (i : Int)) = false := decide_eq_false hgt
            have HJ := Aside0.mk hj
            have HJI := Aside0.mk hji2
            have hs : ixIn q i (j + 1) = ixIn q i j := if_neg hgt
            have HS := Aside0.mk hs
            clear hj hji hji2 hgt hs
            go_wp2
            go_roundg (gk - 1)
            case measure => have := HJ.out; have := HJI.out; omega
            case rel => exact ⟨j + 1, by have := HJ.out; have := HJI.out; omega, by rw [HS.out], rfl, rfl⟩


/-! ### impl_IndexOfPerm4: function 26 -/
def impl_IndexOfPerm4.f (k : Nat) (l0 : List Int) : Option Int := (impl_isPermutation.f k l0 4).bind fun b => if b = true then impl_indexOf.f l0 else some (-1)
theorem run_arrayAt4 (ad : Addr) (c : Nat) (W : World) : (Instr.arrayAt 45 (.slice (some ad) 4 c)).run Try.prog W = .ok (.pointer (some ad)) W := by
  simp [Instr.arrayAt, Try.underlying45, run_underlying, go_sem]
theorem impl_IndexOfPerm4.mono : ∀ l0 k, LeO (impl_IndexOfPerm4.f k l0) (impl_IndexOfPerm4.f (k + 1) l0) := by
  intro l k
  unfold impl_IndexOfPerm4.f
  exact LeO.bind (impl_isPermutation.mono l 4 k) fun _ => LeO.refl _
set_option maxHeartbeats 8000000 in
set_option maxRecDepth 100000 in
theorem impl_IndexOfPerm4.calls (k : Nat) (A0 : Option Addr) (c0 : Nat) (l0 : List Int) (r : Int) (w : World) (hr0 : Kd.C (Kd.int .i64) w A0 l0.length l0) (hc0 : l0.length ≤ c0) (h : impl_IndexOfPerm4.f k l0 = some r) :
    Calls Try.prog 26 #[.slice A0 l0.length c0] w fun e w' => e = .returned (.int .i64 r) ∧ Below w.heap.size w w' := by
  unfold impl_IndexOfPerm4.f at h
  obtain ⟨b, hb, h⟩ := Option.bind_eq_some_iff.mp h
  have CP := Aside0.mk (impl_isPermutation.calls k A0 c0 l0 4 b w hr0 hc0 hb)
  clear hb
  cases b with
  | false =>
    obtain rfl := Option.some.inj h
    clear h hr0 hc0
    go_enter Try.func26, Try.ntmps26
    go_wp2_with (go_at_call 52; refine CP.out.mono ?_; rintro e w1 ⟨rfl, hb1⟩)
    go_ret
    exact ⟨rfl, hb1⟩
  | true =>
    rw [if_pos rfl] at h
    have hl : l0.length = 4 := by
      unfold impl_indexOf.f at h
      by_cases hp : l0.length = 4
      · exact hp
      · rw [if_neg hp] at h; exact absurd h (by simp)
    have CI := Aside0.mk (fun W => impl_indexOf.calls l0 r W h)
    obtain ⟨ad, e, hx0⟩ := Kd.at_int hr0 0 (by omega) (by omega)
    cases e
    obtain ⟨ad1, e, hx1⟩ := Kd.at_int hr0 1 (by omega) (by omega)
    cases e
    obtain ⟨ad2, e, hx2⟩ := Kd.at_int hr0 2 (by omega) (by omega)
    cases e
    obtain ⟨ad3, e, hx3⟩ := Kd.at_int hr0 3 (by omega) (by omega)
    cases e
    have hla : (nums .i64 l0).toArray = #[.int .i64 (rd l0 0), .int .i64 (rd l0 1), .int .i64 (rd l0 2), .int .i64 (rd l0 3)] := by
      clear CI CP hx0 hx1 hx2 hx3 h hr0 hc0
      match l0, hl with
      | [z0, z1, z2, z3], _ => rfl
    rw [hla] at CI
    rw [show (Int.toNat 0) = 0 from rfl, Addr.add_zero'] at hx0
    rw [show (Int.toNat 1) = 0 + 1 from rfl, add_field ad 0 1 (by decide), Addr.add_zero'] at hx1
    rw [show (Int.toNat 2) = 0 + 2 from rfl, add_field ad 0 2 (by decide), Addr.add_zero'] at hx2
    rw [show (Int.toNat 3) = 0 + 3 from rfl, add_field ad 0 3 (by decide), Addr.add_zero'] at hx3
    have HX := Aside0.mk (And.intro hx0 (And.intro hx1 (And.intro hx2 hx3)))
    rw [hl] at CP ⊢
    have har := run_arrayAt4 ad c0
    clear hr0 hc0 h hx0 hx1 hx2 hx3 hla hl
    go_enter Try.func26, Try.ntmps26
    go_wp2_with (first
      | (go_at_call 52; refine CP.out.mono ?_; rintro e w1 ⟨rfl, hb1⟩; have hy0 := pw_cell_below hb1 HX.out.1; have hy1 := pw_cell_below hb1 HX.out.2.1; have hy2 := pw_cell_below hb1 HX.out.2.2.1; have hy3 := pw_cell_below hb1 HX.out.2.2.2)
      | (go_at_call 53; refine (CI.out _).mono ?_; rintro e w5 ⟨rfl, hb5⟩))
    go_ret
    exact ⟨rfl, below_then hb1 hb1.size hb5⟩


/-! ### impl_invert: function 57 -/
def inL (q : List Int) : Nat → List Int
  | 0 => [0, 0, 0, 0]
  | i + 1 => (inL q i).set (rd q i).toNat i
theorem inL_length (q : List Int) : ∀ i, (inL q i).length = 4
  | 0 => rfl
  | i + 1 => by unfold inL; rw [List.length_set, inL_length q i]
theorem rd_perm (n : Nat) (hn : n < 24) (i : Nat) (hi : i < 4) : 0 ≤ rd (permL n) i ∧ rd (permL n) i < 4 := by
  refine (permL_ok n hn).2 _ ?_
  have := (permL_ok n hn).1
  simp [rd, List.getD, List.getElem?_eq_getElem (show i < (permL n).length by omega)]
def impl_invert.f (a0 : Int) : Option Int := if 0 ≤ a0 ∧ a0 < 24 then some (ixOut (inL (permL a0.toNat) 4) 4) else none
structure InvW (q : List Int) (i : Nat) (w wr : World) : Prop where
  b : Below w.heap.size w wr
  h0 : wr.heap[w.heap.size]? = some (.cells (nums .i64 (inL q i)).toArray 45 (0, 0))
set_option maxHeartbeats 8000000 in
set_option maxRecDepth 100000 in
theorem impl_invert.calls (a0 : Int) (r : Int) (w : World) (h : impl_invert.f a0 = some r) :
    Calls Try.prog 57 #[.int .i64 a0] w fun e w' => e = .returned (.int .i64 r) ∧ Below w.heap.size w w' := by
  unfold impl_invert.f at h
  by_cases hp : 0 ≤ a0 ∧ a0 < 24
  case neg => rw [if_neg hp] at h; exact absurd h (by simp)
  rw [if_pos hp] at h
  obtain rfl := Option.some.inj h
  obtain ⟨x0, x1, x2, x3, hq, hc⟩ := perm_lit a0 hp
  have CF := Aside0.mk hc
  have hrd := rd_perm a0.toNat (by omega)
  obtain ⟨q, hq'⟩ : ∃ q, q = permL a0.toNat := ⟨_, rfl⟩
  rw [← hq'] at hq hrd ⊢
  have HQ := Aside0.mk hq
  have HR := Aside0.mk hrd
  have hix : ∀ i, i < 4 → ∀ w, (Instr.index 45 (.agg #[.int .i64 x0, .int .i64 x1, .int .i64 x2, .int .i64 x3]) (.int .i64 ((i : Nat) : Int))).run Try.prog w = .ok (.int .i64 (rd q i)) w := fun i hi w =>
    run_index4 _ i _ (by have := nums_at q i (by rw [HQ.out]; exact hi); rw [HQ.out] at this ⊢; exact this) hi w
  have HX := Aside0.mk hix
  obtain ⟨w0, hw0⟩ : ∃ w0, w0 = w.alloc (.cells #[.int .i64 0, .int .i64 0, .int .i64 0, .int .i64 0] 45 (0, 0)) := ⟨_, rfl⟩
  obtain ⟨hb0, hz0⟩ := HB3_of w w (Below.refl _ _) #[.int .i64 0, .int .i64 0, .int .i64 0, .int .i64 0] 45
  rw [← hw0] at hb0 hz0
  have hsz : w.heap.size ≤ w0.heap.size := hb0.size
  have HB0 := Aside0.mk hb0
  have HZ0 := Aside0.mk hz0
  have HSZ := Aside0.mk hsz
  have HW0 := Aside0.mk hw0
  clear h hp hc hq hq' hrd hix hb0 hz0 hsz hw0
  go_enter Try.func57, Try.ntmps57
  go_wp2_with (go_at_call 48; (try rw [← HW0.out]); refine (CF.out _).mono ?_; rintro e w3 ⟨rfl, hb3⟩)
  have HI0 : Aside0 (InvW q 0 w w3) := ⟨⟨below_then HB0.out HSZ.out hb3, (blk_below HZ0.out hb3).trans rfl⟩⟩
  clear hb3 HB0 HZ0 HSZ HW0 CF
  go_loopg [8] 4 (fun gg s8 wr => ∃ i : Nat, gg + i = 4 ∧ s8 = .int .i64 i ∧ Aside0 (InvW q i w wr))
  case atStart => exact ⟨0, rfl, rfl, HI0⟩
  case round =>
    clear HI0
    obtain ⟨i, hi, rfl, HW⟩ := hrel
    by_cases h4 : i = 4
    · subst h4
      have hl := inL_length q 4
      have hcc : ∀ j, j < 4 → wr.cell? ⟨w.heap.size, j, none⟩ = some (.int .i64 (rd (inL q 4) j)) := fun j hj => by
        rw [blk_cell HW.out.h0 j]
        exact nums_at _ j (by omega)
      have a0_ := hcc 0 (by decide)
      have a1_ := hcc 1 (by decide)
      have a2_ := hcc 2 (by decide)
      have a3_ := hcc 3 (by decide)
      have CI := Aside0.mk (fun W => impl_indexOf.calls (inL q 4) (ixOut (inL q 4) 4) W (by unfold impl_indexOf.f; rw [if_pos hl]))
      have hla : (nums .i64 (inL q 4)).toArray = #[.int .i64 (rd (inL q 4) 0), .int .i64 (rd (inL q 4) 1), .int .i64 (rd (inL q 4) 2), .int .i64 (rd (inL q 4) 3)] := by
        generalize inL q 4 = m at hl
        match m, hl with
        | [y0, y1, y2, y3], _ => rfl
      rw [hla] at CI
      clear hcc hl hla
      go_wp2_with (go_at_call 53; refine (CI.out _).mono ?_; rintro e w5 ⟨rfl, hb5⟩)
      go_ret
      exact ⟨rfl, below_then HW.out.b HW.out.b.size hb5⟩
    · have hi4 : i < 4 := by omega
      have hd : decide ((i : Int) < 4) = true := decide_eq_true (by omega)
      have hi4t : ((i : Int) < 4) = True := eq_true (by omega)
      have hxi := HX.out i hi4
      obtain ⟨x, hx⟩ : ∃ x : Nat, rd q i = x := ⟨(rd q i).toNat, by have := (HR.out i hi4).1; omega⟩
      have hx4 : x < 4 := by have := (HR.out i hi4).2; omega
      rw [hx] at hxi
      have hs : inL q (i + 1) = (inL q i).set x i := by show (inL q i).set (rd q i).toNat i = _; rw [hx, Int.toNat_natCast]
      have hcx : wr.cell? ⟨w.heap.size, x, none⟩ = some (.int .i64 (rd (inL q i) x)) := by rw [blk_cell HW.out.h0 x]; exact nums_at _ x (by rw [inL_length]; exact hx4)
      have hfx := blk_frozen HW.out.h0 x
      have hx4t : ((x : Int) < 4) = True := eq_true (by omega)
      have w3_ : IntKind.i64.wrap ((i : Int) + 1) = ((i + 1 : Nat) : Int) := by rw [i64_w]; unfold wrap64; omega
      have HI := Aside0.mk hi
      have HI4 := Aside0.mk hi4
      have HS := Aside0.mk hs
      clear hi h4 hi4 hs hx hx4
      go_wp2
      go_roundg (gk - 1)
      case measure => have := HI.out; have := HI4.out; omega
      case rel =>
        refine ⟨i + 1, by have := HI.out; have := HI4.out; omega, rfl, ⟨HW.out.b.setCell (Nat.le_refl _) _, ?_⟩⟩
        rw [HS.out]
        exact (blk_set HW.out.h0 x _).trans (by rw [nums_set])


/-! ### impl_compose: function 55 -/
def cmL (a b : List Int) : Nat → List Int
  | 0 => [0, 0, 0, 0]
  | i + 1 => (cmL a b i).set i (rd b (rd a i))
theorem cmL_length (a b : List Int) : ∀ i, (cmL a b i).length = 4
  | 0 => rfl
  | i + 1 => by unfold cmL; rw [List.length_set, cmL_length a b i]
def impl_compose.f (a0 a1 : Int) : Option Int := if (0 ≤ a0 ∧ a0 < 24) ∧ 0 ≤ a1 ∧ a1 < 24 then some (ixOut (cmL (permL a0.toNat) (permL a1.toNat) 4) 4) else none
theorem heap_allocs3 (w : World) (o0 o1 o2 : Obj) (W : World) (hW : W = ((w.alloc o0).alloc o1).alloc o2) : Below w.heap.size w W ∧ W.heap[w.heap.size]? = some o0 ∧ W.heap[w.heap.size + 1]? = some o1 ∧ W.heap[w.heap.size + 1 + 1]? = some o2 := by
  subst hW
  have s1 : ∀ (v : World) (o : Obj), (v.alloc o).heap.size = v.heap.size + 1 := fun v o => by show (v.heap.push o).size = _; simp
  have n1 : ∀ (v : World) (o : Obj) (k : Nat), k = v.heap.size → (v.alloc o).heap[k]? = some o := fun v o k hk => by rw [hk]; exact heap_alloc_new v o
  refine ⟨Below.alloc (Below.alloc (Below.alloc (Below.refl _ _) (Nat.le_refl _) _) (by rw [s1]; omega) _) (by rw [s1, s1]; omega) _, ?_, ?_, ?_⟩
  · rw [Below.heap_alloc _ _ _ (by rw [s1, s1]; omega), Below.heap_alloc _ _ _ (by rw [s1]; omega)]
    exact n1 _ _ _ rfl
  · rw [Below.heap_alloc _ _ _ (by rw [s1, s1]; omega)]
    exact n1 _ _ _ (by rw [s1])
  · exact n1 _ _ _ (by rw [s1, s1])
structure CmpW (q u : List Int) (i g : Nat) (w wr : World) : Prop where
  b : Below w.heap.size w wr
  hb : w.heap.size ≤ g
  h0 : wr.heap[g]? = some (.cells (nums .i64 u).toArray 45 (0, 0))
  h1 : wr.heap[g + 1]? = some (.cells (nums .i64 (cmL q u i)).toArray 45 (0, 0))
set_option maxHeartbeats 8000000 in
set_option maxRecDepth 100000 in
theorem impl_compose.calls (a0 a1 : Int) (r : Int) (w : World) (h : impl_compose.f a0 a1 = some r) :
    Calls Try.prog 55 #[.int .i64 a0, .int .i64 a1] w fun e w' => e = .returned (.int .i64 r) ∧ Below w.heap.size w w' := by
  unfold impl_compose.f at h
  by_cases hp : (0 ≤ a0 ∧ a0 < 24) ∧ 0 ≤ a1 ∧ a1 < 24
  case neg => rw [if_neg hp] at h; exact absurd h (by simp)
  rw [if_pos hp] at h
  obtain rfl := Option.some.inj h
  obtain ⟨x0, x1, x2, x3, hq, hc⟩ := perm_lit a0 hp.1
  obtain ⟨y0, y1, y2, y3, hu, hd⟩ := perm_lit a1 hp.2
  have CF := Aside0.mk hc
  have CG := Aside0.mk hd
  have hrd := rd_perm a0.toNat (by omega)
  obtain ⟨q, hq'⟩ : ∃ q, q = permL a0.toNat := ⟨_, rfl⟩
  obtain ⟨u, hu'⟩ : ∃ u, u = permL a1.toNat := ⟨_, rfl⟩
  rw [← hq'] at hq hrd ⊢
  rw [← hu'] at hu ⊢
  have HQ := Aside0.mk hq
  have HU := Aside0.mk hu
  have HR := Aside0.mk hrd
  have hix : ∀ i, i < 4 → ∀ w, (Instr.index 45 (.agg #[.int .i64 x0, .int .i64 x1, .int .i64 x2, .int .i64 x3]) (.int .i64 ((i : Nat) : Int))).run Try.prog w = .ok (.int .i64 (rd q i)) w := fun i hi w =>
    run_index4 _ i _ (by have := nums_at q i (by rw [HQ.out]; exact hi); rw [HQ.out] at this ⊢; exact this) hi w
  have HX := Aside0.mk hix
  clear h hp hc hd hq hq' hu hu' hrd hix
  go_enter Try.func55, Try.ntmps55
  go_wp2_with (first
    | (go_at_call 48; refine (CF.out _).mono ?_; rintro e w1 ⟨rfl, hb1⟩; have HB1 := Aside0.mk hb1; clear hb1 CF)
    | (go_at_call 48; refine (CG.out _).mono ?_; rintro e w2 ⟨rfl, hb2⟩; have HB2 := Aside0.mk (below_then HB1.out HB1.out.size hb2); clear hb2 HB1 CG))
  obtain ⟨W, hW⟩ : ∃ W, W = ((w2.alloc (.cells #[.int .i64 x0, .int .i64 x1, .int .i64 x2, .int .i64 x3] 45 (0, 0))).alloc (.cells #[.int .i64 y0, .int .i64 y1, .int .i64 y2, .int .i64 y3] 45 (0, 0))).alloc (.cells #[.int .i64 0, .int .i64 0, .int .i64 0, .int .i64 0] 45 (0, 0)) := ⟨_, rfl⟩
  obtain ⟨hbw, _, hh0, hh1⟩ := heap_allocs3 w2 _ _ _ W hW
  rw [← hW]
  have HI0 : Aside0 (CmpW q u 0 (w2.heap.size + 1) w W) := ⟨⟨below_then HB2.out HB2.out.size hbw, Nat.le_trans HB2.out.size (Nat.le_succ _), by rw [hh0, HU.out]; rfl, hh1⟩⟩
  have hul : u.length = 4 := by rw [HU.out]; rfl
  have HUL := Aside0.mk hul
  clear hW hbw hh0 hh1 HB2 hul
  go_loopg [15] 4 (fun gg s15 wr => ∃ i : Nat, gg + i = 4 ∧ s15 = .int .i64 i ∧ Aside0 (CmpW q u i (w2.heap.size + 1) w wr))
  case atStart => exact ⟨0, rfl, rfl, HI0⟩
  case round =>
    clear HI0
    obtain ⟨i, hi, rfl, HW⟩ := hrel
    by_cases h4 : i = 4
    · subst h4
      have hl := cmL_length q u 4
      have hcc : ∀ j, j < 4 → wr.cell? ⟨w2.heap.size + 1 + 1, j, none⟩ = some (.int .i64 (rd (cmL q u 4) j)) := fun j hj => by
        rw [blk_cell HW.out.h1 j]
        exact nums_at _ j (by omega)
      have a0_ := hcc 0 (by decide)
      have a1_ := hcc 1 (by decide)
      have a2_ := hcc 2 (by decide)
      have a3_ := hcc 3 (by decide)
      have CI := Aside0.mk (fun W => impl_indexOf.calls (cmL q u 4) (ixOut (cmL q u 4) 4) W (by unfold impl_indexOf.f; rw [if_pos hl]))
      have hla : (nums .i64 (cmL q u 4)).toArray = #[.int .i64 (rd (cmL q u 4) 0), .int .i64 (rd (cmL q u 4) 1), .int .i64 (rd (cmL q u 4) 2), .int .i64 (rd (cmL q u 4) 3)] := by
        generalize cmL q u 4 = m at hl
        match m, hl with
        | [z0, z1, z2, z3], _ => rfl
      rw [hla] at CI
      clear hcc hl hla
      go_wp2_with (go_at_call 53; refine (CI.out _).mono ?_; rintro e w5 ⟨rfl, hb5⟩)
      go_ret
      exact ⟨rfl, below_then HW.out.b HW.out.b.size hb5⟩
    · have hi4 : i < 4 := by omega
      have hd : decide ((i : Int) < 4) = true := decide_eq_true (by omega)
      have hi4t : ((i : Int) < 4) = True := eq_true (by omega)
      have hxi := HX.out i hi4
      obtain ⟨x, hx⟩ : ∃ x : Nat, rd q i = x := ⟨(rd q i).toNat, by have := (HR.out i hi4).1; omega⟩
      have hx4 : x < 4 := by have := (HR.out i hi4).2; omega
      rw [hx] at hxi
      have hs : cmL q u (i + 1) = (cmL q u i).set i (rd u x) := by show (cmL q u i).set i (rd u (rd q i)) = _; rw [hx]
      have hcx : wr.cell? ⟨w2.heap.size + 1, x, none⟩ = some (.int .i64 (rd u x)) := by rw [blk_cell HW.out.h0 x]; exact nums_at _ x (by have := HUL.out; omega)
      have hci : wr.cell? ⟨w2.heap.size + 1 + 1, i, none⟩ = some (.int .i64 (rd (cmL q u i) i)) := by rw [blk_cell HW.out.h1 i]; exact nums_at _ i (by rw [cmL_length]; exact hi4)
      have hfx := blk_frozen HW.out.h1 i
      have hx4t : ((x : Int) < 4) = True := eq_true (by omega)
      have w3_ : IntKind.i64.wrap ((i : Int) + 1) = ((i + 1 : Nat) : Int) := by rw [i64_w]; unfold wrap64; omega
      have HI := Aside0.mk hi
      have HI4 := Aside0.mk hi4
      have HS := Aside0.mk hs
      clear hi h4 hi4 hs hx hx4
      go_wp2
      go_roundg (gk - 1)
      case measure => have := HI.out; have := HI4.out; omega
      case rel =>
        refine ⟨i + 1, by have := HI.out; have := HI4.out; omega, rfl, ⟨HW.out.b.setCell (Nat.le_trans HW.out.hb (Nat.le_succ _)) _, HW.out.hb, (Below.heap_setCell _ _ _ _ (by show w2.heap.size + 1 ≠ w2.heap.size + 1 + 1; omega)).trans HW.out.h0, ?_⟩⟩
        rw [HS.out]
        exact (blk_set HW.out.h1 i _).trans (by rw [nums_set])


/-! ### impl_ComposePerm4: function 28 -/
def impl_ComposePerm4.f (a0 : Int) (a1 : Int) : Option (Int) := (impl_isPerm.f a0).bind fun t113 => (if t113 = true then ((impl_isPerm.f a1).bind fun t114 => (if t114 = true then ((impl_compose.f a0 a1).bind fun t115 => (some t115)) else (some (-1)))) else (some (-1)))
set_option maxHeartbeats 8000000 in
set_option maxRecDepth 100000 in
theorem impl_ComposePerm4.calls (a0 : Int) (a1 : Int) (r : Int) (w : World) (h : impl_ComposePerm4.f a0 a1 = some r) :
    Calls Try.prog 28 #[.int .i64 a0, .int .i64 a1] w fun e w' => e = .returned (.int .i64 r) ∧ Below w.heap.size w w' := by
  have HB := Aside0.mk (Below.refl w.heap.size w)
  have H : ((impl_isPerm.f a0).bind fun t113 => (if t113 = true then ((impl_isPerm.f a1).bind fun t114 => (if t114 = true then ((impl_compose.f a0 a1).bind fun t115 => (some t115)) else (some (-1)))) else (some (-1)))) = some r := h
  clear h
  replace H := Option.bind_eq_some_iff.mp H
  obtain ⟨t113, A30, H⟩ := H
  replace H : (if t113 = true then ((impl_isPerm.f a1).bind fun t114 => (if t114 = true then ((impl_compose.f a0 a1).bind fun t115 => (some t115)) else (some (-1)))) else (some (-1))) = some r := H
  have A3 := Aside0.mk A30
  clear A30
  by_cases c4 : t113 = true
  · subst c4
    have H1 : ((impl_isPerm.f a1).bind fun t114 => (if t114 = true then ((impl_compose.f a0 a1).bind fun t115 => (some t115)) else (some (-1)))) = some r := by rw [if_pos rfl] at H; exact H
    clear H
    have H := H1
    clear H1
    replace H := Option.bind_eq_some_iff.mp H
    obtain ⟨t114, A50, H⟩ := H
    replace H : (if t114 = true then ((impl_compose.f a0 a1).bind fun t115 => (some t115)) else (some (-1))) = some r := H
    have A5 := Aside0.mk A50
    clear A50
    by_cases c6 : t114 = true
    · subst c6
      have H1 : ((impl_compose.f a0 a1).bind fun t115 => (some t115)) = some r := by rw [if_pos rfl] at H; exact H
      clear H
      have H := H1
      clear H1
      replace H := Option.bind_eq_some_iff.mp H
      obtain ⟨t115, A70, H⟩ := H
      replace H : (some t115) = some r := H
      have A7 := Aside0.mk A70
      clear A70
      obtain rfl := Option.some.inj H
      go_enter Try.func28, Try.ntmps28
      go_wp2_with (first | ((with_reducible refine gate_callee (f := 46) rfl ?_); refine goesL_ (some 6) rfl rfl Try.func46 (by kernel_rfl) rfl #[.int .i64 a0] rfl (by (try simp only [List.map_toArray, List.map_cons, List.map_nil]); first | done | rfl | (simp only [List.length_drop, List.length_take]; rfl)) ?_; (with_reducible refine (impl_isPerm.calls a0 true _ A3.out).mono ?_); rintro e w' ⟨rfl, ⟨nd, rfl⟩⟩; refine ⟨_, rfl, ?_⟩) | (go_at_call 46; (with_reducible refine (impl_isPerm.calls a1 true _ A5.out).mono ?_); rintro e w' ⟨rfl, ⟨nd, rfl⟩⟩) | ((with_reducible refine gate_callee (f := 55) rfl ?_); refine goesL_ (some 15) rfl rfl Try.func55 (by kernel_rfl) rfl #[.int .i64 a0, .int .i64 a1] rfl (by (try simp only [List.map_toArray, List.map_cons, List.map_nil]); first | done | rfl | (simp only [List.length_drop, List.length_take]; rfl)) ?_; (with_reducible refine (impl_compose.calls a0 a1 t115 _ A7.out).mono ?_); rintro e w8 ⟨rfl, hb⟩; refine ⟨_, rfl, ?_⟩; have n0_ := Aside0.mk (below_step (by repeat (first | (with_reducible first | exact HB.out | apply below_alloc | apply pw_below_drewN | apply below_drew1) | exact HB.out)) hb); clear HB; have HB := n0_; clear n0_; (try clear hb); (try clear hb2); (try clear hk); (try clear hi)))
      go_ret
      exact ⟨by first | rfl | (simp [errW_none, errW_some] <;> rfl) | (simp [*, errW_none, errW_some] <;> rfl), by repeat (first | (with_reducible first | exact HB.out | apply below_alloc | apply pw_below_drewN | apply below_drew1) | exact HB.out)⟩
    · replace c6 := Bool.eq_false_iff.mpr c6
      subst c6
      have H1 : (some (-1)) = some r := by rw [if_neg (show ¬ (false = true) by decide)] at H; exact H
      clear H
      have H := H1
      clear H1
      obtain rfl := Option.some.inj H
      go_enter Try.func28, Try.ntmps28
      go_wp2_with (first | ((with_reducible refine gate_callee (f := 46) rfl ?_); refine goesL_ (some 6) rfl rfl Try.func46 (by kernel_rfl) rfl #[.int .i64 a0] rfl (by (try simp only [List.map_toArray, List.map_cons, List.map_nil]); first | done | rfl | (simp only [List.length_drop, List.length_take]; rfl)) ?_; (with_reducible refine (impl_isPerm.calls a0 true _ A3.out).mono ?_); rintro e w' ⟨rfl, ⟨nd, rfl⟩⟩; refine ⟨_, rfl, ?_⟩) | (go_at_call 46; (with_reducible refine (impl_isPerm.calls a1 false _ A5.out).mono ?_); rintro e w' ⟨rfl, ⟨nd, rfl⟩⟩))
      go_ret
      exact ⟨by first | rfl | (simp [errW_none, errW_some] <;> rfl) | (simp [*, errW_none, errW_some] <;> rfl), by repeat (first | (with_reducible first | exact HB.out | apply below_alloc | apply pw_below_drewN | apply below_drew1) | exact HB.out)⟩
  · replace c4 := Bool.eq_false_iff.mpr c4
    subst c4
    have H1 : (some (-1)) = some r := by rw [if_neg (show ¬ (false = true) by decide)] at H; exact H
    clear H
    have H := H1
    clear H1
    obtain rfl := Option.some.inj H
    go_enter Try.func28, Try.ntmps28
    go_wp2_with (first | ((with_reducible refine gate_callee (f := 46) rfl ?_); refine goesL_ (some 6) rfl rfl Try.func46 (by kernel_rfl) rfl #[.int .i64 a0] rfl (by (try simp only [List.map_toArray, List.map_cons, List.map_nil]); first | done | rfl | (simp only [List.length_drop, List.length_take]; rfl)) ?_; (with_reducible refine (impl_isPerm.calls a0 false _ A3.out).mono ?_); rintro e w' ⟨rfl, ⟨nd, rfl⟩⟩; refine ⟨_, rfl, ?_⟩))
    go_ret
    exact ⟨by first | rfl | (simp [errW_none, errW_some] <;> rfl) | (simp [*, errW_none, errW_some] <;> rfl), by repeat (first | (with_reducible first | exact HB.out | apply below_alloc | apply pw_below_drewN | apply below_drew1) | exact HB.out)⟩

/-! ### impl_InvertPerm4: function 30 -/
def impl_InvertPerm4.f (a0 : Int) : Option (Int) := (impl_isPerm.f a0).bind fun t116 => (if t116 = true then ((impl_invert.f a0).bind fun t117 => (some t117)) else (some (-1)))
set_option maxHeartbeats 8000000 in
set_option maxRecDepth 100000 in
theorem impl_InvertPerm4.calls (a0 : Int) (r : Int) (w : World) (h : impl_InvertPerm4.f a0 = some r) :
    Calls Try.prog 30 #[.int .i64 a0] w fun e w' => e = .returned (.int .i64 r) ∧ Below w.heap.size w w' := by
  have HB := Aside0.mk (Below.refl w.heap.size w)
  have H : ((impl_isPerm.f a0).bind fun t116 => (if t116 = true then ((impl_invert.f a0).bind fun t117 => (some t117)) else (some (-1)))) = some r := h
  clear h
  replace H := Option.bind_eq_some_iff.mp H
  obtain ⟨t116, A20, H⟩ := H
  replace H : (if t116 = true then ((impl_invert.f a0).bind fun t117 => (some t117)) else (some (-1))) = some r := H
  have A2 := Aside0.mk A20
  clear A20
  by_cases c3 : t116 = true
  · subst c3
    have H1 : ((impl_invert.f a0).bind fun t117 => (some t117)) = some r := by rw [if_pos rfl] at H; exact H
    clear H
    have H := H1
    clear H1
    replace H := Option.bind_eq_some_iff.mp H
    obtain ⟨t117, A40, H⟩ := H
    replace H : (some t117) = some r := H
    have A4 := Aside0.mk A40
    clear A40
    obtain rfl := Option.some.inj H
    go_enter Try.func30, Try.ntmps30
    go_wp2_with (first | ((with_reducible refine gate_callee (f := 46) rfl ?_); refine goesL_ (some 4) rfl rfl Try.func46 (by kernel_rfl) rfl #[.int .i64 a0] rfl (by (try simp only [List.map_toArray, List.map_cons, List.map_nil]); first | done | rfl | (simp only [List.length_drop, List.length_take]; rfl)) ?_; (with_reducible refine (impl_isPerm.calls a0 true _ A2.out).mono ?_); rintro e w' ⟨rfl, ⟨nd, rfl⟩⟩; refine ⟨_, rfl, ?_⟩) | ((with_reducible refine gate_callee (f := 57) rfl ?_); refine goesL_ (some 7) rfl rfl Try.func57 (by kernel_rfl) rfl #[.int .i64 a0] rfl (by (try simp only [List.map_toArray, List.map_cons, List.map_nil]); first | done | rfl | (simp only [List.length_drop, List.length_take]; rfl)) ?_; (with_reducible refine (impl_invert.calls a0 t117 _ A4.out).mono ?_); rintro e w5 ⟨rfl, hb⟩; refine ⟨_, rfl, ?_⟩; have n0_ := Aside0.mk (below_step (by repeat (first | (with_reducible first | exact HB.out | apply below_alloc | apply pw_below_drewN | apply below_drew1) | exact HB.out)) hb); clear HB; have HB := n0_; clear n0_; (try clear hb); (try clear hb2); (try clear hk); (try clear hi)))
    go_ret
    exact ⟨by first | rfl | (simp [errW_none, errW_some] <;> rfl) | (simp [*, errW_none, errW_some] <;> rfl), by repeat (first | (with_reducible first | exact HB.out | apply below_alloc | apply pw_below_drewN | apply below_drew1) | exact HB.out)⟩
  · replace c3 := Bool.eq_false_iff.mpr c3
    subst c3
    have H1 : (some (-1)) = some r := by rw [if_neg (show ¬ (false = true) by decide)] at H; exact H
    clear H
    have H := H1
    clear H1
    obtain rfl := Option.some.inj H
    go_enter Try.func30, Try.ntmps30
    go_wp2_with (first | ((with_reducible refine gate_callee (f := 46) rfl ?_); refine goesL_ (some 4) rfl rfl Try.func46 (by kernel_rfl) rfl #[.int .i64 a0] rfl (by (try simp only [List.map_toArray, List.map_cons, List.map_nil]); first | done | rfl | (simp only [List.length_drop, List.length_take]; rfl)) ?_; (with_reducible refine (impl_isPerm.calls a0 false _ A2.out).mono ?_); rintro e w' ⟨rfl, ⟨nd, rfl⟩⟩; refine ⟨_, rfl, ?_⟩))
    go_ret
    exact ⟨by first | rfl | (simp [errW_none, errW_some] <;> rfl) | (simp [*, errW_none, errW_some] <;> rfl), by repeat (first | (with_reducible first | exact HB.out | apply below_alloc | apply pw_below_drewN | apply below_drew1) | exact HB.out)⟩

/-! ### impl_OrderPerm4: function 32 -/
def impl_OrderPerm4.l0 : Nat → Int → Int → Int → Option (Int)
  | 0, _, _, _ => none
  | k + 1, x0, x3, x4 => if x4 = 0 then (some x3) else ((impl_compose.f x4 x0).bind fun t119 => (impl_OrderPerm4.l0 k x0 (wrap64 (x3 + 1)) t119))
def impl_OrderPerm4.f (k : Nat) (a0 : Int) : Option (Int) := (impl_isPerm.f a0).bind fun t118 => (if t118 = true then (impl_OrderPerm4.l0 k a0 1 a0) else (some (-1)))
theorem impl_OrderPerm4.mono_l : ∀ k, (∀ y0 y1 y2, LeO (impl_OrderPerm4.l0 k y0 y1 y2) (impl_OrderPerm4.l0 (k + 1) y0 y1 y2))
  | 0 => fun _ _ _ r h => by simp [impl_OrderPerm4.l0] at h
  | k + 1 => by
    have ih0 := impl_OrderPerm4.mono_l k
    · intro y0 y1 y2
      unfold impl_OrderPerm4.l0
      repeat' first
      | (with_reducible exact ih0 _ _ _)
      | (with_reducible exact LeO.refl _)
      | (with_reducible exact LeO.none _)
      | (with_reducible refine LeO.ite ?_ ?_)
      | (with_reducible refine LeO.bind ?_ (fun _ => ?_))
      | exact ih0 _ _ _
      | exact LeO.none _
      | refine LeO.ite ?_ ?_
      | refine LeO.bind ?_ (fun _ => ?_)
theorem impl_OrderPerm4.mono : ∀ a0 k, LeO (impl_OrderPerm4.f k a0) (impl_OrderPerm4.f (k + 1) a0) := by
  intro a0 k
  have ih0 := impl_OrderPerm4.mono_l k
  unfold impl_OrderPerm4.f
  repeat' first
      | (with_reducible exact ih0 _ _ _)
      | (with_reducible exact LeO.refl _)
      | (with_reducible exact LeO.none _)
      | (with_reducible refine LeO.ite ?_ ?_)
      | (with_reducible refine LeO.bind ?_ (fun _ => ?_))
      | exact ih0 _ _ _
      | exact LeO.none _
      | refine LeO.ite ?_ ?_
      | refine LeO.bind ?_ (fun _ => ?_)
set_option maxHeartbeats 8000000 in
set_option maxRecDepth 100000 in
theorem impl_OrderPerm4.calls (k : Nat) (a0 : Int) (r : Int) (w : World) (h : impl_OrderPerm4.f k a0 = some r) :
    Calls Try.prog 32 #[.int .i64 a0] w fun e w' => e = .returned (.int .i64 r) ∧ Below w.heap.size w w' := by
  have HB := Aside0.mk (Below.refl w.heap.size w)
  have H : ((impl_isPerm.f a0).bind fun t118 => (if t118 = true then (impl_OrderPerm4.l0 k a0 1 a0) else (some (-1)))) = some r := h
  clear h
  replace H := Option.bind_eq_some_iff.mp H
  obtain ⟨t118, A20, H⟩ := H
  replace H : (if t118 = true then (impl_OrderPerm4.l0 k a0 1 a0) else (some (-1))) = some r := H
  have A2 := Aside0.mk A20
  clear A20
  by_cases c3 : t118 = true
  · subst c3
    have H1 : (impl_OrderPerm4.l0 k a0 1 a0) = some r := by rw [if_pos rfl] at H; exact H
    clear H
    have H := H1
    clear H1
    have H' := Aside0.mk H
    clear H
    go_enter Try.func32, Try.ntmps32
    go_wp2_with (first | ((with_reducible refine gate_callee (f := 46) rfl ?_); refine goesL_ (some 6) rfl rfl Try.func46 (by kernel_rfl) rfl #[.int .i64 a0] rfl (by (try simp only [List.map_toArray, List.map_cons, List.map_nil]); first | done | rfl | (simp only [List.length_drop, List.length_take]; rfl)) ?_; (with_reducible refine (impl_isPerm.calls a0 true _ A2.out).mono ?_); rintro e w' ⟨rfl, ⟨nd, rfl⟩⟩; refine ⟨_, rfl, ?_⟩))
    go_loopg [3, 4] k (fun kq v3 v4 w' => ∃ (x3_1 : Int) (x4_1 : Int), v3 = .int .i64 x3_1 ∧ v4 = .int .i64 x4_1 ∧ Aside0 (impl_OrderPerm4.l0 kq a0 x3_1 x4_1 = some r) ∧ Aside0 (kq ≤ k) ∧ Aside0 (Below w.heap.size w w'))
    case atStart => exact ⟨(1), (a0), (by first | rfl | (simp; done) | (simp [*]; done)), (by first | rfl | (simp; done) | (simp [*]; done)), H', ⟨Nat.le_refl _⟩, ⟨by repeat (first | (with_reducible first | exact HB.out | apply below_alloc | apply pw_below_drewN | apply below_drew1) | exact HB.out)⟩⟩
    case round =>
      clear H'
      try clear p2
      try clear c3
      obtain ⟨x3_1, x4_1, rfl, rfl, HA, HK1, HB⟩ := hrel
      cases gk with
      | zero => exact absurd HA.out (by simp [impl_OrderPerm4.l0])
      | succ k1 =>
        have H := HA.out
        clear HA
        simp only [impl_OrderPerm4.l0] at H
        by_cases c4 : x4_1 = 0
        · rw [if_pos c4] at H
          have c4b0 : (x4_1 == 0) = true := beq_iff_eq.mpr c4
          have c4b1 : (x4_1 != 0) = false := bne_eq_false_iff_eq.mpr c4
          clear c4
          obtain rfl := Option.some.inj H
          go_wp2
          go_ret
          exact ⟨by first | rfl | (simp [errW_none, errW_some] <;> rfl) | (simp [*, errW_none, errW_some] <;> rfl), by repeat (first | (with_reducible first | exact HB.out | apply below_alloc | apply pw_below_drewN | apply below_drew1) | exact HB.out)⟩
        · rw [if_neg c4] at H
          have c4b0 : (x4_1 == 0) = false := beq_eq_false_iff_ne.mpr c4
          have c4b1 : (x4_1 != 0) = true := bne_iff_ne.mpr c4
          replace H := Option.bind_eq_some_iff.mp H
          obtain ⟨t119, A50, H⟩ := H
          replace H : (impl_OrderPerm4.l0 k1 a0 (wrap64 (x3_1 + 1)) t119) = some r := H
          have A5 := Aside0.mk A50
          clear A50
          have H' := Aside0.mk H
          clear H
          go_wp2_with (first | ((with_reducible refine gate_callee (f := 55) rfl ?_); refine goesL_ (some 13) rfl rfl Try.func55 (by kernel_rfl) rfl #[.int .i64 x4_1, .int .i64 a0] rfl (by (try simp only [List.map_toArray, List.map_cons, List.map_nil]); first | done | rfl | (simp only [List.length_drop, List.length_take]; rfl)) ?_; (with_reducible refine (impl_compose.calls x4_1 a0 t119 _ A5.out).mono ?_); rintro e w6 ⟨rfl, hb⟩; refine ⟨_, rfl, ?_⟩; have n0_ := Aside0.mk (below_step (by repeat (first | (with_reducible first | exact HB.out | apply below_alloc | apply pw_below_drewN | apply below_drew1) | exact HB.out)) hb); clear HB; have HB := n0_; clear n0_; (try clear hb); (try clear hb2); (try clear hk); (try clear hi)))
          go_roundg k1
          case measure => have := HK1.out; omega
          case rel => exact ⟨(wrap64 (x3_1 + 1)), (t119), (by first | rfl | (simp; done) | (simp [*]; done)), (by first | rfl | (simp; done) | (simp [*]; done)), H', ⟨by have := HK1.out; omega⟩, ⟨by repeat (first | (with_reducible first | exact HB.out | apply below_alloc | apply pw_below_drewN | apply below_drew1) | exact HB.out)⟩⟩
  · replace c3 := Bool.eq_false_iff.mpr c3
    subst c3
    have H1 : (some (-1)) = some r := by rw [if_neg (show ¬ (false = true) by decide)] at H; exact H
    clear H
    have H := H1
    clear H1
    obtain rfl := Option.some.inj H
    go_enter Try.func32, Try.ntmps32
    go_wp2_with (first | ((with_reducible refine gate_callee (f := 46) rfl ?_); refine goesL_ (some 6) rfl rfl Try.func46 (by kernel_rfl) rfl #[.int .i64 a0] rfl (by (try simp only [List.map_toArray, List.map_cons, List.map_nil]); first | done | rfl | (simp only [List.length_drop, List.length_take]; rfl)) ?_; (with_reducible refine (impl_isPerm.calls a0 false _ A2.out).mono ?_); rintro e w' ⟨rfl, ⟨nd, rfl⟩⟩; refine ⟨_, rfl, ?_⟩))
    go_ret
    exact ⟨by first | rfl | (simp [errW_none, errW_some] <;> rfl) | (simp [*, errW_none, errW_some] <;> rfl), by repeat (first | (with_reducible first | exact HB.out | apply below_alloc | apply pw_below_drewN | apply below_drew1) | exact HB.out)⟩

/-! ### laws_big: function 35 -/
def laws_big.f (l0 : List Int) : Option (Bool) := some (decide ((l0.length : Int) > 4096))
set_option maxHeartbeats 8000000 in
set_option maxRecDepth 100000 in
theorem laws_big.calls (A0 : Option Addr) (c0 : Nat) (l0 : List Int) (r : Bool) (w : World) (hr0 : Kd.C (Kd.int .u8) w A0 l0.length l0) (hc0 : l0.length ≤ c0) (h : laws_big.f l0 = some r) :
    Calls Try.prog 35 #[.slice A0 l0.length c0] w fun e w' => e = .returned (.bool r) ∧ Drawn0 w w' := by
  have HR0 := Aside0.mk hr0
  have HC0 := Aside0.mk hc0
  clear hr0 hc0
  have H : (some (decide ((l0.length : Int) > 4096))) = some r := h
  clear h
  obtain rfl := Option.some.inj H
  go_enter Try.func35, Try.ntmps35
  go_wp2
  go_ret
  exact ⟨by first | rfl | (simp; done) | (simp [*]; done), by repeat (first | exact Drawn0.refl _ | apply Drawn0.step)⟩

end Go.Proofs.Ytmffjekpnibnfaa.PFnPermGroup
