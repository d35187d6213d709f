/- Written by this session's program out of the kit's print and this session's contracts. -/
import Derived.Test.YtbcdngjajjgmkaaVFnExactRepresentationAtPx0
import Derived.Test.YtbcdngjajjgmkaaVFnExactRepresentationAtPx9
namespace Go.Proofs.Ytbcdngjajjgmkaa.PFnExactRepresentationAt
open Go.RowKit Go.Proofs.YtbcdngjajjgmkaaW.PrintWords Go.Proofs.YtbcdngjajjgmkaaW.PrintLast Go.Proofs.YtbcdngjajjgmkaaW.PrintMore
attribute [local go_sem] max2_int min2_int max_two min_two max_three min_three max_four min_four   -- for this text's walks alone
set_option linter.unusedVariables false
set_option linter.unusedSimpArgs false

/-! ### slices_Index_int64_int64: function 118 -/
def slices_Index_int64_int64.l0 : Nat → List Int → Int → Int → Int → Option (Int)
  | 0, _, _, _, _ => none
  | k + 1, x0, x1, x7, x8 => if x8 < x7 then (if 0 ≤ x8 then (if x8 < (x0.length : Int) then (if x1 = (rd x0 x8) then (some x8) else (slices_Index_int64_int64.l0 k x0 x1 x7 (wrap64 (x8 + 1)))) else (none)) else (none)) else (some (-1))
def slices_Index_int64_int64.f (k : Nat) (l0 : List Int) (a1 : Int) : Option (Int) := slices_Index_int64_int64.l0 k l0 a1 (l0.length : Int) 0
theorem slices_Index_int64_int64.mono_l : ∀ k, (∀ y0 y1 y2 y3, LeO (slices_Index_int64_int64.l0 k y0 y1 y2 y3) (slices_Index_int64_int64.l0 (k + 1) y0 y1 y2 y3))
  | 0 => fun _ _ _ _ r h => by simp [slices_Index_int64_int64.l0] at h
  | k + 1 => by
    have ih0 := slices_Index_int64_int64.mono_l k
    · intro y0 y1 y2 y3
      unfold slices_Index_int64_int64.l0
      repeat' first
      | (with_reducible exact ih0 _ _ _ _)
      | (with_reducible exact LeO.refl _)
      | (with_reducible exact LeO.none _)
      | (with_reducible refine LeO.ite ?_ ?_)
      | (with_reducible refine LeO.bind ?_ (fun _ => ?_))
      | exact ih0 _ _ _ _
      | exact LeO.none _
      | refine LeO.ite ?_ ?_
      | refine LeO.bind ?_ (fun _ => ?_)
theorem slices_Index_int64_int64.mono : ∀ a0 a1 k, LeO (slices_Index_int64_int64.f k a0 a1) (slices_Index_int64_int64.f (k + 1) a0 a1) := by
  intro a0 a1 k
  have ih0 := slices_Index_int64_int64.mono_l k
  unfold slices_Index_int64_int64.f
  repeat' first
      | (with_reducible exact ih0 _ _ _ _)
      | (with_reducible exact LeO.refl _)
      | (with_reducible exact LeO.none _)
      | (with_reducible refine LeO.ite ?_ ?_)
      | (with_reducible refine LeO.bind ?_ (fun _ => ?_))
      | exact ih0 _ _ _ _
      | exact LeO.none _
      | refine LeO.ite ?_ ?_
      | refine LeO.bind ?_ (fun _ => ?_)
set_option maxHeartbeats 8000000 in
set_option maxRecDepth 100000 in
theorem slices_Index_int64_int64.calls (k : Nat) (A0 : Option Addr) (c0 : Nat) (l0 : List Int) (a1 : Int) (r : Int) (w : World) (hr0 : Kd.C (Kd.int .i64) w A0 l0.length l0) (hc0 : l0.length ≤ c0) (h : slices_Index_int64_int64.f k l0 a1 = some r) :
    Calls Try.prog 118 #[.slice A0 l0.length c0, .int .i64 a1] w fun e w' => e = .returned (.int .i64 r) ∧ Drawn0 w w' := by
  have HR0 := Aside0.mk hr0
  have HC0 := Aside0.mk hc0
  clear hr0 hc0
  have H : (slices_Index_int64_int64.l0 k l0 a1 (l0.length : Int) 0) = some r := h
  clear h
  have H' := Aside0.mk H
  clear H
  go_enter Try.func118, Try.ntmps118
  go_wp2
  go_loopg [8] k (fun kq v8 w' => ∃ (x8_1 : Int), v8 = .int .i64 x8_1 ∧ Aside0 (slices_Index_int64_int64.l0 kq l0 a1 (l0.length : Int) x8_1 = some r) ∧ Aside0 (kq ≤ k) ∧ Drawn0 w w')
  case atStart => exact ⟨(0), (by first | rfl | (simp; done) | (simp [*]; done)), H', ⟨Nat.le_refl _⟩, by repeat (first | exact Drawn0.refl _ | apply Drawn0.step)⟩
  case round =>
    clear H'
    try clear c1
    try clear p2
    obtain ⟨x8_1, rfl, HA, HK1, ⟨m1, rfl⟩⟩ := hrel
    cases gk with
    | zero => exact absurd HA.out (by simp [slices_Index_int64_int64.l0])
    | succ k1 =>
      have H := HA.out
      clear HA
      simp only [slices_Index_int64_int64.l0] at H
      by_cases c3 : x8_1 < (l0.length : Int)
      · rw [if_pos c3] at H
        have c3b0 : decide (x8_1 < (l0.length : Int)) = true := decide_eq_true c3
        clear c3
        by_cases c4 : 0 ≤ x8_1
        · rw [if_pos c4] at H
          have c4b0 : decide (0 ≤ x8_1) = true := decide_eq_true c4
          clear c4
          by_cases c5 : x8_1 < (l0.length : Int)
          · rw [if_pos c5] at H
            have c5b0 : decide (x8_1 < (l0.length : Int)) = true := decide_eq_true c5
            clear c5
            by_cases c6 : a1 = (rd l0 x8_1)
            · rw [if_pos c6] at H
              have c6b0 : (a1 == (rd l0 x8_1)) = true := beq_iff_eq.mpr c6
              have c6b1 : (a1 != (rd l0 x8_1)) = false := bne_eq_false_iff_eq.mpr c6
              clear c6
              obtain rfl := Option.some.inj H
              have p278 : 0 ≤ (x8_1 : Int) := of_decide_eq_true (by first | (with_reducible assumption) | assumption)
              have q278 : x8_1 < (l0.length : Int) := of_decide_eq_true (by first | (with_reducible assumption) | assumption)
              obtain ⟨ad278, e278, hx278_0⟩ := Kd.at_int HR0.out x8_1 p278 q278
              cases e278
              replace p278 := eq_true p278
              replace q278 := eq_true q278
              go_wp2
              go_ret
              exact ⟨by first | rfl | (simp; done) | (simp [*]; done), by repeat (first | exact Drawn0.refl _ | apply Drawn0.step)⟩
            · rw [if_neg c6] at H
              have c6b0 : (a1 == (rd l0 x8_1)) = false := beq_eq_false_iff_ne.mpr c6
              have c6b1 : (a1 != (rd l0 x8_1)) = true := bne_iff_ne.mpr c6
              have H' := Aside0.mk H
              clear H
              have p278 : 0 ≤ (x8_1 : Int) := of_decide_eq_true (by first | (with_reducible assumption) | assumption)
              have q278 : x8_1 < (l0.length : Int) := of_decide_eq_true (by first | (with_reducible assumption) | assumption)
              obtain ⟨ad278, e278, hx278_0⟩ := Kd.at_int HR0.out x8_1 p278 q278
              cases e278
              replace p278 := eq_true p278
              replace q278 := eq_true q278
              go_wp2
              go_roundg k1
              case measure => have := HK1.out; omega
              case rel => exact ⟨(wrap64 (x8_1 + 1)), (by first | rfl | (simp; done) | (simp [*]; done)), H', ⟨by have := HK1.out; omega⟩, by repeat (first | exact Drawn0.refl _ | apply Drawn0.step)⟩
          · rw [if_neg c5] at H
            exact absurd H (by simp)
        · rw [if_neg c4] at H
          exact absurd H (by simp)
      · rw [if_neg c3] at H
        have c3b0 : decide (x8_1 < (l0.length : Int)) = false := decide_eq_false c3
        clear c3
        obtain rfl := Option.some.inj H
        go_wp2
        go_ret
        exact ⟨by first | rfl | (simp; done) | (simp [*]; done), by repeat (first | exact Drawn0.refl _ | apply Drawn0.step)⟩

/-! ### slices_Contains_int64_int64: function 92 -/
def slices_Contains_int64_int64.f (k : Nat) (l0 : List Int) (a1 : Int) : Option (Bool) := (slices_Index_int64_int64.f k l0 a1).bind fun t279 => (some (decide (t279 ≥ 0)))
theorem slices_Contains_int64_int64.mono : ∀ a0 a1 k, LeO (slices_Contains_int64_int64.f k a0 a1) (slices_Contains_int64_int64.f (k + 1) a0 a1) := by
  intro a0 a1 k
  unfold slices_Contains_int64_int64.f
  repeat' first
      | (with_reducible exact slices_Index_int64_int64.mono _ _ _)
      | (with_reducible exact LeO.refl _)
      | (with_reducible exact LeO.none _)
      | (with_reducible refine LeO.ite ?_ ?_)
      | (with_reducible refine LeO.bind ?_ (fun _ => ?_))
      | exact slices_Index_int64_int64.mono _ _ _
      | exact LeO.none _
      | refine LeO.ite ?_ ?_
      | refine LeO.bind ?_ (fun _ => ?_)
set_option maxHeartbeats 8000000 in
set_option maxRecDepth 100000 in
theorem slices_Contains_int64_int64.calls (k : Nat) (A0 : Option Addr) (c0 : Nat) (l0 : List Int) (a1 : Int) (r : Bool) (w : World) (hr0 : Kd.C (Kd.int .i64) w A0 l0.length l0) (hc0 : l0.length ≤ c0) (h : slices_Contains_int64_int64.f k l0 a1 = some r) :
    Calls Try.prog 92 #[.slice A0 l0.length c0, .int .i64 a1] w fun e w' => e = .returned (.bool r) ∧ Drawn0 w w' := by
  have HR0 := Aside0.mk hr0
  have HC0 := Aside0.mk hc0
  clear hr0 hc0
  have H : ((slices_Index_int64_int64.f k l0 a1).bind fun t279 => (some (decide (t279 ≥ 0)))) = some r := h
  clear h
  replace H := Option.bind_eq_some_iff.mp H
  obtain ⟨t279, A30, H⟩ := H
  replace H : (some (decide (t279 ≥ 0))) = some r := H
  have A3 := Aside0.mk A30
  clear A30
  obtain rfl := Option.some.inj H
  go_enter Try.func92, Try.ntmps92
  go_wp2_with (first | ((with_reducible refine gate_callee (f := 118) rfl ?_); refine goesL_ (some 7) rfl rfl Try.func118 (by kernel_rfl) rfl #[.slice A0 l0.length c0, .int .i64 a1] rfl (by (try simp only [List.map_toArray, List.map_cons, List.map_nil]); first | done | rfl | (simp only [List.length_drop, List.length_take]; rfl)) ?_; (with_reducible refine (slices_Index_int64_int64.calls k _ _ l0 a1 t279 _ ?side1 ?side2 A3.out).mono ?_); (case side1 => repeat (first | exact HR0.out | (with_reducible refine Kd.C_alloc ?_ _) | (with_reducible refine Kd.C_drewN ?_ _) | (with_reducible refine Kd.C_drew ?_))); (case side2 => exact HC0.out); rintro e w' ⟨rfl, ⟨nd, rfl⟩⟩; refine ⟨_, rfl, ?_⟩))
  go_ret
  exact ⟨by first | rfl | (simp; done) | (simp [*]; done), by repeat (first | exact Drawn0.refl _ | apply Drawn0.step)⟩

/-! ### impl_permutationsOf: function 77 -/
theorem index_has (l : List Int) (x : Int) (hl : l.length ≤ 1000000) : ∀ (d i k : Nat), i + d = l.length → d < k → ∃ r, slices_Index_int64_int64.l0 k l x (l.length : Int) (i : Int) = some r ∧ decide (r ≥ 0) = decide (x ∈ l.drop i)
  | 0, i, k, hd, hk => by
    obtain ⟨k, rfl⟩ : ∃ m, k = m + 1 := ⟨k - 1, by omega⟩
    refine ⟨-1, by rw [slices_Index_int64_int64.l0, if_neg (by omega)], ?_⟩
    rw [List.drop_of_length_le (by omega)]
    simp
  | d + 1, i, k, hd, hk => by
    obtain ⟨k, rfl⟩ : ∃ m, k = m + 1 := ⟨k - 1, by omega⟩
    have hi : i < l.length := by omega
    have hr : rd l (i : Int) = l[i] := by simp [rd, List.getD, List.getElem?_eq_getElem hi]
    obtain ⟨r, h1, h2⟩ := index_has l x hl d (i + 1) k (by omega) (by omega)
    have ei : wrap64 ((i : Int) + 1) = ((i + 1 : Nat) : Int) := by unfold wrap64; omega
    have f1 : (i : Int) < (l.length : Int) := Int.ofNat_lt.2 hi
    by_cases c : x = rd l (i : Int)
    · refine ⟨(i : Int), by rw [slices_Index_int64_int64.l0, if_pos f1, if_pos (Int.natCast_nonneg i), if_pos f1, if_pos c], ?_⟩
      rw [List.drop_eq_getElem_cons hi, ← hr, ← c]
      simp
    · refine ⟨r, by rw [slices_Index_int64_int64.l0, if_pos f1, if_pos (Int.natCast_nonneg i), if_pos f1, if_neg c, ei]; exact h1, ?_⟩
      rw [h2, List.drop_eq_getElem_cons hi, ← hr]
      simp [c]
theorem contains_eq (l : List Int) (x : Int) (hl : l.length ≤ 1000000) : slices_Contains_int64_int64.f (l.length + 1) l x = some (decide (x ∈ l)) := by
  obtain ⟨r, h1, h2⟩ := index_has l x hl l.length 0 (l.length + 1) (by omega) (by omega)
  rw [List.drop_zero] at h2
  unfold slices_Contains_int64_int64.f slices_Index_int64_int64.f
  rw [show ((0 : Nat) : Int) = 0 from rfl] at h1
  rw [h1, Option.bind_some, h2]
/-- The permutations of degree n that begin with l, behind out; d numbers are missing yet. -/
def permsF (n : Nat) : Nat → List Int → List (List Int) → List (List Int)
  | 0, l, out => out ++ [l]
  | d + 1, l, out => ((List.range n).map fun (i : Nat) => (i : Int)).foldl (fun o x => if x ∈ l then o else permsF n d (l ++ [x]) o) out
def permsTo (n d : Nat) (l : List Int) (out : List (List Int)) (x : Nat) : List (List Int) := ((List.range x).map fun (i : Nat) => (i : Int)).foldl (fun o x => if x ∈ l then o else permsF n d (l ++ [x]) o) out
theorem permsTo_succ (n d : Nat) (l : List Int) (out : List (List Int)) (x : Nat) : permsTo n d l out (x + 1) = if (x : Int) ∈ l then permsTo n d l out x else permsF n d (l ++ [(x : Int)]) (permsTo n d l out x) := by
  unfold permsTo
  rw [List.range_succ, List.map_append, List.foldl_append]
  rfl
theorem permsF_len (n : Nat) : ∀ (d : Nat) (l : List Int) (out : List (List Int)), (permsF n d l out).length ≤ out.length + n ^ d
  | 0, l, out => by rw [permsF, List.length_append, List.length_singleton, Nat.pow_zero]; exact Nat.le_refl _
  | d + 1, l, out => by
    have key : ∀ x, (permsTo n d l out x).length ≤ out.length + x * n ^ d := by
      intro x
      induction x with
      | zero => rw [Nat.zero_mul]; exact Nat.le_refl _
      | succ x ih =>
        rw [permsTo_succ, Nat.succ_mul]
        split
        · omega
        · have := permsF_len n d (l ++ [(x : Int)]) (permsTo n d l out x)
          omega
    have := key n
    rw [Nat.pow_succ, Nat.mul_comm]
    exact this
theorem permsTo_len (n d : Nat) (l : List Int) (out : List (List Int)) (x : Nat) : (permsTo n d l out x).length ≤ out.length + x * n ^ d := by
  induction x with
  | zero => rw [Nat.zero_mul]; exact Nat.le_refl _
  | succ x ih =>
    rw [permsTo_succ, Nat.succ_mul]
    split
    · omega
    · have := permsF_len n d (l ++ [(x : Int)]) (permsTo n d l out x)
      omega
def impl_permutationsOf.f (a0 : Int) : Option (List (List Int)) := if 1 ≤ a0 ∧ a0 ≤ 4 then some (permsF a0.toNat a0.toNat [] []) else none
set_option maxHeartbeats 2000000 in
set_option maxRecDepth 100000 in
theorem size_ints_ (A : Option Addr) (n c : Nat) (w : World) : Calls Try.prog 110 #[.slice A n c] w fun e w' => e = .returned (.int .i64 n) ∧ w' = w := by
  go_enter Try.func110, Try.ntmps110
  go_wp2
  go_ret
  exact ⟨rfl, rfl⟩
theorem takeP {P : Program} {ops : Array Oper} {Q : Exit → Act → World → Prop} {md : Region.Mode} {S : World → Prop} {i : Nat} {oi : Oper} (d : Option Tmp) {v : Value} {fuel : Nat} {listed : Array Bool} {a : Act} {w : World} (hi : ops[i]? = some oi) (hd : oi.dst = d)
    (hs : Region.noSelect ops = true) (hf : Region.free md ops listed i = true) (hr : (Region.ready md ops listed).contains i = true)
    (hQ : ∀ c a w, Q (.panic c) (a.put d v) w → Q (.panic c) a w) (hy : YieldsIf P ops S oi v a) (hS : S w)
    (h : wpAnyH P md ops Q S fuel (listed.setIfInBounds i true) (a.put d v) w) : wpAnyH P md ops Q S (fuel + 1) listed a w := by
  subst hd
  exact wpAnyH_take hi hs hf hr hQ hy hS h
theorem row_one {W : World} {g : Nat} {x : Int} {e : TypeId} (h : W.heap[g]? = some (.cells #[.int .i64 x] e (0, 0))) : (Kd.int .i64).C W (some ⟨g, 0, none⟩) 1 [x] := by
  refine ⟨rfl, by omega, fun _ => ⟨_, rfl, fun j p hj => ?_⟩⟩
  cases j with
  | succ j => simp at hj
  | zero =>
    obtain rfl : x = p := by simpa using hj
    refine ⟨[.int .i64 x], rfl, rfl, fun q u hq => ?_⟩
    cases q with
    | succ q => simp at hq
    | zero =>
      obtain rfl : Value.int .i64 x = u := by simpa using hq
      rw [Nat.zero_mul]
      exact (blk_cell h 0).trans rfl
/-- The boxes n, out, grow of permutationsOf, and the rows that out holds. -/
structure PInv (w0 W : World) (b n : Nat) (v : Value) (out : List (List Int)) : Prop where
  below : Below w0.heap.size w0 W
  bn : W.heap[b]? = some (.cells #[.int .i64 (n : Int)] 2 (0, 0))
  bo : W.heap[b + 1]? = some (.cells #[v] 22 (0, 0))
  bg : W.heap[b + 2]? = some (.cells #[.func (.func 109) #[] #[.pointer (some ⟨b, 0, none⟩), .pointer (some ⟨b + 1, 0, none⟩), .pointer (some ⟨b + 2, 0, none⟩)]] 105 (0, 0))
  rows : Kd.N (Kd.slice 2 (Kd.int .i64)) 39 W (b + 3) (fun k => b + 3 ≤ k) v out
theorem PInv.room {w0 W : World} {b n : Nat} {v : Value} {out : List (List Int)} (h : PInv w0 W b n v out) : b + 3 ≤ W.heap.size := blk_lt h.bg
theorem PInv.step {w0 W W2 : World} {b n : Nat} {v : Value} {out : List (List Int)} (h : PInv w0 W b n v out) (hb : Below W.heap.size W W2) : PInv w0 W2 b n v out :=
  ⟨below_then h.below (below_size h.below) hb, (hb.block _ (blk_lt h.bn)).trans h.bn, (hb.block _ (blk_lt h.bo)).trans h.bo, (hb.block _ (blk_lt h.bg)).trans h.bg, Kd.N_below h.rows hb⟩
/-- What a call of grow leaves. -/
def PPost (w0 W : World) (b n : Nat) (v : Value) (res : List (List Int)) (e : Ending) (w' : World) : Prop :=
  e = .returned (.tuple #[]) ∧ ∃ v', PInv w0 w' b n v' res ∧ Kept W w' (fun k => k = b + 1 ∨ some k = v.ownBlock) ∧ (v'.ownBlock = v.ownBlock ∨ ∃ g, v'.ownBlock = some g ∧ W.heap.size ≤ g)
/-- The new list behind a call of grow. -/
theorem PInv.put {w0 W w1 : World} {b n : Nat} {v v1 : Value} {out out1 : List (List Int)} (hb0 : w0.heap.size ≤ b) (h : PInv w0 W b n v out) (hN : Kd.N (Kd.slice 2 (Kd.int .i64)) 39 w1 (b + 3) (fun k => b + 3 ≤ k) v1 out1) (hg : W.grownBy w1 v.ownBlock) :
    PInv w0 (w1.setCell ⟨b + 1, 0, none⟩ v1) b n v1 out1 := by
  have hne : ∀ g, g < b + 3 → some g ≠ v.ownBlock := fun g hlt he => by
    have := Kd.N_base h.rows g he.symm
    omega
  have h1 := blk_grown h.bn hg (hne b (by omega))
  have h2 := blk_grown h.bo hg (hne (b + 1) (by omega))
  have h3 := blk_grown h.bg hg (hne (b + 2) (by omega))
  refine ⟨below_set (pw_below_grown h.below v.ownBlock (below_size h.below) hg (fun k hk => by have := Kd.N_base h.rows k hk; omega)) (by omega), blk_far (p := ⟨b + 1, 0, none⟩) h1 (by simp) v1, ?_, blk_far (p := ⟨b + 1, 0, none⟩) h3 (by simp) v1, Kd.N_far (p := ⟨b + 1, 0, none⟩) hN (fun k hk => by show k ≠ b + 1; omega) v1⟩
  exact (blk_set h2 0 v1).trans rfl
/-- A round of grow's loop. -/
def PRel (w0 W : World) (b n d : Nat) (l : List Int) (A : Option Addr) (v : Value) (out : List (List Int)) (kk : Nat) (wr : World) : Prop :=
  ∃ vx, PInv w0 wr b n vx (permsTo n d l out kk) ∧ Kept W wr (fun k => k = b + 1 ∨ some k = v.ownBlock) ∧ (vx.ownBlock = v.ownBlock ∨ ∃ g, vx.ownBlock = some g ∧ W.heap.size ≤ g) ∧ Kd.F (Kd.int .i64) wr (fun k => b + 3 ≤ k ∧ some k ≠ vx.ownBlock) A l.length l
theorem PRel.step {w0 W wr W2 : World} {b n d kk : Nat} {l : List Int} {A : Option Addr} {v : Value} {out : List (List Int)} (h : PRel w0 W b n d l A v out kk wr) (hb : Below wr.heap.size wr W2) : PRel w0 W b n d l A v out kk W2 := by
  obtain ⟨vx, I, K, H, F⟩ := h
  exact ⟨vx, I.step hb, K.below hb, H, Kd.F_below F hb⟩
theorem PRel.next {w0 W wr w4 w5 : World} {b n d kk : Nat} {l : List Int} {A : Option Addr} {v vx v5 : Value} {out : List (List Int)} (I : PInv w0 wr b n vx (permsTo n d l out kk)) (K : Kept W wr (fun k => k = b + 1 ∨ some k = v.ownBlock)) (H : vx.ownBlock = v.ownBlock ∨ ∃ g, vx.ownBlock = some g ∧ W.heap.size ≤ g)
    (F : Kd.F (Kd.int .i64) wr (fun k => b + 3 ≤ k ∧ some k ≠ vx.ownBlock) A l.length l) (hb : Below wr.heap.size wr w4) (I5 : PInv w0 w5 b n v5 (permsF n d (l ++ [(kk : Int)]) (permsTo n d l out kk))) (K5 : Kept w4 w5 (fun k => k = b + 1 ∨ some k = vx.ownBlock)) (H5 : v5.ownBlock = vx.ownBlock ∨ ∃ g, v5.ownBlock = some g ∧ w4.heap.size ≤ g)
    (hnot : (kk : Int) ∉ l) : PRel w0 W b n d l A v out (kk + 1) w5 := by
  have hs1 := K.1
  have hs2 := below_size hb
  refine ⟨v5, by rw [permsTo_succ, if_neg hnot]; exact I5, (K.below hb).then_ K5 (fun k hk => ?_), ?_, ?_⟩
  · rcases hk with hk | hk
    · exact .inl (.inl hk)
    · rcases H with H | ⟨g, hg, hge⟩
      · exact .inl (.inr (by rw [← H]; exact hk))
      · rw [hg] at hk
        injection hk with hk
        exact .inr (by omega)
  · rcases H5 with H5 | ⟨g, hg, hge⟩
    · rw [H5]; exact H
    · exact .inr ⟨g, hg, by omega⟩
  · refine Kd.F_mono (Kd.F_bound (Kd.F_kept (Kd.F_below (Kd.F_bound F) hb) K5 (fun k hk => ?_))) (fun k hk => ⟨hk.1.1.1, fun he => ?_⟩)
    · rintro (h1 | h1)
      · have := hk.1.1
        omega
      · exact hk.1.2 h1
    · rcases H5 with H5 | ⟨g, hg, hge⟩
      · exact hk.1.1.2 (by rw [← H5]; exact he)
      · rw [hg] at he
        injection he with he
        have := hk.1.2
        omega
set_option maxHeartbeats 2000000 in
set_option maxRecDepth 100000 in
theorem growP_calls (n : Nat) (hn4 : n ≤ 4) (b : Nat) (w0 : World) (hb0 : w0.heap.size ≤ b) : ∀ (d : Nat) (l : List Int) (A : Option Addr) (c : Nat) (v : Value) (out : List (List Int)) (W : World), l.length + d = n → out.length + n ^ d ≤ 1000 → PInv w0 W b n v out → Kd.F (Kd.int .i64) W (fun k => b + 3 ≤ k ∧ some k ≠ v.ownBlock) A l.length l → l.length ≤ c →
    Calls Try.prog 109 #[.slice A l.length c, .pointer (some ⟨b, 0, none⟩), .pointer (some ⟨b + 1, 0, none⟩), .pointer (some ⟨b + 2, 0, none⟩)] W (PPost w0 W b n v (permsF n d l out)) := by
  intro d
  induction d with
  | zero =>
    intro l A c v out W hd hlo hI hF hc
    obtain ⟨Av, cv, rfl⟩ := Kd.N_slice hI.rows
    have hcn : W.cell? ⟨b, 0, none⟩ = some (.int .i64 (n : Int)) := (blk_cell hI.bn 0).trans rfl
    have hco : W.cell? ⟨b + 1, 0, none⟩ = some (.slice Av out.length cv) := (blk_cell hI.bo 0).trans rfl
    have ht : ((l.length : Int) == (n : Int)) = true := beq_iff_eq.2 (by omega)
    have HI := Aside0.mk hI
    have HF := Aside0.mk hF
    have HC := Aside0.mk hc
    have HL := Aside0.mk (show out.length ≤ 1000 by omega)
    have HB0 := Aside0.mk hb0
    clear hd hlo hI hF hc hb0 hn4
    go_enter Try.func109, Try.ntmps109
    go_wp2_with fail
    go_quiet ((go_at_call 110; exact Calls.quiet_of_same (size_ints_ _ _ _ _)))
    go_wp2_with ((with_reducible refine gate_builtin (b := .append) (xs := #[.tmp 10, .tmp 12]) rfl ?_); at_builtin; refine Kd.N_append (Kd.slice 2 (Kd.int .i64)) (w0 := W.drewN nq) (b + 3) rfl (.tmp 10) (.tmp 12) 22 39 (.slice none 0 0) 24 rfl Try.underlying22 info39 rfl (by decide) (by omega) (.slice Av out.length cv) out l [.slice A l.length c] (fun k => b + 3 ≤ k) (fun k => b + 3 ≤ k ∧ some k ≠ (Value.slice Av out.length cv).ownBlock) rfl rfl ?aP (fun _ hk => hk) ?aF ?aO ?aB ?aS ?aL ?_; (case aP => exact Kd.FK_slice_mk HC.out (Kd.F_drewN HF.out nq)); (case aF => exact (fun k hk => Nat.le_trans HI.out.room hk)); (case aO => exact Kd.N_drewN HI.out.rows nq); (case aB => exact Below.refl _ _); (case aS => exact HI.out.room); (case aL => have := HL.out; omega); intro v1 w1 ho hb hg hat; obtain ⟨A1, c1, e1⟩ := Kd.N_slice ho; rw [List.length_append, List.length_singleton] at e1; subst e1; have HG := Aside0.mk hg; have HId := Aside0.mk (HI.out.step (pw_below_drewN (Below.refl _ W) nq)); have HN := Aside0.mk ho; have HA := Aside0.mk hat; have hcz : w1.cell? ⟨b + 1, 0, none⟩ = some (.slice Av out.length cv) := (blk_cell (blk_grown HId.out.bo HG.out (fun he => by have := Kd.N_base HI.out.rows _ he.symm; omega)) 0).trans rfl; have hfz : w1.frozen? ⟨b + 1, 0, none⟩ = false := blk_frozen (blk_grown HId.out.bo HG.out (fun he => by have := Kd.N_base HI.out.rows _ he.symm; omega)) 0; clear ho hb hg hat)
    first | go_end0 | ((try simp only [Exit.inBlock, Exit.then]); refine bodyPost_ret (results_none rfl _ _ _) rfl ?_)
    refine ⟨rfl, _, PInv.put HB0.out HId.out HN.out HG.out, ?_, HA.out⟩
    exact (Kept.of_grown HG.out (Kept.refl (W.drewN nq) _) (fun k hk => .inl (.inr hk.symm))).setCell (.inl (.inl rfl)) _
  | succ d ih =>
    intro l A c v out W hd hlo hI hF hc
    have hcn : W.cell? ⟨b, 0, none⟩ = some (.int .i64 (n : Int)) := (blk_cell hI.bn 0).trans rfl
    have ht : ((l.length : Int) == (n : Int)) = false := beq_eq_false_iff_ne.2 (by omega)
    have HI := Aside0.mk hI
    have HF := Aside0.mk hF
    have HC := Aside0.mk hc
    have HL := Aside0.mk hlo
    have HLN := Aside0.mk (show l.length ≤ 4 ∧ l.length + (d + 1) = n by omega)
    have HB0 := Aside0.mk hb0
    have H0 := Aside0.mk (show PRel w0 W b n d l A v out 0 W from ⟨v, hI, Kept.refl _ _, .inl rfl, hF⟩)
    have hn4z : (n : Int) ≤ 4 := by omega
    clear hd hlo hI hF hc hb0 hn4
    go_enter Try.func109, Try.ntmps109
    go_wp2_with fail
    go_quiet ((go_at_call 110; exact Calls.quiet_of_same (size_ints_ _ _ _ _)))
    go_wp2
    go_loopg [5, 15] n (fun gg _ s15 wr => ∃ kk : Nat, kk ≤ n ∧ n - kk ≤ gg ∧ s15 = .int .i64 kk ∧ Aside0 (PRel w0 W b n d l A v out kk wr))
    case atStart => exact ⟨0, Nat.zero_le _, by omega, rfl, ⟨H0.out.step (pw_below_drewN (Below.refl _ W) nq)⟩⟩
    case round =>
      clear hcn ht HI HF H0
      obtain ⟨kk, hkk, hg, rfl, HR⟩ := hrel
      by_cases hlt : kk < n
      · have hltz0 : (kk : Int) < (n : Int) := by omega
        have hltz : decide ((kk : Int) < (n : Int)) = true := decide_eq_true (by omega)
        have hcon := contains_eq l (kk : Int) (by have := HLN.out; omega)
        have HCT := Aside0.mk fun (W2 : World) (h2 : Kd.C (Kd.int .i64) W2 A l.length l) => slices_Contains_int64_int64.calls (l.length + 1) A c l (kk : Int) (decide ((kk : Int) ∈ l)) W2 h2 HC.out hcon
        have HLX := Aside0.mk (show (permsTo n d l out kk).length + n ^ d ≤ 1000 by
          have h1 := permsTo_len n d l out kk
          have h2 := Nat.mul_le_mul_right (n ^ d) (show kk + 1 ≤ n from hlt)
          have h3 := HL.out
          rw [Nat.pow_succ, Nat.mul_comm] at h3
          rw [Nat.succ_mul] at h2
          omega)
        have HFw := Aside0.mk (show Kd.C (Kd.int .i64) wr A l.length l by obtain ⟨_, _, _, _, F⟩ := HR.out; exact Kd.F_now F)
        clear hcon
        by_cases hin : (kk : Int) ∈ l
        · have hinb : decide ((kk : Int) ∈ l) = true := decide_eq_true hin
          rw [hinb] at HCT
          have HIN := Aside0.mk hin
          clear hin hinb
          go_wp2_with (go_at_call 92; refine (HCT.out _ HFw.out).mono ?_; rintro e w1 ⟨rfl, hd1⟩; have HR1 := Aside0.mk (HR.out.step hd1.below); clear hd1)
          go_roundg (n - (kk + 1))
          case measure => omega
          case rel =>
            refine ⟨kk + 1, by omega, by omega, by go_num, ⟨?_⟩⟩
            obtain ⟨vx, I, K, H, F⟩ := HR1.out
            exact ⟨vx, by rw [permsTo_succ, if_pos HIN.out]; exact I, K, H, F⟩
        · have hinb : decide ((kk : Int) ∈ l) = false := decide_eq_false hin
          rw [hinb] at HCT
          have hnot := hin
          clear hin hinb
          go_wp2_with (go_at_call 92; refine (HCT.out _ HFw.out).mono ?_; rintro e w1 ⟨rfl, hd1⟩; have HR1 := Aside0.mk (HR.out.step hd1.below); clear hd1)
          have HRd := Aside0.mk (HR1.out.step (below_drew (Below.refl _ w1)))
          obtain ⟨vx, hIx, hKx, hHx, hFx⟩ := HRd.out
          obtain ⟨Av, cv, rfl⟩ := Kd.N_slice hIx.rows
          have HIx := Aside0.mk hIx
          have HKx := Aside0.mk hKx
          have HHx := Aside0.mk hHx
          have HFx := Aside0.mk hFx
          have hbg : w1.drew.cell? ⟨b + 2, 0, none⟩ = some (.func (.func 109) #[] #[.pointer (some ⟨b, 0, none⟩), .pointer (some ⟨b + 1, 0, none⟩), .pointer (some ⟨b + 2, 0, none⟩)]) := (blk_cell hIx.bg 0).trans rfl
          have HNOT := Aside0.mk hnot
          have eg := Go.Proofs.enters_of Try.func109 (by kernel_rfl) rfl
          clear hIx hKx hHx hFx HRd HR1 HR HFw HCT hnot
          refine wp_region_held_drew (S := (fun w' => w'.cell? ⟨b + 2, 0, none⟩ = some (.func (.func 109) #[] #[.pointer (some ⟨b, 0, none⟩), .pointer (some ⟨b + 1, 0, none⟩), .pointer (some ⟨b + 2, 0, none⟩)]))) (by kernel_rfl) ?g_s (fun hHeld => ?g_0)
          case g_s => exact hbg
          case g_0 =>
          refine takeP (i := 0) (some 22) (v := ?g5_v) rfl rfl (by kernel_rfl) (by kernel_rfl) (by kernel_rfl) (fun _ _ _ h => h) (Or.inl ⟨by rfl, ?g5_y⟩) hHeld ?g5_n
          case g5_y => intro w_ hS_; (try dsimp only at hS_); go_simp; try (with_reducible rfl)
          simp only [Act.put, List.setIfInBounds_toArray, List.set_cons_zero, List.set_cons_succ]
          refine takeP (i := 1) (some 23) (v := ?g6_v) rfl rfl (by kernel_rfl) (by kernel_rfl) (by kernel_rfl) (fun _ _ _ h => h) (Or.inl ⟨by rfl, ?g6_y⟩) hHeld ?g6_n
          case g6_y => intro w_ hS_; (try dsimp only at hS_); go_simp; try (with_reducible rfl)
          simp only [Act.put, List.setIfInBounds_toArray, List.set_cons_zero, List.set_cons_succ]
          refine takeP (i := 3) (some 25) (v := ?g7_v) rfl rfl (by kernel_rfl) (by kernel_rfl) (by kernel_rfl) (fun _ _ _ h => h) (Or.inl ⟨by rfl, ?g7_y⟩) hHeld ?g7_n
          case g7_y => intro w_ hS_; (try dsimp only at hS_); go_simp; try (with_reducible rfl)
          simp only [Act.put, List.setIfInBounds_toArray, List.set_cons_zero, List.set_cons_succ]
          refine wpAnyH_ready (rs := [2, 4]) (by kernel_rfl) (by simp) ?_
          refine AllReadyH.cons rfl (fun K hK => ?pA) (AllReadyH.cons rfl (fun K hK => ?pB) AllReadyH.nil)
          case pA =>
            go_simp
            (go_at_call 83; refine (slices_Clone_int64_int64.calls A c l l _ (Kd.F_now HFx.out) HC.out (if_pos (by have := HLN.out; omega))).mono ?_; rintro e W3 ⟨vc, rfl, hvc, hbc⟩; obtain ⟨Ac, cc, ec⟩ := Kd.R_slice hvc; subst ec)
            refine hK.out _ _ ?g1_s (fun hHeld2 => ?g1_n)
            case g1_s => (try dsimp only); exact (blk_cell (PInv.step HIx.out hbc).bg 0).trans rfl
            clear hK K hHeld; have hHeld := hHeld2; clear hHeld2
            refine wpAnyH_ready (rs := [4]) (by kernel_rfl) (by simp) ?_
            refine AllReadyH.cons rfl (fun K hK => ?_) AllReadyH.nil
            go_simp
            refine hK.out _ _ ?g2_s (fun hHeld2 => ?g2_n)
            case g2_s => (try dsimp only); exact (blk_cell (PInv.step HIx.out (below_step hbc (below_alloc (Below.refl _ _) _))).bg 0).trans rfl
            clear hK K hHeld; have hHeld := hHeld2; clear hHeld2
            have HB3 := Aside0.mk (below_step hbc (below_alloc (Below.refl _ W3) (.cells #[.int .i64 (kk : Int)] 2)))
            have HvC := Aside0.mk (Kd.R_below hvc (below_alloc (Below.refl _ W3) (.cells #[.int .i64 (kk : Int)] 2)))
            have HS1 := Aside0.mk (row_one (heap_alloc_new W3 (.cells #[.int .i64 (kk : Int)] 2)))
            obtain ⟨gB, hgB⟩ : ∃ g, g = W3.heap.size := ⟨_, rfl⟩
            obtain ⟨bs, hbs⟩ : ∃ g, g = w1.drew.heap.size := ⟨_, rfl⟩
            have HBS := Aside0.mk (show w1.drew.heap.size ≤ bs ∧ bs ≤ (W3.alloc (.cells #[.int .i64 (kk : Int)] 2)).heap.size from ⟨Nat.le_of_eq hbs.symm, by rw [hbs]; exact below_size HB3.out⟩)
            rw [← hgB] at HS1 ⊢
            rw [← hbs] at HvC
            clear hgB hbs hbc hvc
            generalize W3.alloc (.cells #[.int .i64 (kk : Int)] 2) = W4 at *
            refine wpAnyH_ready (rs := [5]) (by kernel_rfl) (by simp) ?_
            refine AllReadyH.cons rfl (fun K hK => ?_) AllReadyH.nil
            refine Kd.R_append_rows_step (Kd.int .i64) (w0 := W4) bs (by rfl) (.tmp 24) (.tmp 26) 39 2 (.int .i64 0) 8 rfl Try.underlying39 info2 rfl (by decide) (by omega) (.slice Ac l.length cc) l [(kk : Int)] (some ⟨gB, 0, none⟩) 1 1 (fun _ => True) (fun _ => False) rfl rfl HvC.out HS1.out (fun _ _ h => h) (fun _ h => h.elim) (fun _ _ => trivial) (Below.refl _ _) HBS.out.2 (by have := HLN.out; omega) ?_; intro v1 w4 ho hb hg hat; have HB4 := Aside0.mk (pw_below_grown HB3.out _ (below_size HB3.out) hg (fun k hk => Nat.le_trans HBS.out.1 (Kd.R_base HvC.out k hk))); have HV1 := Aside0.mk (Kd.R_mono (Kd.R_bound ho) (fun k hk => hk.2)); obtain ⟨A1, c1, e1⟩ := Kd.R_slice ho; subst e1; have HI4 := Aside0.mk (PInv.step HIx.out HB4.out); clear ho hb hg hat HvC HS1
            refine hK.out (Act.put _ (some 27) _) _ ?g8_s (fun hHeld2 => ?g8_n)
            case g8_s => (try dsimp only); exact (blk_cell HI4.out.bg 0).trans rfl
            clear hK K hHeld; have hHeld := hHeld2; clear hHeld2
            simp only [Act.put, List.setIfInBounds_toArray, List.set_cons_zero, List.set_cons_succ]
            refine wpAnyH_ready (rs := [6]) (by kernel_rfl) (by simp) ?_
            refine AllReadyH.cons rfl (fun K hK => ?_) AllReadyH.nil
            go_simp
            have HIH := ih (l ++ [(kk : Int)]) A1 c1 (.slice Av (permsTo n d l out kk).length cv) (permsTo n d l out kk) w4 (by have := HLN.out; rw [List.length_append, List.length_singleton]; omega) HLX.out HI4.out (Kd.F_mono (Kd.R_F HV1.out) (fun k hk => ⟨Nat.le_trans HIx.out.room (Nat.le_trans HBS.out.1 hk.1), fun he => by have h1_ := Kd.N_lt HIx.out.rows k he.symm; have h2_ := HBS.out.1; have h3_ := hk.1; omega⟩)) (Kd.R_reads' HV1.out).2.1; simp only [List.length_append, List.length_singleton] at HIH; (with_reducible refine HIH.mono ?_); rintro e w5 ⟨rfl, v5, H5, HK5, HA5⟩; have H5 := Aside0.mk H5; have HK5 := Aside0.mk HK5; have HA5 := Aside0.mk HA5
            refine hK.out _ _ ?g9_s (fun hHeld2 => ?g9_n)
            case g9_s => (try dsimp only); exact (blk_cell H5.out.bg 0).trans rfl
            clear hK K hHeld; have hHeld := hHeld2; clear hHeld2
            refine wpAnyH_done (by kernel_rfl) ?_ _
            clear hHeld
            go_wp2
            go_roundg (n - (kk + 1))
            case measure => omega
            case rel => exact ⟨kk + 1, by omega, by omega, by go_num, ⟨PRel.next HIx.out HKx.out HHx.out HFx.out HB4.out H5.out HK5.out HA5.out HNOT.out⟩⟩
          case pB =>
            go_simp
            refine hK.out _ _ ?g3_s (fun hHeld2 => ?g3_n)
            case g3_s => (try dsimp only); exact (blk_cell (PInv.step HIx.out (below_alloc (Below.refl _ _) _)).bg 0).trans rfl
            clear hK K hHeld; have hHeld := hHeld2; clear hHeld2
            refine wpAnyH_ready (rs := [2]) (by kernel_rfl) (by simp) ?_
            refine AllReadyH.cons rfl (fun K hK => ?_) AllReadyH.nil
            have HB1_ := Aside0.mk (below_alloc (Below.refl _ w1.drew) (.cells #[.int .i64 (kk : Int)] 2))
            have HF1_ := Aside0.mk (Kd.F_below HFx.out HB1_.out)
            have HS0 := Aside0.mk (show (w1.drew.alloc (.cells #[.int .i64 (kk : Int)] 2)).heap[w1.heap.size]? = some (.cells #[.int .i64 (kk : Int)] 2) from heap_alloc_new w1.drew (.cells #[.int .i64 (kk : Int)] 2))
            obtain ⟨gB, hgB⟩ : ∃ g, g = w1.heap.size := ⟨_, rfl⟩
            go_simp
            (go_at_call 83; refine (slices_Clone_int64_int64.calls A c l l _ (Kd.F_now HF1_.out) HC.out (if_pos (by have := HLN.out; omega))).mono ?_; rintro e W3 ⟨vc, rfl, hvc, hbc⟩; obtain ⟨Ac, cc, ec⟩ := Kd.R_slice hvc; subst ec)
            refine hK.out _ _ ?g4_s (fun hHeld2 => ?g4_n)
            case g4_s => (try dsimp only); exact (blk_cell (PInv.step HIx.out (below_then HB1_.out (below_size HB1_.out) hbc)).bg 0).trans rfl
            clear hK K hHeld; have hHeld := hHeld2; clear hHeld2
            have HB3 := Aside0.mk (below_then HB1_.out (below_size HB1_.out) hbc)
            have HvC := Aside0.mk hvc
            have HS1 := Aside0.mk (row_one ((hbc.block _ (blk_lt HS0.out)).trans HS0.out))
            obtain ⟨bs, hbs⟩ : ∃ g, g = (w1.drew.alloc (.cells #[.int .i64 (kk : Int)] 2)).heap.size := ⟨_, rfl⟩
            have HBS := Aside0.mk (show w1.drew.heap.size ≤ bs ∧ bs ≤ W3.heap.size from ⟨by rw [hbs]; exact below_size HB1_.out, by rw [hbs]; exact below_size hbc⟩)
            rw [← hgB] at HS1 ⊢
            rw [← hbs] at HvC
            clear hgB hbs hbc hvc HB1_ HF1_ HS0
            refine wpAnyH_ready (rs := [5]) (by kernel_rfl) (by simp) ?_
            refine AllReadyH.cons rfl (fun K hK => ?_) AllReadyH.nil
            refine Kd.R_append_rows_step (Kd.int .i64) (w0 := W3) bs (by rfl) (.tmp 24) (.tmp 26) 39 2 (.int .i64 0) 8 rfl Try.underlying39 info2 rfl (by decide) (by omega) (.slice Ac l.length cc) l [(kk : Int)] (some ⟨gB, 0, none⟩) 1 1 (fun _ => True) (fun _ => False) rfl rfl HvC.out HS1.out (fun _ _ h => h) (fun _ h => h.elim) (fun _ _ => trivial) (Below.refl _ _) HBS.out.2 (by have := HLN.out; omega) ?_; intro v1 w4 ho hb hg hat; have HB4 := Aside0.mk (pw_below_grown HB3.out _ (below_size HB3.out) hg (fun k hk => Nat.le_trans HBS.out.1 (Kd.R_base HvC.out k hk))); have HV1 := Aside0.mk (Kd.R_mono (Kd.R_bound ho) (fun k hk => hk.2)); obtain ⟨A1, c1, e1⟩ := Kd.R_slice ho; subst e1; have HI4 := Aside0.mk (PInv.step HIx.out HB4.out); clear ho hb hg hat HvC HS1
            refine hK.out (Act.put _ (some 27) _) _ ?g10_s (fun hHeld2 => ?g10_n)
            case g10_s => (try dsimp only); exact (blk_cell HI4.out.bg 0).trans rfl
            clear hK K hHeld; have hHeld := hHeld2; clear hHeld2
            simp only [Act.put, List.setIfInBounds_toArray, List.set_cons_zero, List.set_cons_succ]
            refine wpAnyH_ready (rs := [6]) (by kernel_rfl) (by simp) ?_
            refine AllReadyH.cons rfl (fun K hK => ?_) AllReadyH.nil
            go_simp
            have HIH := ih (l ++ [(kk : Int)]) A1 c1 (.slice Av (permsTo n d l out kk).length cv) (permsTo n d l out kk) w4 (by have := HLN.out; rw [List.length_append, List.length_singleton]; omega) HLX.out HI4.out (Kd.F_mono (Kd.R_F HV1.out) (fun k hk => ⟨Nat.le_trans HIx.out.room (Nat.le_trans HBS.out.1 hk.1), fun he => by have h1_ := Kd.N_lt HIx.out.rows k he.symm; have h2_ := HBS.out.1; have h3_ := hk.1; omega⟩)) (Kd.R_reads' HV1.out).2.1; simp only [List.length_append, List.length_singleton] at HIH; (with_reducible refine HIH.mono ?_); rintro e w5 ⟨rfl, v5, H5, HK5, HA5⟩; have H5 := Aside0.mk H5; have HK5 := Aside0.mk HK5; have HA5 := Aside0.mk HA5
            refine hK.out _ _ ?g11_s (fun hHeld2 => ?g11_n)
            case g11_s => (try dsimp only); exact (blk_cell H5.out.bg 0).trans rfl
            clear hK K hHeld; have hHeld := hHeld2; clear hHeld2
            refine wpAnyH_done (by kernel_rfl) ?_ _
            clear hHeld
            go_wp2
            go_roundg (n - (kk + 1))
            case measure => omega
            case rel => exact ⟨kk + 1, by omega, by omega, by go_num, ⟨PRel.next HIx.out HKx.out HHx.out HFx.out HB4.out H5.out HK5.out HA5.out HNOT.out⟩⟩
      · have hltz : decide ((kk : Int) < (n : Int)) = false := decide_eq_false (by omega)
        obtain rfl : kk = n := by omega
        go_wp2
        first | go_end0 | ((try simp only [Exit.inBlock, Exit.then]); refine bodyPost_ret (results_none rfl _ _ _) rfl ?_)
        obtain ⟨vx, I, K, H, F⟩ := HR.out
        exact ⟨rfl, vx, I, K, H⟩
def permW (w : World) (n : Nat) : World := ((w.alloc (.cells #[.int .i64 (n : Int)] 2)).alloc (.cells #[.slice none 0 0] 22)).alloc (.cells #[.nilFunc] 105)
theorem permW_facts (w : World) (n : Nat) : (permW w n).heap[w.heap.size]? = some (.cells #[.int .i64 (n : Int)] 2 (0, 0)) ∧ (permW w n).heap[w.heap.size + 1]? = some (.cells #[.slice none 0 0] 22 (0, 0)) ∧ (permW w n).heap[w.heap.size + 1 + 1]? = some (.cells #[.nilFunc] 105 (0, 0)) ∧ Below w.heap.size w (permW w n) := by
  have h1 := heap_alloc_new w (.cells #[.int .i64 (n : Int)] 2)
  have b1 := below_alloc (Below.refl _ (w.alloc (.cells #[.int .i64 (n : Int)] 2))) (.cells #[.slice none 0 0] 22)
  have h2 := heap_alloc_new (w.alloc (.cells #[.int .i64 (n : Int)] 2)) (.cells #[.slice none 0 0] 22)
  have b2 := below_alloc (Below.refl _ ((w.alloc (.cells #[.int .i64 (n : Int)] 2)).alloc (.cells #[.slice none 0 0] 22))) (.cells #[.nilFunc] 105)
  have h3 := heap_alloc_new ((w.alloc (.cells #[.int .i64 (n : Int)] 2)).alloc (.cells #[.slice none 0 0] 22)) (.cells #[.nilFunc] 105)
  have s1 : (w.alloc (.cells #[.int .i64 (n : Int)] 2)).heap.size = w.heap.size + 1 := by simp
  have s2 : ((w.alloc (.cells #[.int .i64 (n : Int)] 2)).alloc (.cells #[.slice none 0 0] 22)).heap.size = w.heap.size + 1 + 1 := by simp
  rw [s1] at h2
  rw [s2] at h3
  exact ⟨(b2.block _ (by omega)).trans ((b1.block _ (by omega)).trans h1), (b2.block _ (by omega)).trans h2, h3, below_alloc (below_alloc (below_alloc (Below.refl _ _) _) _) _⟩
theorem PInv.start (w : World) (n : Nat) : PInv w ((permW w n).setCell ⟨w.heap.size + 1 + 1, 0, none⟩ (.func (.func 109) #[] #[.pointer (some ⟨w.heap.size, 0, none⟩), .pointer (some ⟨w.heap.size + 1, 0, none⟩), .pointer (some ⟨w.heap.size + 1 + 1, 0, none⟩)])) w.heap.size n (.slice none 0 0) [] := by
  obtain ⟨h1, h2, h3, hb⟩ := permW_facts w n
  exact ⟨below_set hb (by omega), blk_far (p := ⟨w.heap.size + 1 + 1, 0, none⟩) h1 (by simp; omega) _, blk_far (p := ⟨w.heap.size + 1 + 1, 0, none⟩) h2 (by simp) _, (blk_set h3 0 _).trans rfl, Kd.N_nil _ _ _ _ _⟩
set_option maxHeartbeats 2000000 in
set_option maxRecDepth 100000 in
theorem impl_permutationsOf.calls (a0 : Int) (r : List (List Int)) (w : World) (h : impl_permutationsOf.f a0 = some r) :
    Calls Try.prog 77 #[.int .i64 a0] w fun e w' => ∃ v0_ : Value, e = .returned (v0_) ∧ Kd.N (Kd.slice 2 (Kd.int .i64)) 39 w' w.heap.size (fun k => w.heap.size ≤ k) v0_ r ∧ Below w.heap.size w w' := by
  unfold impl_permutationsOf.f at h
  by_cases hc : 1 ≤ a0 ∧ a0 ≤ 4
  · rw [if_pos hc] at h
    obtain rfl := Option.some.inj h
    obtain ⟨n, rfl⟩ : ∃ n : Nat, a0 = n := ⟨a0.toNat, by omega⟩
    rw [Int.toNat_natCast]
    have hn4 : n ≤ 4 := by omega
    have hp : ([] : List (List Int)).length + n ^ n ≤ 1000 := by
      obtain rfl | rfl | rfl | rfl : n = 1 ∨ n = 2 ∨ n = 3 ∨ n = 4 := by omega
      all_goals decide
    have HG := Aside0.mk (growP_calls n hn4 w.heap.size w (Nat.le_refl _) n [] none 0 (.slice none 0 0) [] _ (by rw [List.length_nil, Nat.zero_add]) hp (PInv.start w n) (Kd.F_nil _ _ _) (Nat.le_refl _))
    have eg := Go.Proofs.enters_of Try.func109 (by kernel_rfl) rfl
    have hz : (permW w n).cell? ⟨w.heap.size + 1 + 1, 0, none⟩ = some .nilFunc := (blk_cell (permW_facts w n).2.2.1 0).trans rfl
    have hfz := blk_frozen (permW_facts w n).2.2.1 0
    have hcz : ((permW w n).setCell ⟨w.heap.size + 1 + 1, 0, none⟩ (.func (.func 109) #[] #[.pointer (some ⟨w.heap.size, 0, none⟩), .pointer (some ⟨w.heap.size + 1, 0, none⟩), .pointer (some ⟨w.heap.size + 1 + 1, 0, none⟩)])).cell? ⟨w.heap.size + 1 + 1, 0, none⟩ = some (.func (.func 109) #[] #[.pointer (some ⟨w.heap.size, 0, none⟩), .pointer (some ⟨w.heap.size + 1, 0, none⟩), .pointer (some ⟨w.heap.size + 1 + 1, 0, none⟩)]) := (blk_cell (PInv.start w n).bg 0).trans rfl
    clear h hc hn4 hp
    go_enter Try.func77, Try.ntmps77
    go_upto_region 3 with (fail)
    change Code.wp Try.prog _ _ _ (permW w n)
    generalize permW w n = Wp at *
    go_wp2_with (go_at_call 109; refine HG.out.mono ?_; rintro e w' ⟨rfl, v', I, K, H⟩; have HI := Aside0.mk I; obtain ⟨Av, cv, ev⟩ := Kd.N_slice I.rows; subst ev; have hco : w'.cell? ⟨w.heap.size + 1, 0, none⟩ = some (.slice Av (permsF n n [] []).length cv) := (blk_cell I.bo 0).trans rfl; clear I K H)
    go_ret
    exact ⟨_, rfl, Kd.N_mono (Kd.N_lower HI.out.rows (by omega)) (fun k hk => by have h_ : w.heap.size + 3 ≤ k := hk; omega), HI.out.below⟩
  · rw [if_neg hc] at h
    exact absurd h (by simp)

/-! ### impl_back: function 93 -/
def impl_back.f (k : Nat) (l0 : List Int) (a1 : Int) : Option (Int) := (slices_Index_int64_int64.f k l0 a1).bind fun t280 => (some t280)
theorem impl_back.mono : ∀ a0 a1 k, LeO (impl_back.f k a0 a1) (impl_back.f (k + 1) a0 a1) := by
  intro a0 a1 k
  unfold impl_back.f
  repeat' first
      | (with_reducible exact slices_Index_int64_int64.mono _ _ _)
      | (with_reducible exact LeO.refl _)
      | (with_reducible exact LeO.none _)
      | (with_reducible refine LeO.ite ?_ ?_)
      | (with_reducible refine LeO.bind ?_ (fun _ => ?_))
      | exact slices_Index_int64_int64.mono _ _ _
      | exact LeO.none _
      | refine LeO.ite ?_ ?_
      | refine LeO.bind ?_ (fun _ => ?_)
set_option maxHeartbeats 8000000 in
set_option maxRecDepth 100000 in
theorem impl_back.calls (k : Nat) (A0 : Option Addr) (c0 : Nat) (l0 : List Int) (a1 : Int) (r : Int) (w : World) (hr0 : Kd.C (Kd.int .i64) w A0 l0.length l0) (hc0 : l0.length ≤ c0) (h : impl_back.f k l0 a1 = some r) :
    Calls Try.prog 93 #[.slice A0 l0.length c0, .int .i64 a1] w fun e w' => e = .returned (.int .i64 r) ∧ Drawn0 w w' := by
  have HR0 := Aside0.mk hr0
  have HC0 := Aside0.mk hc0
  clear hr0 hc0
  have H : ((slices_Index_int64_int64.f k l0 a1).bind fun t280 => (some t280)) = some r := h
  clear h
  replace H := Option.bind_eq_some_iff.mp H
  obtain ⟨t280, A30, H⟩ := H
  replace H : (some t280) = some r := H
  have A3 := Aside0.mk A30
  clear A30
  obtain rfl := Option.some.inj H
  go_enter Try.func93, Try.ntmps93
  go_wp2_with (first | ((with_reducible refine gate_callee (f := 118) rfl ?_); refine goesL_ (some 7) rfl rfl Try.func118 (by kernel_rfl) rfl #[.slice A0 l0.length c0, .int .i64 a1] rfl (by (try simp only [List.map_toArray, List.map_cons, List.map_nil]); first | done | rfl | (simp only [List.length_drop, List.length_take]; rfl)) ?_; (with_reducible refine (slices_Index_int64_int64.calls k _ _ l0 a1 t280 _ ?side1 ?side2 A3.out).mono ?_); (case side1 => repeat (first | exact HR0.out | (with_reducible refine Kd.C_alloc ?_ _) | (with_reducible refine Kd.C_drewN ?_ _) | (with_reducible refine Kd.C_drew ?_))); (case side2 => exact HC0.out); rintro e w' ⟨rfl, ⟨nd, rfl⟩⟩; refine ⟨_, rfl, ?_⟩))
  go_ret
  exact ⟨by first | rfl | (simp; done) | (simp [*]; done), by repeat (first | exact Drawn0.refl _ | apply Drawn0.step)⟩

/-! ### impl_act: function 57 -/
def impl_act.f (k : Nat) (l0 : List (List Int)) (a1 : Int) (a2 : Int) : Option (Int) := if a1 > 0 then (if 0 ≤ (wrap64 (a1 - 1)) then (if (wrap64 (a1 - 1)) < (l0.length : Int) then (if 0 ≤ a2 then (if a2 < ((rd_L1 l0 (wrap64 (a1 - 1))).length : Int) then (some (rd (rd_L1 l0 (wrap64 (a1 - 1))) a2)) else (none)) else (none)) else (none)) else (none)) else (if 0 ≤ (wrap64 ((wrap64 (-a1)) - 1)) then (if (wrap64 ((wrap64 (-a1)) - 1)) < (l0.length : Int) then ((impl_back.f k (rd_L1 l0 (wrap64 ((wrap64 (-a1)) - 1))) a2).bind fun t284 => (some t284)) else (none)) else (none))
theorem impl_act.mono : ∀ a0 a1 a2 k, LeO (impl_act.f k a0 a1 a2) (impl_act.f (k + 1) a0 a1 a2) := by
  intro a0 a1 a2 k
  unfold impl_act.f
  repeat' first
      | (with_reducible exact impl_back.mono _ _ _)
      | (with_reducible exact LeO.refl _)
      | (with_reducible exact LeO.none _)
      | (with_reducible refine LeO.ite ?_ ?_)
      | (with_reducible refine LeO.bind ?_ (fun _ => ?_))
      | exact impl_back.mono _ _ _
      | exact LeO.none _
      | refine LeO.ite ?_ ?_
      | refine LeO.bind ?_ (fun _ => ?_)
set_option maxHeartbeats 8000000 in
set_option maxRecDepth 100000 in
theorem impl_act.calls (k : Nat) (A0 : Option Addr) (c0 : Nat) (l0 : List (List Int)) (a1 : Int) (a2 : Int) (r : Int) (w : World) (hr0 : Kd.C (Kd.slice 2 (Kd.int .i64)) w A0 l0.length l0) (hc0 : l0.length ≤ c0) (h : impl_act.f k l0 a1 a2 = some r) :
    Calls Try.prog 57 #[.slice A0 l0.length c0, .int .i64 a1, .int .i64 a2] w fun e w' => e = .returned (.int .i64 r) ∧ Drawn0 w w' := by
  have HR0 := Aside0.mk hr0
  have HC0 := Aside0.mk hc0
  clear hr0 hc0
  have H : (if a1 > 0 then (if 0 ≤ (wrap64 (a1 - 1)) then (if (wrap64 (a1 - 1)) < (l0.length : Int) then (if 0 ≤ a2 then (if a2 < ((rd_L1 l0 (wrap64 (a1 - 1))).length : Int) then (some (rd (rd_L1 l0 (wrap64 (a1 - 1))) a2)) else (none)) else (none)) else (none)) else (none)) else (if 0 ≤ (wrap64 ((wrap64 (-a1)) - 1)) then (if (wrap64 ((wrap64 (-a1)) - 1)) < (l0.length : Int) then ((impl_back.f k (rd_L1 l0 (wrap64 ((wrap64 (-a1)) - 1))) a2).bind fun t284 => (some t284)) else (none)) else (none))) = some r := h
  clear h
  by_cases c4 : a1 > 0
  · rw [if_pos c4] at H
    have c4b0 : decide (0 < a1) = true := decide_eq_true c4
    clear c4
    obtain ⟨ji5, hji5⟩ : ∃ j_ : Int, (wrap64 (a1 - 1)) = j_ := ⟨_, rfl⟩
    replace H : (if 0 ≤ (ji5) then (if (ji5) < (l0.length : Int) then (if 0 ≤ a2 then (if a2 < ((rd_L1 l0 (ji5)).length : Int) then (some (rd (rd_L1 l0 (ji5)) a2)) else (none)) else (none)) else (none)) else (none)) = some r := by first | (rw [hji5] at H; exact H) | (simp only [hji5] at H ⊢; exact H)
    have hji5w : (IntKind.i64.wrap (a1 - 1)) = ji5 := (i64_w _).trans hji5
    by_cases c6 : 0 ≤ (ji5)
    · rw [if_pos c6] at H
      have c6b0 : decide (0 ≤ (ji5)) = true := decide_eq_true c6
      clear c6
      by_cases c7 : (ji5) < (l0.length : Int)
      · rw [if_pos c7] at H
        have c7b0 : decide ((ji5) < (l0.length : Int)) = true := decide_eq_true c7
        clear c7
        by_cases c8 : 0 ≤ a2
        · rw [if_pos c8] at H
          have c8b0 : decide (0 ≤ a2) = true := decide_eq_true c8
          clear c8
          by_cases c9 : a2 < ((rd_L1 l0 (ji5)).length : Int)
          · rw [if_pos c9] at H
            have c9b0 : decide (a2 < ((rd_L1 l0 (ji5)).length : Int)) = true := decide_eq_true c9
            clear c9
            obtain rfl := Option.some.inj H
            have p281 : 0 ≤ ((ji5) : Int) := of_decide_eq_true (by first | (with_reducible assumption) | assumption)
            have q281 : (ji5) < (l0.length : Int) := of_decide_eq_true (by first | (with_reducible assumption) | assumption)
            obtain ⟨ad281, A281_0, c281_0, e281, hx281_0, hl281_0, hi281_0⟩ := at_L1 HR0.out (ji5) p281 q281
            cases e281
            have HR281_0 := Aside0.mk hi281_0
            have HC281_0 := Aside0.mk hl281_0
            clear hi281_0 hl281_0
            replace p281 := eq_true p281
            replace q281 := eq_true q281
            have p282 : 0 ≤ (a2 : Int) := of_decide_eq_true (by first | (with_reducible assumption) | assumption)
            have q282 : a2 < ((rd_L1 l0 (ji5)).length : Int) := of_decide_eq_true (by first | (with_reducible assumption) | assumption)
            obtain ⟨ad282, e282, hx282_0⟩ := Kd.at_int HR281_0.out a2 p282 q282
            cases e282
            replace p282 := eq_true p282
            replace q282 := eq_true q282
            go_enter Try.func57, Try.ntmps57
            go_wp2
            go_ret
            exact ⟨by first | rfl | (simp; done) | (simp only [← hji5] <;> (first | rfl | simp)) | (simp [*]; done), by repeat (first | exact Drawn0.refl _ | apply Drawn0.step)⟩
          · rw [if_neg c9] at H
            exact absurd H (by simp)
        · rw [if_neg c8] at H
          exact absurd H (by simp)
      · rw [if_neg c7] at H
        exact absurd H (by simp)
    · rw [if_neg c6] at H
      exact absurd H (by simp)
  · rw [if_neg c4] at H
    have c4b0 : decide (0 < a1) = false := decide_eq_false c4
    clear c4
    obtain ⟨ji10, hji10⟩ : ∃ j_ : Int, (wrap64 ((wrap64 (-a1)) - 1)) = j_ := ⟨_, rfl⟩
    replace H : (if 0 ≤ (ji10) then (if (ji10) < (l0.length : Int) then ((impl_back.f k (rd_L1 l0 (ji10)) a2).bind fun t284 => (some t284)) else (none)) else (none)) = some r := by first | (rw [hji10] at H; exact H) | (simp only [hji10] at H ⊢; exact H)
    have hji10w : (IntKind.i64.wrap ((wrap64 (-a1)) - 1)) = ji10 := (i64_w _).trans hji10
    by_cases c11 : 0 ≤ (ji10)
    · rw [if_pos c11] at H
      have c11b0 : decide (0 ≤ (ji10)) = true := decide_eq_true c11
      clear c11
      by_cases c12 : (ji10) < (l0.length : Int)
      · rw [if_pos c12] at H
        have c12b0 : decide ((ji10) < (l0.length : Int)) = true := decide_eq_true c12
        clear c12
        replace H := Option.bind_eq_some_iff.mp H
        obtain ⟨t284, A130, H⟩ := H
        replace H : (some t284) = some r := H
        have A13 := Aside0.mk A130
        clear A130
        obtain rfl := Option.some.inj H
        have p283 : 0 ≤ ((ji10) : Int) := of_decide_eq_true (by first | (with_reducible assumption) | assumption)
        have q283 : (ji10) < (l0.length : Int) := of_decide_eq_true (by first | (with_reducible assumption) | assumption)
        obtain ⟨ad283, A283_0, c283_0, e283, hx283_0, hl283_0, hi283_0⟩ := at_L1 HR0.out (ji10) p283 q283
        cases e283
        have HR283_0 := Aside0.mk hi283_0
        have HC283_0 := Aside0.mk hl283_0
        clear hi283_0 hl283_0
        replace p283 := eq_true p283
        replace q283 := eq_true q283
        go_enter Try.func57, Try.ntmps57
        go_wp2_with (first | ((with_reducible refine gate_callee (f := 93) rfl ?_); refine goesL_ (some 24) rfl rfl Try.func93 (by kernel_rfl) rfl #[.slice A283_0 (rd_L1 l0 (ji10)).length c283_0, .int .i64 a2] rfl (by (try simp only [List.map_toArray, List.map_cons, List.map_nil]); first | done | (simp only [hji10]; rfl) | rfl | (simp only [List.length_drop, List.length_take]; rfl)) ?_; (with_reducible refine (impl_back.calls k _ _ (rd_L1 l0 (ji10)) a2 t284 _ ?side1 ?side2 A13.out).mono ?_); (case side1 => repeat (first | exact HR283_0.out | (with_reducible refine Kd.C_alloc ?_ _) | (with_reducible refine Kd.C_drewN ?_ _) | (with_reducible refine Kd.C_drew ?_))); (case side2 => exact HC283_0.out); rintro e w' ⟨rfl, ⟨nd, rfl⟩⟩; refine ⟨_, rfl, ?_⟩))
        go_ret
        exact ⟨by first | rfl | (simp; done) | (simp only [← hji10] <;> (first | rfl | simp)) | (simp [*]; done), by repeat (first | exact Drawn0.refl _ | apply Drawn0.step)⟩
      · rw [if_neg c12] at H
        exact absurd H (by simp)
    · rw [if_neg c11] at H
      exact absurd H (by simp)

/-! ### impl_actWord: function 112 -/
def impl_actWord.l0 : Nat → List (List Int) → Int → List Int → Int → Int → Option (Int)
  | 0, _, _, _, _, _ => none
  | k + 1, x0, x2, x9, x10, x11 => if x11 < x10 then (if 0 ≤ x11 then (if x11 < (x9.length : Int) then ((impl_act.f k x0 (rd x9 x11) x2).bind fun t286 => (impl_actWord.l0 k x0 t286 x9 x10 (wrap64 (x11 + 1)))) else (none)) else (none)) else (some x2)
def impl_actWord.f (k : Nat) (l0 : List (List Int)) (l1 : List Int) (a2 : Int) : Option (Int) := impl_actWord.l0 k l0 a2 l1 (l1.length : Int) 0
theorem impl_actWord.mono_l : ∀ k, (∀ y0 y1 y2 y3 y4, LeO (impl_actWord.l0 k y0 y1 y2 y3 y4) (impl_actWord.l0 (k + 1) y0 y1 y2 y3 y4))
  | 0 => fun _ _ _ _ _ r h => by simp [impl_actWord.l0] at h
  | k + 1 => by
    have ih0 := impl_actWord.mono_l k
    · intro y0 y1 y2 y3 y4
      unfold impl_actWord.l0
      repeat' first
      | (with_reducible exact ih0 _ _ _ _ _)
      | (with_reducible exact impl_act.mono _ _ _ _)
      | (with_reducible exact LeO.refl _)
      | (with_reducible exact LeO.none _)
      | (with_reducible refine LeO.ite ?_ ?_)
      | (with_reducible refine LeO.bind ?_ (fun _ => ?_))
      | exact ih0 _ _ _ _ _
      | exact impl_act.mono _ _ _ _
      | exact LeO.none _
      | refine LeO.ite ?_ ?_
      | refine LeO.bind ?_ (fun _ => ?_)
theorem impl_actWord.mono : ∀ a0 a1 a2 k, LeO (impl_actWord.f k a0 a1 a2) (impl_actWord.f (k + 1) a0 a1 a2) := by
  intro a0 a1 a2 k
  have ih0 := impl_actWord.mono_l k
  unfold impl_actWord.f
  repeat' first
      | (with_reducible exact ih0 _ _ _ _ _)
      | (with_reducible exact impl_act.mono _ _ _ _)
      | (with_reducible exact LeO.refl _)
      | (with_reducible exact LeO.none _)
      | (with_reducible refine LeO.ite ?_ ?_)
      | (with_reducible refine LeO.bind ?_ (fun _ => ?_))
      | exact ih0 _ _ _ _ _
      | exact impl_act.mono _ _ _ _
      | exact LeO.none _
      | refine LeO.ite ?_ ?_
      | refine LeO.bind ?_ (fun _ => ?_)
set_option maxHeartbeats 8000000 in
set_option maxRecDepth 100000 in
theorem impl_actWord.calls (k : Nat) (A0 : Option Addr) (c0 : Nat) (l0 : List (List Int)) (A1 : Option Addr) (c1 : Nat) (l1 : List Int) (a2 : Int) (r : Int) (w : World) (hr0 : Kd.C (Kd.slice 2 (Kd.int .i64)) w A0 l0.length l0) (hc0 : l0.length ≤ c0) (hr1 : Kd.C (Kd.int .i64) w A1 l1.length l1) (hc1 : l1.length ≤ c1) (h : impl_actWord.f k l0 l1 a2 = some r) :
    Calls Try.prog 112 #[.slice A0 l0.length c0, .slice A1 l1.length c1, .int .i64 a2] w fun e w' => e = .returned (.int .i64 r) ∧ Drawn0 w w' := by
  have HR0 := Aside0.mk hr0
  have HC0 := Aside0.mk hc0
  clear hr0 hc0
  have HR1 := Aside0.mk hr1
  have HC1 := Aside0.mk hc1
  clear hr1 hc1
  have H : (impl_actWord.l0 k l0 a2 l1 (l1.length : Int) 0) = some r := h
  clear h
  have H' := Aside0.mk H
  clear H
  go_enter Try.func112, Try.ntmps112
  go_wp2
  go_loopg [2, 11] k (fun kq v2 v11 w' => ∃ (x2_1 : Int) (x11_1 : Int), v2 = .int .i64 x2_1 ∧ v11 = .int .i64 x11_1 ∧ Aside0 (impl_actWord.l0 kq l0 x2_1 l1 (l1.length : Int) x11_1 = some r) ∧ Aside0 (kq ≤ k) ∧ Drawn0 w w')
  case atStart => exact ⟨(a2), (0), (by first | rfl | (simp; done) | (simp [*]; done)), (by first | rfl | (simp; done) | (simp [*]; done)), H', ⟨Nat.le_refl _⟩, by repeat (first | exact Drawn0.refl _ | apply Drawn0.step)⟩
  case round =>
    clear H'
    try clear c1
    try clear p2
    obtain ⟨x2_1, x11_1, rfl, rfl, HA, HK1, ⟨m1, rfl⟩⟩ := hrel
    cases gk with
    | zero => exact absurd HA.out (by simp [impl_actWord.l0])
    | succ k1 =>
      have H := HA.out
      clear HA
      simp only [impl_actWord.l0] at H
      by_cases c4 : x11_1 < (l1.length : Int)
      · rw [if_pos c4] at H
        have c4b0 : decide (x11_1 < (l1.length : Int)) = true := decide_eq_true c4
        clear c4
        by_cases c5 : 0 ≤ x11_1
        · rw [if_pos c5] at H
          have c5b0 : decide (0 ≤ x11_1) = true := decide_eq_true c5
          clear c5
          by_cases c6 : x11_1 < (l1.length : Int)
          · rw [if_pos c6] at H
            have c6b0 : decide (x11_1 < (l1.length : Int)) = true := decide_eq_true c6
            clear c6
            replace H := Option.bind_eq_some_iff.mp H
            obtain ⟨t286, A70, H⟩ := H
            replace H : (impl_actWord.l0 k1 l0 t286 l1 (l1.length : Int) (wrap64 (x11_1 + 1))) = some r := H
            have A7 := Aside0.mk A70
            clear A70
            have H' := Aside0.mk H
            clear H
            have p285 : 0 ≤ (x11_1 : Int) := of_decide_eq_true (by first | (with_reducible assumption) | assumption)
            have q285 : x11_1 < (l1.length : Int) := of_decide_eq_true (by first | (with_reducible assumption) | assumption)
            obtain ⟨ad285, e285, hx285_0⟩ := Kd.at_int HR1.out x11_1 p285 q285
            cases e285
            replace p285 := eq_true p285
            replace q285 := eq_true q285
            go_wp2_with (first | ((with_reducible refine gate_callee (f := 57) rfl ?_); refine goesL_ (some 18) rfl rfl Try.func57 (by kernel_rfl) rfl #[.slice A0 l0.length c0, .int .i64 (rd l1 x11_1), .int .i64 x2_1] rfl (by (try simp only [List.map_toArray, List.map_cons, List.map_nil]); first | done | rfl | (simp only [List.length_drop, List.length_take]; rfl)) ?_; (with_reducible refine (impl_act.calls k1 _ _ l0 (rd l1 x11_1) x2_1 t286 _ ?side1 ?side2 A7.out).mono ?_); (case side1 => repeat (first | exact HR0.out | (with_reducible refine Kd.C_alloc ?_ _) | (with_reducible refine Kd.C_drewN ?_ _) | (with_reducible refine Kd.C_drew ?_))); (case side2 => exact HC0.out); rintro e w' ⟨rfl, ⟨nd, rfl⟩⟩; refine ⟨_, rfl, ?_⟩))
            go_roundg k1
            case measure => have := HK1.out; omega
            case rel => exact ⟨(t286), (wrap64 (x11_1 + 1)), (by first | rfl | (simp; done) | (simp [*]; done)), (by first | rfl | (simp; done) | (simp [*]; done)), H', ⟨by have := HK1.out; omega⟩, by repeat (first | exact Drawn0.refl _ | apply Drawn0.step)⟩
          · rw [if_neg c6] at H
            exact absurd H (by simp)
        · rw [if_neg c5] at H
          exact absurd H (by simp)
      · rw [if_neg c4] at H
        have c4b0 : decide (x11_1 < (l1.length : Int)) = false := decide_eq_false c4
        clear c4
        obtain rfl := Option.some.inj H
        go_wp2
        go_ret
        exact ⟨by first | rfl | (simp; done) | (simp [*]; done), by repeat (first | exact Drawn0.refl _ | apply Drawn0.step)⟩

/-! ### impl_isTrivial: function 81 -/
def impl_isTrivial.l0 : Nat → List (List Int) → List Int → Int → Int → Option (Bool)
  | 0, _, _, _, _ => none
  | k + 1, x1, x2, x8, x9 => if x9 < x8 then ((impl_actWord.f k x1 x2 x9).bind fun t287 => (if t287 = x9 then (impl_isTrivial.l0 k x1 x2 x8 (wrap64 (x9 + 1))) else (some false))) else (some true)
def impl_isTrivial.f (k : Nat) (a0 : Int) (l1 : List (List Int)) (l2 : List Int) : Option (Bool) := impl_isTrivial.l0 k l1 l2 a0 0
theorem impl_isTrivial.mono_l : ∀ k, (∀ y0 y1 y2 y3, LeO (impl_isTrivial.l0 k y0 y1 y2 y3) (impl_isTrivial.l0 (k + 1) y0 y1 y2 y3))
  | 0 => fun _ _ _ _ r h => by simp [impl_isTrivial.l0] at h
  | k + 1 => by
    have ih0 := impl_isTrivial.mono_l k
    · intro y0 y1 y2 y3
      unfold impl_isTrivial.l0
      repeat' first
      | (with_reducible exact ih0 _ _ _ _)
      | (with_reducible exact impl_actWord.mono _ _ _ _)
      | (with_reducible exact LeO.refl _)
      | (with_reducible exact LeO.none _)
      | (with_reducible refine LeO.ite ?_ ?_)
      | (with_reducible refine LeO.bind ?_ (fun _ => ?_))
      | exact ih0 _ _ _ _
      | exact impl_actWord.mono _ _ _ _
      | exact LeO.none _
      | refine LeO.ite ?_ ?_
      | refine LeO.bind ?_ (fun _ => ?_)
theorem impl_isTrivial.mono : ∀ a0 a1 a2 k, LeO (impl_isTrivial.f k a0 a1 a2) (impl_isTrivial.f (k + 1) a0 a1 a2) := by
  intro a0 a1 a2 k
  have ih0 := impl_isTrivial.mono_l k
  unfold impl_isTrivial.f
  repeat' first
      | (with_reducible exact ih0 _ _ _ _)
      | (with_reducible exact impl_actWord.mono _ _ _ _)
      | (with_reducible exact LeO.refl _)
      | (with_reducible exact LeO.none _)
      | (with_reducible refine LeO.ite ?_ ?_)
      | (with_reducible refine LeO.bind ?_ (fun _ => ?_))
      | exact ih0 _ _ _ _
      | exact impl_actWord.mono _ _ _ _
      | exact LeO.none _
      | refine LeO.ite ?_ ?_
      | refine LeO.bind ?_ (fun _ => ?_)
set_option maxHeartbeats 8000000 in
set_option maxRecDepth 100000 in
theorem impl_isTrivial.calls (k : Nat) (a0 : Int) (A1 : Option Addr) (c1 : Nat) (l1 : List (List Int)) (A2 : Option Addr) (c2 : Nat) (l2 : List Int) (r : Bool) (w : World) (hr1 : Kd.C (Kd.slice 2 (Kd.int .i64)) w A1 l1.length l1) (hc1 : l1.length ≤ c1) (hr2 : Kd.C (Kd.int .i64) w A2 l2.length l2) (hc2 : l2.length ≤ c2) (h : impl_isTrivial.f k a0 l1 l2 = some r) :
    Calls Try.prog 81 #[.int .i64 a0, .slice A1 l1.length c1, .slice A2 l2.length c2] w fun e w' => e = .returned (.bool r) ∧ Drawn0 w w' := by
  have HR1 := Aside0.mk hr1
  have HC1 := Aside0.mk hc1
  clear hr1 hc1
  have HR2 := Aside0.mk hr2
  have HC2 := Aside0.mk hc2
  clear hr2 hc2
  have H : (impl_isTrivial.l0 k l1 l2 a0 0) = some r := h
  clear h
  have H' := Aside0.mk H
  clear H
  go_enter Try.func81, Try.ntmps81
  go_wp2
  go_loopg [9] k (fun kq v9 w' => ∃ (x9_1 : Int), v9 = .int .i64 x9_1 ∧ Aside0 (impl_isTrivial.l0 kq l1 l2 a0 x9_1 = some r) ∧ Aside0 (kq ≤ k) ∧ Drawn0 w w')
  case atStart => exact ⟨(0), (by first | rfl | (simp; done) | (simp [*]; done)), H', ⟨Nat.le_refl _⟩, by repeat (first | exact Drawn0.refl _ | apply Drawn0.step)⟩
  case round =>
    clear H'
    try clear c1
    try clear c2
    try clear p2
    obtain ⟨x9_1, rfl, HA, HK1, ⟨m1, rfl⟩⟩ := hrel
    cases gk with
    | zero => exact absurd HA.out (by simp [impl_isTrivial.l0])
    | succ k1 =>
      have H := HA.out
      clear HA
      simp only [impl_isTrivial.l0] at H
      by_cases c4 : x9_1 < a0
      · rw [if_pos c4] at H
        have c4b0 : decide (x9_1 < a0) = true := decide_eq_true c4
        clear c4
        replace H := Option.bind_eq_some_iff.mp H
        obtain ⟨t287, A50, H⟩ := H
        replace H : (if t287 = x9_1 then (impl_isTrivial.l0 k1 l1 l2 a0 (wrap64 (x9_1 + 1))) else (some false)) = some r := H
        have A5 := Aside0.mk A50
        clear A50
        by_cases c6 : t287 = x9_1
        · rw [if_pos c6] at H
          have c6b0 : (t287 == x9_1) = true := beq_iff_eq.mpr c6
          have c6b1 : (t287 != x9_1) = false := bne_eq_false_iff_eq.mpr c6
          clear c6
          have H' := Aside0.mk H
          clear H
          go_wp2_with (first | ((with_reducible refine gate_callee (f := 112) rfl ?_); refine goesL_ (some 15) rfl rfl Try.func112 (by kernel_rfl) rfl #[.slice A1 l1.length c1, .slice A2 l2.length c2, .int .i64 x9_1] rfl (by (try simp only [List.map_toArray, List.map_cons, List.map_nil]); first | done | rfl | (simp only [List.length_drop, List.length_take]; rfl)) ?_; (with_reducible refine (impl_actWord.calls k1 _ _ l1 _ _ l2 x9_1 t287 _ ?side1 ?side2 ?side3 ?side4 A5.out).mono ?_); (case side1 => repeat (first | exact HR1.out | (with_reducible refine Kd.C_alloc ?_ _) | (with_reducible refine Kd.C_drewN ?_ _) | (with_reducible refine Kd.C_drew ?_))); (case side2 => exact HC1.out); (case side3 => repeat (first | exact HR2.out | (with_reducible refine Kd.C_alloc ?_ _) | (with_reducible refine Kd.C_drewN ?_ _) | (with_reducible refine Kd.C_drew ?_))); (case side4 => exact HC2.out); rintro e w' ⟨rfl, ⟨nd, rfl⟩⟩; refine ⟨_, rfl, ?_⟩))
          go_roundg k1
          case measure => have := HK1.out; omega
          case rel => exact ⟨(wrap64 (x9_1 + 1)), (by first | rfl | (simp; done) | (simp [*]; done)), H', ⟨by have := HK1.out; omega⟩, by repeat (first | exact Drawn0.refl _ | apply Drawn0.step)⟩
        · rw [if_neg c6] at H
          have c6b0 : (t287 == x9_1) = false := beq_eq_false_iff_ne.mpr c6
          have c6b1 : (t287 != x9_1) = true := bne_iff_ne.mpr c6
          obtain rfl := Option.some.inj H
          go_wp2_with (first | ((with_reducible refine gate_callee (f := 112) rfl ?_); refine goesL_ (some 15) rfl rfl Try.func112 (by kernel_rfl) rfl #[.slice A1 l1.length c1, .slice A2 l2.length c2, .int .i64 x9_1] rfl (by (try simp only [List.map_toArray, List.map_cons, List.map_nil]); first | done | rfl | (simp only [List.length_drop, List.length_take]; rfl)) ?_; (with_reducible refine (impl_actWord.calls k1 _ _ l1 _ _ l2 x9_1 t287 _ ?side1 ?side2 ?side3 ?side4 A5.out).mono ?_); (case side1 => repeat (first | exact HR1.out | (with_reducible refine Kd.C_alloc ?_ _) | (with_reducible refine Kd.C_drewN ?_ _) | (with_reducible refine Kd.C_drew ?_))); (case side2 => exact HC1.out); (case side3 => repeat (first | exact HR2.out | (with_reducible refine Kd.C_alloc ?_ _) | (with_reducible refine Kd.C_drewN ?_ _) | (with_reducible refine Kd.C_drew ?_))); (case side4 => exact HC2.out); rintro e w' ⟨rfl, ⟨nd, rfl⟩⟩; refine ⟨_, rfl, ?_⟩))
          go_ret
          exact ⟨by first | rfl | (simp; done) | (simp [*]; done), by repeat (first | exact Drawn0.refl _ | apply Drawn0.step)⟩
      · rw [if_neg c4] at H
        have c4b0 : decide (x9_1 < a0) = false := decide_eq_false c4
        clear c4
        obtain rfl := Option.some.inj H
        go_wp2
        go_ret
        exact ⟨by first | rfl | (simp; done) | (simp [*]; done), by repeat (first | exact Drawn0.refl _ | apply Drawn0.step)⟩

end Go.Proofs.Ytbcdngjajjgmkaa.PFnExactRepresentationAt
