/- Written by this session's program out of the kit's print and this session's contracts. -/
import Derived.Test.YtifbfloifdkacaaVFnProductsPx0
namespace Go.Proofs.Ytifbfloifdkacaa.PFnProducts
open Go.RowKit Go.Proofs.YtifbfloifdkacaaW.PrintWords Go.Proofs.YtifbfloifdkacaaW.PrintLast Go.Proofs.YtifbfloifdkacaaW.PrintMore
attribute [local go_sem] max2_int min2_int max_two min_two max_three min_three max_four min_four   -- for this text's walks alone
set_option linter.unusedVariables false
set_option linter.unusedSimpArgs false

/-! ### impl_inRange: function 51 -/
def impl_inRange.f (a0 : Int) (a1 : Int) (a2 : Int) : Option (Bool) := if a1 ≤ a0 then (some (decide (a0 ≤ a2))) else (some false)
set_option maxHeartbeats 8000000 in
set_option maxRecDepth 100000 in
theorem impl_inRange.calls (a0 : Int) (a1 : Int) (a2 : Int) (r : Bool) (w : World) (h : impl_inRange.f a0 a1 a2 = some r) :
    Calls Try.prog 51 #[.int .i64 a0, .int .i64 a1, .int .i64 a2] w fun e w' => e = .returned (.bool r) ∧ Drawn0 w w' := by
  have H : (if a1 ≤ a0 then (some (decide (a0 ≤ a2))) else (some false)) = some r := h
  clear h
  by_cases c4 : a1 ≤ a0
  · rw [if_pos c4] at H
    have c4b0 : decide (a1 ≤ a0) = true := decide_eq_true c4
    clear c4
    obtain rfl := Option.some.inj H
    go_enter Try.func51, Try.ntmps51
    go_wp2
    go_ret
    exact ⟨by first | rfl | (simp; done) | (simp [*]; done), by repeat (first | exact Drawn0.refl _ | apply Drawn0.step)⟩
  · rw [if_neg c4] at H
    have c4b0 : decide (a1 ≤ a0) = false := decide_eq_false c4
    clear c4
    obtain rfl := Option.some.inj H
    go_enter Try.func51, Try.ntmps51
    go_wp2
    go_ret
    exact ⟨by first | rfl | (simp; done) | (simp [*]; done), by repeat (first | exact Drawn0.refl _ | apply Drawn0.step)⟩

theorem inRange_t (x a b : Int) (w : World) (h1 : a ≤ x) (h2 : x ≤ b) : Calls Try.prog 51 #[.int .i64 x, .int .i64 a, .int .i64 b] w fun e w' => e = .returned (.bool true) ∧ w' = w := by
  have e1 : decide (a ≤ x) = true := decide_eq_true h1
  have e2 : decide (x ≤ b) = true := decide_eq_true h2
  clear h1 h2
  go_enter Try.func51, Try.ntmps51
  go_wp2
  go_ret
  exact ⟨rfl, rfl⟩
theorem inRange_f (x a b : Int) (w : World) (h : ¬ (a ≤ x ∧ x ≤ b)) : Calls Try.prog 51 #[.int .i64 x, .int .i64 a, .int .i64 b] w fun e w' => e = .returned (.bool false) ∧ w' = w := by
  by_cases h1 : a ≤ x
  · have e1 : decide (a ≤ x) = true := decide_eq_true h1
    have e2 : decide (x ≤ b) = false := decide_eq_false fun h2 => h ⟨h1, h2⟩
    clear h1 h
    go_enter Try.func51, Try.ntmps51
    go_wp2
    go_ret
    exact ⟨rfl, rfl⟩
  · have e1 : decide (a ≤ x) = false := decide_eq_false h1
    clear h1 h
    go_enter Try.func51, Try.ntmps51
    go_wp2
    go_ret
    exact ⟨rfl, rfl⟩

/-! ### impl_size_int64: function 52 -/
def impl_size_int64.f (l0 : List Int) : Option (Int) := some (l0.length : Int)
set_option maxHeartbeats 8000000 in
set_option maxRecDepth 100000 in
theorem impl_size_int64.calls (A0 : Option Addr) (c0 : Nat) (l0 : List Int) (r : Int) (w : World) (hr0 : Kd.C (Kd.int .i64) w A0 l0.length l0) (hc0 : l0.length ≤ c0) (h : impl_size_int64.f l0 = some r) :
    Calls Try.prog 52 #[.slice A0 l0.length c0] w fun e w' => e = .returned (.int .i64 r) ∧ Drawn0 w w' := by
  have HR0 := Aside0.mk hr0
  have HC0 := Aside0.mk hc0
  clear hr0 hc0
  have H : (some (l0.length : Int)) = some r := h
  clear h
  obtain rfl := Option.some.inj H
  go_enter Try.func52, Try.ntmps52
  go_wp2
  go_ret
  exact ⟨by first | rfl | (simp; done) | (simp [*]; done), by repeat (first | exact Drawn0.refl _ | apply Drawn0.step)⟩

theorem sizeInts (A : Option Addr) (c : Nat) (l : List Int) (w : World) : Calls Try.prog 52 #[.slice A l.length c] w fun e w' => e = .returned (.int .i64 l.length) ∧ w' = w := by
  go_enter Try.func52, Try.ntmps52
  go_wp2
  go_ret
  exact ⟨rfl, rfl⟩

/-! ### slices_IndexFunc_int64_int64: function 64 -/
/-- The first place at which p holds, counted from i on, or -1. -/
def idxOf {α : Type} (p : α → Bool) : List α → Int → Int
  | [], _ => -1
  | x :: r, i => if p x = true then i else idxOf p r (i + 1)
theorem idxOf_any {α : Type} (p : α → Bool) : ∀ (l : List α) (i : Int), 0 ≤ i → decide (0 ≤ idxOf p l i) = l.any p
  | [], i, _ => by simp [idxOf]
  | x :: r, i, h => by
    unfold idxOf
    by_cases hp : p x = true
    · simp [hp, h]
    · rw [if_neg hp, idxOf_any p r (i + 1) (by omega)]
      simp [hp]
theorem rd_drop (l : List Int) (k : Nat) (h : k < l.length) : l.drop k = rd l k :: l.drop (k + 1) := by
  rw [List.drop_eq_getElem_cons h]
  simp [rd, List.getD, List.getElem?_eq_getElem h]
theorem rd_mem (l : List Int) (k : Nat) (h : k < l.length) : rd l k ∈ l := by
  simp [rd, List.getD, List.getElem?_eq_getElem h]
set_option maxHeartbeats 8000000 in
set_option maxRecDepth 100000 in
theorem indexIntsS (g : Nat) (lb : Array Value) (eg : ∀ args W, (callFunc g args).run Try.prog W = .ok (.enter g args) W)
    (p : Int → Bool) (A0 : Option Addr) (c0 : Nat) (l0 : List Int) (w : World) (hr0 : Kd.C (Kd.int .i64) w A0 l0.length l0)
    (hp : ∀ (x : Int), x ∈ l0 → Calls Try.prog g (#[.int .i64 x] ++ lb) w fun e w' => e = .returned (.bool (p x)) ∧ w' = w) :
    Calls Try.prog 64 #[.slice A0 l0.length c0, .func (.func g) #[] lb] w fun e w' => e = .returned (.int .i64 (idxOf p l0 0)) ∧ w' = w := by
  have hbig := hr0.2.1
  have HR0 := Aside0.mk hr0
  have HP := Aside0.mk hp
  clear hr0 hp
  go_enter Try.func64, Try.ntmps64
  go_wp2
  go_loopg [5, 8] l0.length (fun gg _ s8 wr => ∃ kk : Nat, kk ≤ l0.length ∧ l0.length - kk ≤ gg ∧ s8 = .int .i64 kk ∧ wr = w ∧ Aside0 (idxOf p l0 0 = idxOf p (l0.drop kk) kk))
  case atStart => exact ⟨0, Nat.zero_le _, by omega, rfl, rfl, ⟨by simp⟩⟩
  case round =>
    obtain ⟨kk, hkk, hg, rfl, rfl, AI⟩ := hrel
    by_cases hlt : kk < l0.length
    · have hltz : (kk : Int) < (l0.length : Int) := by omega
      obtain ⟨ad, e, hx0⟩ := Kd.at_int HR0.out (kk : Int) (by omega) (by omega)
      cases e
      have hx : wr.cell? (ad.add kk) = some (.int .i64 (rd l0 kk)) := by simpa using hx0
      clear hx0
      have hcall := HP.out (rd l0 kk) (rd_mem l0 kk hlt)
      have AD := Aside0.mk (rd_drop l0 kk hlt)
      generalize rd l0 kk = y at hx hcall AD
      cases hq : p y with
      | true =>
        rw [hq] at hcall
        have HQ := Aside0.mk hq
        clear hq
        go_wp2_with ((with_reducible refine hcall.mono ?_); rintro e w' ⟨rfl, rfl⟩)
        go_ret
        refine ⟨?_, rfl⟩
        rw [AI.out, AD.out]
        simp [idxOf, HQ.out]
      | false =>
        rw [hq] at hcall
        have HQ := Aside0.mk hq
        clear hq
        go_wp2_with ((with_reducible refine hcall.mono ?_); rintro e w' ⟨rfl, rfl⟩)
        go_roundg (l0.length - (kk + 1))
        case measure => omega
        case rel =>
          refine ⟨kk + 1, by omega, by omega, by go_num, rfl, ⟨?_⟩⟩
          rw [AI.out, AD.out]
          simp [idxOf, HQ.out]
    · have hltz : ¬ (kk : Int) < (l0.length : Int) := by omega
      have hk : kk = l0.length := by omega
      have HK := Aside0.mk hk
      clear hk
      go_wp2
      go_ret
      refine ⟨?_, rfl⟩
      rw [AI.out, HK.out]
      simp [idxOf]

/-! ### slices_ContainsFunc_int64_int64: function 53 -/
set_option maxHeartbeats 8000000 in
set_option maxRecDepth 100000 in
theorem containsIntsS (g : Nat) (lb : Array Value) (eg : ∀ args W, (callFunc g args).run Try.prog W = .ok (.enter g args) W)
    (p : Int → Bool) (A0 : Option Addr) (c0 : Nat) (l0 : List Int) (w : World) (hr0 : Kd.C (Kd.int .i64) w A0 l0.length l0)
    (hp : ∀ (x : Int), x ∈ l0 → Calls Try.prog g (#[.int .i64 x] ++ lb) w fun e w' => e = .returned (.bool (p x)) ∧ w' = w) :
    Calls Try.prog 53 #[.slice A0 l0.length c0, .func (.func g) #[] lb] w fun e w' => e = .returned (.bool (l0.any p)) ∧ w' = w := by
  rw [← idxOf_any p l0 0 (Int.le_refl 0)]
  have hI := indexIntsS g lb eg p A0 c0 l0 w hr0 hp
  clear hr0 hp eg
  go_enter Try.func53, Try.ntmps53
  go_wp2_with (go_at_call 64; refine hI.mono ?_; rintro e w' ⟨rfl, rfl⟩)
  go_ret
  exact ⟨rfl, rfl⟩

/-! ### impl_isMatrix: function 27 -/
def matBad (x : Int) : Bool := !(decide (-1000000000000 ≤ x) && decide (x ≤ 1000000000000))
def isMatB (a b : Int) (l : List Int) : Bool := (decide (0 ≤ a) && decide (a ≤ 48)) && ((decide (0 ≤ b) && decide (b ≤ 48)) && (decide ((l.length : Int) = a * b) && !(l.any matBad)))
def impl_isMatrix.f (a0_0 : Int) (a0_1 : Int) (l0_2 : List Int) : Option Bool := some (isMatB a0_0 a0_1 l0_2)
theorem matBad_lit (x : Int) (w : World) : Calls Try.prog 54 #[.int .i64 x] w fun e w' => e = .returned (.bool (matBad x)) ∧ w' = w := by
  by_cases h : -1000000000000 ≤ x ∧ x ≤ 1000000000000
  · have E := Aside0.mk (show matBad x = false by simp [matBad, h.1, h.2])
    have hC := inRange_t x (-1000000000000) 1000000000000 w h.1 h.2
    clear h
    go_enter Try.func54, Try.ntmps54
    go_wp2_with (go_at_call 51; (with_reducible refine hC.mono ?_); rintro e w' ⟨rfl, rfl⟩)
    go_ret
    exact ⟨by rw [E.out] <;> rfl, rfl⟩
  · have E := Aside0.mk (show matBad x = true by
      unfold matBad
      by_cases h1 : -1000000000000 ≤ x <;> by_cases h2 : x ≤ 1000000000000 <;> simp [h1, h2]
      exact h ⟨h1, h2⟩)
    have hC := inRange_f x (-1000000000000) 1000000000000 w h
    clear h
    go_enter Try.func54, Try.ntmps54
    go_wp2_with (go_at_call 51; (with_reducible refine hC.mono ?_); rintro e w' ⟨rfl, rfl⟩)
    go_ret
    exact ⟨by rw [E.out] <;> rfl, rfl⟩
set_option maxHeartbeats 8000000 in
set_option maxRecDepth 100000 in
theorem impl_isMatrix.calls (a0_0 : Int) (a0_1 : Int) (A0_2 : Option Addr) (c0_2 : Nat) (l0_2 : List Int) (r : Bool) (w : World) (hr0_2 : Kd.C (Kd.int .i64) w A0_2 l0_2.length l0_2) (hc0_2 : l0_2.length ≤ c0_2) (h : impl_isMatrix.f a0_0 a0_1 l0_2 = some r) :
    Calls Try.prog 27 #[.agg #[.int .i64 a0_0, .int .i64 a0_1, .slice A0_2 l0_2.length c0_2]] w fun e w' => e = .returned (.bool r) ∧ Below w.heap.size w w' := by
  obtain rfl := Option.some.inj h
  clear h
  have hC := fun (W : World) (hb : Below w.heap.size w W) =>
    containsIntsS 54 #[] (Go.Proofs.enters_of Try.func54 (by kernel_rfl) rfl) matBad A0_2 c0_2 l0_2 W (Kd.C_below hr0_2 hb) (fun x _ => matBad_lit x W)
  have HC := Aside0.mk hC
  clear hC hr0_2 hc0_2
  by_cases h1 : 0 ≤ a0_0 ∧ a0_0 ≤ 48
  · have hI1 := Aside0.mk (fun W => inRange_t a0_0 0 48 W h1.1 h1.2)
    by_cases h2 : 0 ≤ a0_1 ∧ a0_1 ≤ 48
    · have hI2 := Aside0.mk (fun W => inRange_t a0_1 0 48 W h2.1 h2.2)
      have hm0 : 0 ≤ a0_0 * a0_1 := Int.mul_nonneg h1.1 h2.1
      have hm1 : a0_0 * a0_1 ≤ 48 * 48 := Int.mul_le_mul h1.2 h2.2 h2.1 (by omega)
      have hw : wrap64 (a0_0 * a0_1) = a0_0 * a0_1 := by unfold wrap64; omega
      have hw2 : IntKind.i64.wrap (a0_0 * a0_1) = a0_0 * a0_1 := (i64_w _).trans hw
      by_cases h3 : (l0_2.length : Int) = a0_0 * a0_1
      · have h3b : ((l0_2.length : Int) == a0_0 * a0_1) = true := by simpa using h3
        have E := Aside0.mk (show isMatB a0_0 a0_1 l0_2 = !(l0_2.any matBad) by simp [isMatB, h1.1, h1.2, h2.1, h2.2, h3])
        clear h1 h2 h3 hm0 hm1
        go_enter Try.func27, Try.ntmps27
        go_wp2
        go_quiet ((first | (go_at_call_of 51 (Value.int IntKind.i64 a0_0); exact Calls.quiet_of_same (hI1.out _)) | (go_at_call 51; exact Calls.quiet_of_same (hI2.out _)) | (go_at_call 52; exact Calls.quiet_of_same (sizeInts _ _ _ _)) | (go_at_call 53; exact Calls.quiet_of_same (HC.out _ (by repeat (first | exact Below.refl _ _ | apply pw_below_drewN | apply below_alloc))))))
        go_wp2
        go_ret
        exact ⟨by rw [E.out] <;> rfl, by repeat (first | exact Below.refl _ _ | apply pw_below_drewN | apply below_alloc)⟩
      · have h3b : ((l0_2.length : Int) == a0_0 * a0_1) = false := by simpa using h3
        have E := Aside0.mk (show isMatB a0_0 a0_1 l0_2 = false by simp [isMatB, h3])
        clear h1 h2 h3 hm0 hm1
        go_enter Try.func27, Try.ntmps27
        go_wp2
        go_quiet ((first | (go_at_call_of 51 (Value.int IntKind.i64 a0_0); exact Calls.quiet_of_same (hI1.out _)) | (go_at_call 51; exact Calls.quiet_of_same (hI2.out _)) | (go_at_call 52; exact Calls.quiet_of_same (sizeInts _ _ _ _))))
        go_wp2
        go_ret
        exact ⟨by rw [E.out] <;> rfl, by repeat (first | exact Below.refl _ _ | apply pw_below_drewN | apply below_alloc)⟩
    · have hI2 := Aside0.mk (fun W => inRange_f a0_1 0 48 W h2)
      have E := Aside0.mk (show isMatB a0_0 a0_1 l0_2 = false by
        unfold isMatB
        by_cases h4 : 0 ≤ a0_1 <;> by_cases h5 : a0_1 ≤ 48 <;> simp [h4, h5]
        exact absurd ⟨h4, h5⟩ h2)
      clear h1 h2
      go_enter Try.func27, Try.ntmps27
      go_wp2
      go_quiet ((first | (go_at_call_of 51 (Value.int IntKind.i64 a0_0); exact Calls.quiet_of_same (hI1.out _)) | (go_at_call 51; exact Calls.quiet_of_same (hI2.out _))))
      go_wp2
      go_ret
      exact ⟨by rw [E.out] <;> rfl, by repeat (first | exact Below.refl _ _ | apply pw_below_drewN | apply below_alloc)⟩
  · have hI1 := Aside0.mk (fun W => inRange_f a0_0 0 48 W h1)
    have E := Aside0.mk (show isMatB a0_0 a0_1 l0_2 = false by
      unfold isMatB
      by_cases h4 : 0 ≤ a0_0 <;> by_cases h5 : a0_0 ≤ 48 <;> simp [h4, h5]
      exact absurd ⟨h4, h5⟩ h1)
    clear h1
    go_enter Try.func27, Try.ntmps27
    go_wp2
    go_quiet ((go_at_call 51; exact Calls.quiet_of_same (hI1.out _)))
    go_wp2
    go_ret
    exact ⟨by rw [E.out] <;> rfl, by repeat (first | exact Below.refl _ _ | apply pw_below_drewN | apply below_alloc)⟩

/-! ### impl_abs: function 56 -/
def impl_abs.f (a0 : Int) : Option (Int) := if a0 < 0 then (some (wrap64 (-a0))) else (some a0)
set_option maxHeartbeats 8000000 in
set_option maxRecDepth 100000 in
theorem impl_abs.calls (a0 : Int) (r : Int) (w : World) (h : impl_abs.f a0 = some r) :
    Calls Try.prog 56 #[.int .i64 a0] w fun e w' => e = .returned (.int .i64 r) ∧ Drawn0 w w' := by
  have H : (if a0 < 0 then (some (wrap64 (-a0))) else (some a0)) = some r := h
  clear h
  by_cases c2 : a0 < 0
  · rw [if_pos c2] at H
    have c2b0 : decide (a0 < 0) = true := decide_eq_true c2
    clear c2
    obtain rfl := Option.some.inj H
    go_enter Try.func56, Try.ntmps56
    go_wp2
    go_ret
    exact ⟨by first | rfl | (simp; done) | (simp [*]; done), by repeat (first | exact Drawn0.refl _ | apply Drawn0.step)⟩
  · rw [if_neg c2] at H
    have c2b0 : decide (a0 < 0) = false := decide_eq_false c2
    clear c2
    obtain rfl := Option.some.inj H
    go_enter Try.func56, Try.ntmps56
    go_wp2
    go_ret
    exact ⟨by first | rfl | (simp; done) | (simp [*]; done), by repeat (first | exact Drawn0.refl _ | apply Drawn0.step)⟩

/-! ### impl_volume: function 28 -/
def volAbs (x : Int) : Int := if x < 0 then wrap64 (-x) else x
theorem impl_abs_vol (x : Int) : impl_abs.f x = some (volAbs x) := by
  unfold impl_abs.f volAbs
  split <;> rfl
def volRow (y : List Int) : Nat → Nat → Int → Int
  | 0, _, s => s
  | d + 1, j, s => volRow y d (j + 1) (wrap64 (s + volAbs (rd y (j : Int))))
def volGo (b : Nat) (l : List Int) : Nat → Nat → Int → Int
  | 0, _, o => o
  | d + 1, i, o => if wrap64 (o * mx (mn (volRow ((l.take (i * b + b)).drop (i * b)) b 0 0) 1000000001) 1) > 1000000000 then wrap64 (o * mx (mn (volRow ((l.take (i * b + b)).drop (i * b)) b 0 0) 1000000001) 1) else volGo b l d (i + 1) (wrap64 (o * mx (mn (volRow ((l.take (i * b + b)).drop (i * b)) b 0 0) 1000000001) 1))
def impl_volume.f (a0_0 : Int) (a0_1 : Int) (l0_2 : List Int) : Option Int := if 0 ≤ a0_0 ∧ a0_0 ≤ 48 ∧ 0 ≤ a0_1 ∧ a0_1 ≤ 48 ∧ (l0_2.length : Int) = a0_0 * a0_1 then some (volGo a0_1.toNat l0_2 a0_0.toNat 0 1) else none
theorem row_at (a b x : Int) (A A1 : Option Addr) (c c1 : Nat) (l : List Int) (i n : Nat) (w : World) (hx : x = (i : Int)) (hb : b = (n : Int)) (h : i * n + n ≤ l.length) (hc : l.length ≤ c) (hl : l.length ≤ 3000) (hi : i ≤ 3000) (hA : A1 = (if c = i * n then A else A.map (·.add (i * n * 1)))) (hc1 : c1 = c - i * n) :
    Calls Try.prog 55 #[.agg #[.int .i64 a, .int .i64 b, .slice A l.length c], .int .i64 x] w fun e w' => e = .returned (.slice A1 n c1) ∧ Below w.heap.size w w' := by
  obtain ⟨lo, hlo⟩ : ∃ lo : Int, lo = ((i * n : Nat) : Int) := ⟨_, rfl⟩
  obtain ⟨up, hup⟩ : ∃ up : Int, up = ((i * n + n : Nat) : Int) := ⟨_, rfl⟩
  obtain ⟨x1, hx1⟩ : ∃ x1 : Int, x1 = ((i + 1 : Nat) : Int) := ⟨_, rfl⟩
  have e1 : IntKind.i64.wrap (x * b) = lo := by rw [i64_w, hx, hb, hlo, ← Int.natCast_mul]; unfold wrap64; omega
  have e2 : IntKind.i64.wrap (x + 1) = x1 := by rw [i64_w, hx, hx1]; unfold wrap64; omega
  have e3 : IntKind.i64.wrap (x1 * b) = up := by rw [i64_w, hx1, hb, hup, ← Int.natCast_mul, Nat.succ_mul]; unfold wrap64; omega
  obtain ⟨i0, hi0, _, hsz, _⟩ := info_parts info2
  have hcut := cut_mid (P := Try.prog) 22 2 .i64 .i64 Try.underlying22 hi0 1 hsz A l.length c lo up (by omega) (by omega) (by omega) hc
  have hl1 : lo.toNat = i * n := by rw [hlo]; rfl
  have hl2 : up.toNat - i * n = n := by rw [hup, Int.toNat_natCast]; omega
  rw [hl1, hl2, ← hA, ← hc1] at hcut
  clear h hc hl hi hl1 hl2 hlo hup hx1 hx hb hA hc1
  go_enter Try.func55, Try.ntmps55
  go_wp2
  go_ret
  exact ⟨rfl, by repeat (first | exact Below.refl _ _ | apply pw_below_drewN | apply below_alloc)⟩
theorem vol_w (i : Nat) (h : i ≤ 10000) : ∃ x1 : Int, x1 = ((i + 1 : Nat) : Int) ∧ IntKind.i64.wrap ((i : Int) + 1) = x1 := ⟨_, rfl, by rw [i64_w]; unfold wrap64; omega⟩
set_option maxHeartbeats 8000000 in
set_option maxRecDepth 100000 in
theorem impl_volume.calls (a0_0 : Int) (a0_1 : Int) (A0_2 : Option Addr) (c0_2 : Nat) (l0_2 : List Int) (r : Int) (w : World) (hr0_2 : Kd.C (Kd.int .i64) w A0_2 l0_2.length l0_2) (hc0_2 : l0_2.length ≤ c0_2) (h : impl_volume.f a0_0 a0_1 l0_2 = some r) :
    Calls Try.prog 28 #[.agg #[.int .i64 a0_0, .int .i64 a0_1, .slice A0_2 l0_2.length c0_2]] w fun e w' => e = .returned (.int .i64 r) ∧ Below w.heap.size w w' := by
  unfold impl_volume.f at h
  by_cases hd : 0 ≤ a0_0 ∧ a0_0 ≤ 48 ∧ 0 ≤ a0_1 ∧ a0_1 ≤ 48 ∧ (l0_2.length : Int) = a0_0 * a0_1
  case neg => rw [if_neg hd] at h; exact absurd h (by simp)
  rw [if_pos hd] at h
  obtain rfl := Option.some.inj h
  clear h
  obtain ⟨h1, h2, h3, h4, h5⟩ := hd
  obtain ⟨a, ha⟩ := Int.eq_ofNat_of_zero_le h1
  obtain ⟨b, hb⟩ := Int.eq_ofNat_of_zero_le h3
  have t1 : a0_0.toNat = a := by rw [ha, Int.toNat_natCast]
  have t2 : a0_1.toNat = b := by rw [hb, Int.toNat_natCast]
  rw [t1, t2]
  have h6 : l0_2.length = a * b := by rw [ha, hb, ← Int.natCast_mul] at h5; omega
  have h7 : a * b ≤ 48 * 48 := Nat.mul_le_mul (by omega) (by omega)
  have HM := Aside0.mk (show ∀ i g : Nat, i + g + 1 = a → i * b + b ≤ l0_2.length ∧ l0_2.length ≤ 3000 ∧ i ≤ 3000 ∧ b ≤ 48 from fun i g hi => by
    have h8 : (i + 1) * b ≤ a * b := Nat.mul_le_mul (by omega) (Nat.le_refl _)
    rw [Nat.succ_mul] at h8
    omega)
  have HA := Aside0.mk (show a0_0 = (a : Int) ∧ a ≤ 48 by omega)
  have HBB := Aside0.mk hb
  have HR := Aside0.mk hr0_2
  have HC := Aside0.mk hc0_2
  have HB := Aside0.mk (Below.refl w.heap.size w)
  clear h1 h2 h3 h4 h5 h6 h7 hr0_2 hc0_2 t1 t2 ha hb
  go_enter Try.func28, Try.ntmps28
  go_wp2_with (first | ((with_reducible refine gate_dst (N := 1) rfl ?_); refine box_event ?hg (N := 1) ?hd (cs := #[.int .i64 a0_0, .int .i64 a0_1, .slice A0_2 l0_2.length c0_2]) (t := 28) ?hr ?_; (case hd => rfl); (case hg => rfl); (case hr => first | (go_simp; done) | (go_simp; rfl)); intro gb hg w2 hbox hb; have n0_ := Aside0.mk (below_step (by repeat (first | (with_reducible first | exact HB.out | apply below_alloc | apply pw_below_drewN | apply below_drew1) | exact HB.out)) hb); have n1_ := Aside0.mk (hbox); have n2_ := Aside0.mk ((by rw [hg]; exact (below_size (by repeat (first | (with_reducible first | exact HB.out | apply below_alloc | apply pw_below_drewN | apply below_drew1) | exact HB.out))) : w.heap.size ≤ gb)); clear HB; have HB := n0_; have BK := n1_; have GE := n2_; clear n0_ n1_ n2_; clear hb hbox hg; have hcz_0 : w2.cell? ⟨gb, 0, none⟩ = some (.int .i64 a0_0) := (blk_cell BK.out 0).trans rfl; have hcz_1 : w2.cell? ⟨gb, 1, none⟩ = some (.int .i64 a0_1) := (blk_cell BK.out 1).trans rfl; have hcz_2 : w2.cell? ⟨gb, 2, none⟩ = some (.slice A0_2 l0_2.length c0_2) := (blk_cell BK.out 2).trans rfl; have hfz_0 := blk_frozen BK.out 0; have hfz_1 := blk_frozen BK.out 1; have hfz_2 := blk_frozen BK.out 2))
  go_loopg [3, 10] a (fun gg v3 v10 w' => ∃ (o x : Int) (i : Nat), v3 = .int .i64 o ∧ v10 = .int .i64 x ∧ Aside0 (x = (i : Int) ∧ i + gg = a) ∧ Aside0 (volGo b l0_2 gg i o = volGo b l0_2 a 0 1) ∧ Aside0 (w'.heap[gb]? = some (.cells #[.int .i64 a0_0, .int .i64 a0_1, .slice A0_2 l0_2.length c0_2] 28 (0, 0))) ∧ Aside0 (Below w.heap.size w w'))
  case atStart => exact ⟨1, 0, 0, rfl, rfl, ⟨rfl, by omega⟩, ⟨rfl⟩, ⟨by (with_reducible repeat (first | refine blk_drewN ?_ _ | refine blk_drew ?_ | refine blk_alloc ?_ _)); exact BK.out⟩, ⟨by repeat (first | (with_reducible first | exact HB.out | apply below_alloc | apply pw_below_drewN | apply below_drew1) | exact HB.out)⟩⟩
  case round =>
    clear HB BK hcz_0 hcz_1 hcz_2 hfz_0 hfz_1 hfz_2
    obtain ⟨o, x, i, rfl, rfl, HI, HV, BK, HB⟩ := hrel
    obtain ⟨g0, hg0⟩ : ∃ g0, g0 = gk := ⟨_, rfl⟩
    cases gk with
    | zero =>
      have q : decide (x < a0_0) = false := decide_eq_false (by have := HI.out; have := HA.out; omega)
      have HV2 := Aside0.mk (show o = volGo b l0_2 a 0 1 from HV.out)
      go_wp2
      go_ret
      exact ⟨by rw [← HV2.out] <;> rfl, by repeat (first | (with_reducible first | exact HB.out | apply below_alloc | apply pw_below_drewN | apply below_drew1) | exact HB.out)⟩
    | succ g =>
      have q : decide (x < a0_0) = true := decide_eq_true (by have := HI.out; have := HA.out; omega)
      have hcz_0 : wr.cell? ⟨gb, 0, none⟩ = some (.int .i64 a0_0) := (blk_cell BK.out 0).trans rfl
      have hcz_1 : wr.cell? ⟨gb, 1, none⟩ = some (.int .i64 a0_1) := (blk_cell BK.out 1).trans rfl
      have hcz_2 : wr.cell? ⟨gb, 2, none⟩ = some (.slice A0_2 l0_2.length c0_2) := (blk_cell BK.out 2).trans rfl
      have hfz_0 := blk_frozen BK.out 0
      have hfz_1 := blk_frozen BK.out 1
      have hfz_2 := blk_frozen BK.out 2
      obtain ⟨m1, m2, m3, m4⟩ := HM.out i g (by have := HI.out; omega)
      obtain ⟨A1, hA1⟩ : ∃ A1, A1 = (if c0_2 = i * b then A0_2 else A0_2.map (·.add (i * b * 1))) := ⟨_, rfl⟩
      obtain ⟨c1, hc1⟩ : ∃ c1, c1 = c0_2 - i * b := ⟨_, rfl⟩
      have CR0 := fun (W : World) => row_at a0_0 a0_1 x A0_2 A1 c0_2 c1 l0_2 i b W HI.out.1 HBB.out m1 HC.out m2 m3 hA1 hc1
      obtain ⟨y, hy⟩ : ∃ y : List Int, y = (l0_2.take (i * b + b)).drop (i * b) := ⟨_, rfl⟩
      have hyl : y.length = b := by rw [hy, List.length_drop, List.length_take]; omega
      have HYL := Aside0.mk hyl
      rw [← hyl] at CR0
      have CR := Aside0.mk CR0
      clear CR0
      have HYC := Aside0.mk (show Kd.C (Kd.int .i64) w A1 y.length y by
        have h3 := Kd.C_mid (lo := i * b) (hi := i * b + b) HR.out (by omega) m1 HC.out
        rw [hA1, hy]
        exact h3)
      have HI2 := Aside0.mk (show i + 1 + g = a by have := HI.out; omega)
      have HX := Aside0.mk HI.out.1
      have HBX := Aside0.mk (show b ≤ 48 from m4)
      obtain ⟨x1, hx1, ex1⟩ := vol_w i (by have := HI.out; have := HA.out; omega)
      rw [← HX.out] at ex1
      have HX1 := Aside0.mk hx1
      obtain ⟨N, hN⟩ : ∃ N : Int, N = (b : Int) := ⟨_, rfl⟩
      have HN := Aside0.mk hN
      obtain ⟨O, hO⟩ : ∃ O : Int, O = wrap64 (o * mx (mn (volRow y b 0 0) 1000000001) 1) := ⟨_, rfl⟩
      have HV2 := Aside0.mk (show (if O > 1000000000 then O else volGo b l0_2 g (i + 1) O) = volGo b l0_2 a 0 1 by rw [← HV.out, hO, hy]; rfl)
      have HO := Aside0.mk hO
      clear hyl m1 m2 m3 m4 hA1 hc1 hx1 HV HM hy hO
      go_wp2_with (first
        | (go_at_call 55; (with_reducible refine (CR.out _).mono ?_); rintro e w4 ⟨rfl, hb4⟩; have n0_ := Aside0.mk (below_then (by repeat (first | (with_reducible first | exact HB.out | apply below_alloc | apply pw_below_drewN | apply below_drew1) | exact HB.out)) (below_size (by repeat (first | (with_reducible first | exact HB.out | apply below_alloc | apply pw_below_drewN | apply below_drew1) | exact HB.out))) hb4); have n1_ := Aside0.mk (blk_below (by (with_reducible repeat (first | refine blk_drewN ?_ _ | refine blk_drew ?_ | refine blk_alloc ?_ _)); exact BK.out) hb4); clear HB BK; have HB := n0_; have BK := n1_; clear n0_ n1_ hb4))
      go_loopg [5, 17] y.length (fun gg v5 v17 w' => ∃ (s z : Int) (j : Nat), v5 = .int .i64 s ∧ v17 = .int .i64 z ∧ Aside0 (z = (j : Int) ∧ j + gg = y.length) ∧ Aside0 (volRow y gg j s = volRow y b 0 0) ∧ Aside0 (w'.heap[gb]? = some (.cells #[.int .i64 a0_0, .int .i64 a0_1, .slice A0_2 l0_2.length c0_2] 28 (0, 0))) ∧ Aside0 (Below w.heap.size w w'))
      case atStart => exact ⟨0, 0, 0, rfl, rfl, ⟨rfl, by omega⟩, ⟨by rw [HYL.out]⟩, ⟨by (with_reducible repeat (first | refine blk_drewN ?_ _ | refine blk_drew ?_ | refine blk_alloc ?_ _)); exact BK.out⟩, ⟨by repeat (first | (with_reducible first | exact HB.out | apply below_alloc | apply pw_below_drewN | apply below_drew1) | exact HB.out)⟩⟩
      case round =>
        clear HB BK hcz_0 hcz_1 hcz_2 hfz_0 hfz_1 hfz_2 CR
        obtain ⟨s, z, j, rfl, rfl, HJ, HS, BK, HB⟩ := hrel
        cases gk with
        | zero =>
          have q2 : decide (z < (y.length : Int)) = false := decide_eq_false (by have := HJ.out; omega)
          have HSO := HS.out
          obtain ⟨j1, hj1⟩ : ∃ j1 : Int, mn s 1000000001 = j1 := ⟨_, rfl⟩
          obtain ⟨j2, hj2⟩ : ∃ j2 : Int, mx j1 1 = j2 := ⟨_, rfl⟩
          have e6 : wrap64 (o * j2) = O := by rw [HO.out, ← HSO, ← hj2, ← hj1]; rfl
          have e5 : IntKind.i64.wrap (o * j2) = O := (i64_w _).trans e6
          have hj1_ : (if 1000000001 < s then 1000000001 else s) = j1 := hj1
          have hj2_ : (if j1 < 1 then 1 else j1) = j2 := hj2
          clear hj1 hj2
          by_cases c7 : O > 1000000000
          · have q7 : decide (O > 1000000000) = true := decide_eq_true c7
            have HV3 := Aside0.mk (show O = volGo b l0_2 a 0 1 by have := HV2.out; rw [if_pos c7] at this; exact this)
            clear c7 HSO
            go_wp2
            go_ret
            exact ⟨by rw [← HV3.out] <;> rfl, by repeat (first | (with_reducible first | exact HB.out | apply below_alloc | apply pw_below_drewN | apply below_drew1) | exact HB.out)⟩
          · have q7 : decide (O > 1000000000) = false := decide_eq_false c7
            have HV3 := Aside0.mk (show volGo b l0_2 g (i + 1) O = volGo b l0_2 a 0 1 by have := HV2.out; rw [if_neg c7] at this; exact this)
            clear c7 HSO
            go_wp2
            go_roundg g
            case measure => omega
            case rel => exact ⟨O, x1, i + 1, rfl, rfl, ⟨HX1.out, HI2.out⟩, HV3, ⟨by (with_reducible repeat (first | refine blk_drewN ?_ _ | refine blk_drew ?_ | refine blk_alloc ?_ _)); exact BK.out⟩, ⟨by repeat (first | (with_reducible first | exact HB.out | apply below_alloc | apply pw_below_drewN | apply below_drew1) | exact HB.out)⟩⟩
        | succ g2 =>
          have q2 : decide (z < (y.length : Int)) = true := decide_eq_true (by have := HJ.out; omega)
          have p1 : 0 ≤ z := by have := HJ.out; omega
          have p2 : z < (y.length : Int) := by have := HJ.out; omega
          obtain ⟨ad, e, hx⟩ := Kd.at_int HYC.out z p1 p2
          cases e
          replace hx := (HB.out.cell (World.block_lt_of_cell? w _ hx)).trans hx
          have p1' := eq_true p1
          have p2' := eq_true p2
          obtain ⟨z1, hz1, ez1⟩ := vol_w j (by have := HJ.out; have := HYL.out; have := HBX.out; omega)
          rw [← HJ.out.1] at ez1
          have HZ1 := Aside0.mk hz1
          have HJ2 := Aside0.mk (show j + 1 + g2 = y.length by have := HJ.out; omega)
          have HS2 := Aside0.mk (show volRow y g2 (j + 1) (wrap64 (s + volAbs (rd y z))) = volRow y b 0 0 by rw [HJ.out.1]; exact HS.out)
          clear p1 p2 hz1
          go_wp2_with (first
            | (go_at_call 56; (with_reducible refine (impl_abs.calls (rd y z) (volAbs (rd y z)) _ (impl_abs_vol _)).mono ?_); rintro e w5 ⟨rfl, ⟨nd, rfl⟩⟩))
          go_roundg g2
          case measure => omega
          case rel => exact ⟨_, z1, j + 1, rfl, rfl, ⟨HZ1.out, HJ2.out⟩, HS2, ⟨by (with_reducible repeat (first | refine blk_drewN ?_ _ | refine blk_drew ?_ | refine blk_alloc ?_ _)); exact BK.out⟩, ⟨by repeat (first | (with_reducible first | exact HB.out | apply below_alloc | apply pw_below_drewN | apply below_drew1) | exact HB.out)⟩⟩

/-! ### impl_Matrix_at: function 38 -/
/-- The address of an element, n places behind a slice's head. -/
def atp (A : Option Addr) (n : Nat) : Option Addr := A.map fun ad => ad.add n
@[go_sem] theorem atp_some (ad : Addr) (n : Nat) : atp (some ad) n = some (ad.add n) := rfl
/-- The place of an entry: the address that the code hands back is that of this element. -/
def impl_Matrix_at.f (a0_0 : Int) (a0_1 : Int) (l0_2 : List Int) (a1 : Int) (a2 : Int) : Option Int :=
  if 0 ≤ wrap64 (wrap64 (a1 * a0_1) + a2) then (if wrap64 (wrap64 (a1 * a0_1) + a2) < (l0_2.length : Int) then some (wrap64 (wrap64 (a1 * a0_1) + a2)) else none) else none
set_option maxHeartbeats 8000000 in
set_option maxRecDepth 100000 in
theorem impl_Matrix_at.calls (a0_0 : Int) (a0_1 : Int) (A0_2 : Option Addr) (c0_2 : Nat) (l0_2 : List Int) (a1 : Int) (a2 : Int) (r : Int) (w : World) (hr0_2 : Kd.C (Kd.int .i64) w A0_2 l0_2.length l0_2) (hc0_2 : l0_2.length ≤ c0_2) (h : impl_Matrix_at.f a0_0 a0_1 l0_2 a1 a2 = some r) :
    Calls Try.prog 38 #[.agg #[.int .i64 a0_0, .int .i64 a0_1, .slice A0_2 l0_2.length c0_2], .int .i64 a1, .int .i64 a2] w fun e w' => e = .returned (.pointer (atp A0_2 r.toNat)) ∧ Below w.heap.size w w' := by
  unfold impl_Matrix_at.f at h
  by_cases h0 : 0 ≤ wrap64 (wrap64 (a1 * a0_1) + a2)
  · rw [if_pos h0] at h
    by_cases h1 : wrap64 (wrap64 (a1 * a0_1) + a2) < (l0_2.length : Int)
    · rw [if_pos h1] at h
      have e := Option.some.inj h
      obtain ⟨ad, rfl, _⟩ := hr0_2.2.2 (by omega)
      have E := Aside0.mk e
      have h0b : decide (0 ≤ wrap64 (wrap64 (a1 * a0_1) + a2)) = true := decide_eq_true h0
      have h1b : decide (wrap64 (wrap64 (a1 * a0_1) + a2) < (l0_2.length : Int)) = true := decide_eq_true h1
      clear h e hr0_2 hc0_2
      go_enter Try.func38, Try.ntmps38
      go_wp2
      go_ret
      exact ⟨by rw [← E.out] <;> rfl, by repeat (first | exact Below.refl _ _ | apply pw_below_drewN | apply below_alloc)⟩
    · rw [if_neg h1] at h
      exact absurd h (by simp)
  · rw [if_neg h0] at h
    exact absurd h (by simp)

end Go.Proofs.Ytifbfloifdkacaa.PFnProducts
