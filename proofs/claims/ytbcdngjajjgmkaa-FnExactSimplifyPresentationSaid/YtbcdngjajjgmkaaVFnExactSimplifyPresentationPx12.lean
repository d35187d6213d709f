/- Written by this session's program out of the kit's print and this session's contracts. -/
import Derived.Test.YtbcdngjajjgmkaaVFnExactSimplifyPresentationPx0
import Derived.Test.YtbcdngjajjgmkaaVFnExactSimplifyPresentationPx11
namespace Go.Proofs.Ytbcdngjajjgmkaa.PFnExactSimplifyPresentation
open Go.RowKit Go.Proofs.YtbcdngjajjgmkaaW.PrintWords Go.Proofs.YtbcdngjajjgmkaaW.PrintLast Go.Proofs.YtbcdngjajjgmkaaW.PrintMore
set_option maxHeartbeats 8000000
set_option maxRecDepth 100000
set_option linter.unusedVariables false
set_option linter.unusedSimpArgs false

/-! ### impl_isReduced: function 66 -/
def impl_isReduced.f (k : Nat) (l0 : List Int) (a1 : Int) : Option (Bool) := (impl_isWord.f l0 a1).bind fun t402 => (if t402 = true then ((impl_reduced.f k l0).bind fun t403 => (some ((t403.length : Int) == (l0.length : Int)))) else (some false))
theorem impl_isReduced.calls (k : Nat) (A0 : Option Addr) (c0 : Nat) (l0 : List Int) (a1 : Int) (r : Bool) (w : World) (hr0 : Kd.C (Kd.int .i64) w A0 l0.length l0) (hc0 : l0.length ≤ c0) (h : impl_isReduced.f k l0 a1 = some r) :
    Calls Try.prog 66 #[.slice A0 l0.length c0, .int .i64 a1] w fun e w' => e = .returned (.bool r) ∧ Below w.heap.size w w' := by
  have HR0 := Aside0.mk hr0
  have HC0 := Aside0.mk hc0
  clear hr0 hc0
  have HB := Aside0.mk (Below.refl w.heap.size w)
  have H : ((impl_isWord.f l0 a1).bind fun t402 => (if t402 = true then ((impl_reduced.f k l0).bind fun t403 => (some ((t403.length : Int) == (l0.length : Int)))) else (some false))) = some r := h
  clear h
  replace H := Option.bind_eq_some_iff.mp H
  obtain ⟨t402, A30, H⟩ := H
  replace H : (if t402 = true then ((impl_reduced.f k l0).bind fun t403 => (some ((t403.length : Int) == (l0.length : Int)))) else (some false)) = some r := H
  have A3 := Aside0.mk A30
  clear A30
  by_cases c4 : t402 = true
  · subst c4
    have H1 : ((impl_reduced.f k l0).bind fun t403 => (some ((t403.length : Int) == (l0.length : Int)))) = some r := by rw [if_pos rfl] at H; exact H
    clear H
    have H := H1
    clear H1
    replace H := Option.bind_eq_some_iff.mp H
    obtain ⟨t403, A50, H⟩ := H
    replace H : (some ((t403.length : Int) == (l0.length : Int))) = some r := H
    have A5 := Aside0.mk A50
    clear A50
    obtain rfl := Option.some.inj H
    go_enter Try.func66, Try.ntmps66
    go_wp2_with (first | ((with_reducible refine gate_callee (f := 99) rfl ?_); refine goesL_ (some 7) rfl rfl Try.func99 (by kernel_rfl) rfl #[.slice A0 l0.length c0, .int .i64 a1] rfl (by (try simp only [List.map_toArray, List.map_cons, List.map_nil]); first | done | rfl | (simp only [List.length_drop, List.length_take]; rfl)) ?_; (with_reducible refine (impl_isWord.calls _ _ l0 a1 true _ ?side1 ?side2 A3.out).mono ?_); (case side1 => exact cz_ HR0.out); (case side2 => exact HC0.out); rintro e w6 ⟨rfl, hb⟩; refine ⟨_, rfl, ?_⟩; have n0_ := Aside0.mk (below_step (by repeat (first | (with_reducible first | exact HB.out | apply below_alloc | apply pw_below_drewN | apply below_drew1) | exact HB.out)) hb); clear HB; have HB := n0_; clear n0_; (try clear hb); (try clear hb2); (try clear hk); (try clear hi)) | (go_at_call 58; (with_reducible refine (impl_reduced.calls k _ _ l0 t403 _ ?side1 ?side2 A5.out).mono ?_); (case side1 => exact cb_ HR0 HB); (case side2 => exact HC0.out); rintro e w7 ⟨v404, rfl, ho0, hb⟩; have n0_ := Aside0.mk (Kd.R_lower ho0 (below_size (by repeat (first | (with_reducible first | exact HB.out | apply below_alloc | apply pw_below_drewN | apply below_drew1) | exact HB.out)))); have n1_ := Aside0.mk (below_step (by repeat (first | (with_reducible first | exact HB.out | apply below_alloc | apply pw_below_drewN | apply below_drew1) | exact HB.out)) hb); clear HB; have HO405 := n0_; have HB := n1_; clear n0_ n1_; (try clear hb); (try clear hb2); (try clear hk); (try clear hi); (try clear ho0); obtain ⟨Ao8, co8, eo8⟩ := Kd.R_slice HO405.out; subst eo8))
    go_ret
    exact ⟨er_, by repeat (first | (with_reducible first | exact HB.out | apply below_alloc | apply pw_below_drewN | apply below_drew1) | exact HB.out)⟩
  · replace c4 := Bool.eq_false_iff.mpr c4
    subst c4
    have H1 : (some false) = some r := by rw [if_neg (show ¬ (false = true) by decide)] at H; exact H
    clear H
    have H := H1
    clear H1
    obtain rfl := Option.some.inj H
    go_enter Try.func66, Try.ntmps66
    go_wp2_with (first | ((with_reducible refine gate_callee (f := 99) rfl ?_); refine goesL_ (some 7) rfl rfl Try.func99 (by kernel_rfl) rfl #[.slice A0 l0.length c0, .int .i64 a1] rfl (by (try simp only [List.map_toArray, List.map_cons, List.map_nil]); first | done | rfl | (simp only [List.length_drop, List.length_take]; rfl)) ?_; (with_reducible refine (impl_isWord.calls _ _ l0 a1 false _ ?side1 ?side2 A3.out).mono ?_); (case side1 => exact cz_ HR0.out); (case side2 => exact HC0.out); rintro e w9 ⟨rfl, hb⟩; refine ⟨_, rfl, ?_⟩; have n0_ := Aside0.mk (below_step (by repeat (first | (with_reducible first | exact HB.out | apply below_alloc | apply pw_below_drewN | apply below_drew1) | exact HB.out)) hb); clear HB; have HB := n0_; clear n0_; (try clear hb); (try clear hb2); (try clear hk); (try clear hi)))
    go_ret
    exact ⟨er_, by repeat (first | (with_reducible first | exact HB.out | apply below_alloc | apply pw_below_drewN | apply below_drew1) | exact HB.out)⟩

/-! ### slices_IndexFunc_int64_int64_111: function 111 -/
/-- The first element at which q says yes, counted from i on, or -1; none where q has no answer. -/
def scanI {α : Type} (q : α → Option Bool) : List α → Int → Option Int
  | [], _ => some (-1)
  | x :: t, i => (q x).bind fun b => if b = true then some i else scanI q t (i + 1)
theorem rows_drop (l : List (List Int)) (k : Nat) (h : k < l.length) : l.drop k = l[k] :: l.drop (k + 1) := List.drop_eq_getElem_cons h
theorem Kd.at_row {e : Nat} {d : Kd Int} {w : World} {A : Option Addr} {l : List (List Int)} (h : (Kd.slice e d).C w A l.length l) (k : Nat) (hk : k < l.length) :
    ∃ ad A' c', A = some ad ∧ w.cell? (ad.add k) = some (.slice A' l[k].length c') ∧ l[k].length ≤ c' ∧ d.C w A' l[k].length l[k] := by
  obtain ⟨ad, rfl, hc⟩ := h.2.2 (by omega)
  obtain ⟨cs, hl, ⟨A', c', rfl, h1, h2⟩, hcell⟩ := hc k l[k] (List.getElem?_eq_getElem hk)
  exact ⟨ad, A', c', rfl, by simpa [Kd.slice] using hcell 0 _ rfl, h1, h2⟩
theorem indexRows (e : Nat) (g : Nat) (lb : Array Value) (eg : ∀ args W, (callFunc g args).run Try.prog W = .ok (.enter g args) W)
    (q : List Int → Option Bool) (A0 : Option Addr) (c0 : Nat) (l0 : List (List Int)) (r : Int) (w : World) (hr0 : Kd.C (Kd.slice e (Kd.int .i64)) w A0 l0.length l0)
    (hp : ∀ (W : World) (A : Option Addr) (c : Nat) (x : List Int) (b : Bool), x ∈ l0 → Below w.heap.size w W → Kd.C (Kd.int .i64) W A x.length x → x.length ≤ c → q x = some b →
      Calls Try.prog g (#[.slice A x.length c] ++ lb) W fun e w' => e = .returned (.bool b) ∧ Below W.heap.size W w')
    (h : scanI q l0 0 = some r) :
    Calls Try.prog 111 #[.slice A0 l0.length c0, .func (.func g) #[] lb] w fun e w' => e = .returned (.int .i64 r) ∧ Below w.heap.size w w' := by
  have hbig := hr0.2.1
  have HR0 := Aside0.mk hr0
  have HP := Aside0.mk hp
  have H' := Aside0.mk h
  clear hr0 hp h
  go_enter Try.func111, Try.ntmps111
  go_wp2
  go_loopg [5, 8] l0.length (fun gg _ s8 wr => ∃ kk : Nat, kk ≤ l0.length ∧ l0.length - kk ≤ gg ∧ s8 = .int .i64 kk ∧ Aside0 (Below w.heap.size w wr) ∧ Aside0 (scanI q (l0.drop kk) kk = some r))
  case atStart => exact ⟨0, Nat.zero_le _, by omega, rfl, ⟨Below.refl _ w⟩, ⟨by simpa using H'.out⟩⟩
  case round =>
    clear H'
    obtain ⟨kk, hkk, hg, rfl, BW, AI⟩ := hrel
    by_cases hlt : kk < l0.length
    · have hltz : (kk : Int) < (l0.length : Int) := by omega
      obtain ⟨ad, A', c', e, hx0, hle, hrow⟩ := Kd.at_row HR0.out kk hlt
      cases e
      have hx : wr.cell? (ad.add kk) = some (.slice A' l0[kk].length c') := (BW.out.cell (World.block_lt_of_cell? w _ hx0)).trans hx0
      have HROW := Aside0.mk (Kd.C_below hrow BW.out)
      have HLE := Aside0.mk hle
      clear hx0 hrow hle
      have HS := AI.out
      rw [rows_drop l0 kk hlt] at HS
      simp only [scanI] at HS
      obtain ⟨b, hq, HS⟩ := Option.bind_eq_some_iff.mp HS
      have hcall := HP.out wr A' c' l0[kk] b (List.getElem_mem hlt) BW.out HROW.out HLE.out hq
      clear hq HLE HROW
      generalize l0[kk] = y at hx hcall
      cases b with
      | true =>
        have HS2 := Aside0.mk (Option.some.inj ((if_pos rfl).symm.trans HS))
        clear HS
        go_wp2_with ((with_reducible refine hcall.mono ?_); rintro e w' ⟨rfl, hb'⟩)
        go_ret
        exact ⟨by rw [← HS2.out] <;> rfl, BW.out.trans (hb'.mono BW.out.size)⟩
      | false =>
        have HS2 := Aside0.mk ((if_neg (by simp)).symm.trans HS)
        clear HS
        go_wp2_with ((with_reducible refine hcall.mono ?_); rintro e w' ⟨rfl, hb'⟩)
        go_roundg (l0.length - (kk + 1))
        case measure => omega
        case rel => exact ⟨kk + 1, by omega, by omega, by go_num, ⟨BW.out.trans (hb'.mono BW.out.size)⟩, ⟨by simpa using HS2.out⟩⟩
    · have hltz : ¬ (kk : Int) < (l0.length : Int) := by omega
      have HS := AI.out
      rw [List.drop_of_length_le (by omega)] at HS
      have HS2 := Aside0.mk (Option.some.inj HS)
      clear HS
      go_wp2
      go_ret
      exact ⟨by rw [← HS2.out] <;> rfl, BW.out⟩

/-! ### indexEmpty: function 111 -/
theorem empty_lit (A : Option Addr) (c : Nat) (x : List Int) (hx : x.length ≤ 9223372036854775807) (w : World) : Calls Try.prog 128 #[.slice A x.length c] w fun e w' => e = .returned (.bool (decide (x.length = 0))) ∧ Below w.heap.size w w' := by
  obtain ⟨n, hn⟩ : ∃ n, n = x.length := ⟨_, rfl⟩
  rw [← hn] at hx ⊢
  clear hn
  have E := Aside0.mk (show ((n : Int) == 0) = decide (n = 0) by
    by_cases h : n = 0
    · simp [h]
    · simp [h])
  go_enter Try.func128, Try.ntmps128
  go_wp2
  go_ret
  refine ⟨?_, Below.refl _ _⟩
  show Ending.returned (.bool ((n : Int) == 0)) = _
  rw [E.out]
def indexEmpty.f (l0 : List (List Int)) : Option Int := scanI (fun x => some (decide (x.length = 0))) l0 0
theorem indexEmpty.calls (A0 : Option Addr) (c0 : Nat) (l0 : List (List Int)) (r : Int) (w : World) (hr0 : Kd.C (Kd.slice 2 (Kd.int .i64)) w A0 l0.length l0) (hc0 : l0.length ≤ c0) (h : indexEmpty.f l0 = some r) :
    Calls Try.prog 111 #[.slice A0 l0.length c0, .func (.func 128) #[] #[]] w fun e w' => e = .returned (.int .i64 r) ∧ Below w.heap.size w w' :=
  indexRows _ 128 #[] (Go.Proofs.enters_of Try.func128 (by kernel_rfl) rfl) _ A0 c0 l0 r w hr0 (fun W A c x b _ _ hC _ hq => by
    obtain rfl := Option.some.inj hq
    exact empty_lit A c x (Nat.le_trans hC.2.1 (by decide)) W) h

/-! ### slices_ContainsFunc_int64_int64_79: function 79 -/
/-- Is there an element at which q says yes? -/
def anyO {α : Type} (q : α → Option Bool) : List α → Option Bool
  | [] => some false
  | x :: t => (q x).bind fun b => if b = true then some true else anyO q t
theorem anyO_scan {α : Type} (q : α → Option Bool) : ∀ (l : List α) (i : Int) (b : Bool), 0 ≤ i → anyO q l = some b → ∃ r, scanI q l i = some r ∧ decide (0 ≤ r) = b
  | [], i, b, h, e => ⟨-1, rfl, by simp [anyO] at e; simp [e]⟩
  | x :: t, i, b, h, e => by
    simp only [anyO] at e
    obtain ⟨c, hc, e⟩ := Option.bind_eq_some_iff.mp e
    cases c with
    | true =>
      obtain rfl : true = b := by simpa using e
      exact ⟨i, by simp [scanI, hc], by simpa using h⟩
    | false =>
      obtain ⟨r, hr, hb⟩ := anyO_scan q t (i + 1) b (by omega) (by simpa using e)
      exact ⟨r, by simp [scanI, hc, hr], hb⟩
theorem containsRows (e : Nat) (g : Nat) (lb : Array Value) (eg : ∀ args W, (callFunc g args).run Try.prog W = .ok (.enter g args) W)
    (q : List Int → Option Bool) (A0 : Option Addr) (c0 : Nat) (l0 : List (List Int)) (b : Bool) (w : World) (hr0 : Kd.C (Kd.slice e (Kd.int .i64)) w A0 l0.length l0)
    (hp : ∀ (W : World) (A : Option Addr) (c : Nat) (x : List Int) (b : Bool), x ∈ l0 → Below w.heap.size w W → Kd.C (Kd.int .i64) W A x.length x → x.length ≤ c → q x = some b →
      Calls Try.prog g (#[.slice A x.length c] ++ lb) W fun e w' => e = .returned (.bool b) ∧ Below W.heap.size W w')
    (h : anyO q l0 = some b) :
    Calls Try.prog 79 #[.slice A0 l0.length c0, .func (.func g) #[] lb] w fun e w' => e = .returned (.bool b) ∧ Below w.heap.size w w' := by
  obtain ⟨r, hr, hb⟩ := anyO_scan q l0 0 b (Int.le_refl 0) h
  have hI := indexRows e g lb eg q A0 c0 l0 r w hr0 hp hr
  have HB := Aside0.mk hb
  clear hr0 hp eg h hr hb
  go_enter Try.func79, Try.ntmps79
  go_wp2_with (go_at_call 111; refine hI.mono ?_; rintro e w' ⟨rfl, hb'⟩)
  go_ret
  exact ⟨by rw [← HB.out] <;> rfl, hb'⟩

/-! ### impl_isPresentation: function 59 -/
def impl_isPresentation.q (k : Nat) (g : Int) (x : List Int) : Option Bool := (impl_isReduced.f k x g).bind fun b => some (!b)
def impl_isPresentation.f (k : Nat) (a0_0 : Int) (l0_1 : List (List Int)) : Option Bool :=
  if 0 ≤ a0_0 ∧ a0_0 ≤ 24 then (if l0_1.length ≤ 48 then (anyO (impl_isPresentation.q k a0_0) l0_1).bind fun b => some (!b) else some false) else some false
theorem isPresentation_lit (k : Nat) (A : Option Addr) (c : Nat) (x : List Int) (g : Int) (b : Bool) (B : Nat) (w : World) (hc : w.cell? ⟨B, 0, none⟩ = some (.int .i64 g)) (hr : Kd.C (Kd.int .i64) w A x.length x) (hl : x.length ≤ c)
    (h : impl_isPresentation.q k g x = some b) :
    Calls Try.prog 94 #[.slice A x.length c, .pointer (some ⟨B, 0, none⟩)] w fun e w' => e = .returned (.bool b) ∧ Below w.heap.size w w' := by
  obtain ⟨b1, h1, h2⟩ := Option.bind_eq_some_iff.mp h
  obtain rfl : (!b1) = b := Option.some.inj h2
  have hC := impl_isReduced.calls k A c x g b1 w hr hl h1
  clear h h1 h2 hr hl
  go_enter Try.func94, Try.ntmps94
  go_wp2_with (go_at_call 66; (with_reducible refine hC.mono ?_); rintro e w' ⟨rfl, hb'⟩)
  go_ret
  exact ⟨rfl, hb'⟩
theorem inRange_quiet (x a b : Int) (w : World) : Calls Try.prog 64 #[.int .i64 x, .int .i64 a, .int .i64 b] w fun e w' => e = .returned (.bool (decide (a ≤ x) && decide (x ≤ b))) ∧ Drawn0 w w' := by
  refine impl_inRange.calls x a b _ w ?_
  unfold impl_inRange.f
  by_cases h : a ≤ x <;> simp [h]
theorem impl_isPresentation.calls (k : Nat) (a0_0 : Int) (A0_1 : Option Addr) (c0_1 : Nat) (l0_1 : List (List Int)) (r : Bool) (w : World) (hr0_1 : Kd.C (Kd.slice 2 (Kd.int .i64)) w A0_1 l0_1.length l0_1) (hc0_1 : l0_1.length ≤ c0_1) (h : impl_isPresentation.f k a0_0 l0_1 = some r) :
    Calls Try.prog 59 #[.agg #[.int .i64 a0_0, .slice A0_1 l0_1.length c0_1]] w fun e w' => e = .returned (.bool r) ∧ Below w.heap.size w w' := by
  have hR := fun W => inRange_quiet a0_0 0 24 W
  have HR := Aside0.mk hR
  clear hR
  unfold impl_isPresentation.f at h
  by_cases h1 : 0 ≤ a0_0 ∧ a0_0 ≤ 24
  · rw [if_pos h1] at h
    have E1 : (decide ((0 : Int) ≤ a0_0) && decide (a0_0 ≤ 24)) = true := by simp [h1.1, h1.2]
    have EH1 := Aside0.mk E1
    clear h1 E1
    by_cases h2 : l0_1.length ≤ 48
    · rw [if_pos h2] at h
      obtain ⟨b, hb, h3⟩ := Option.bind_eq_some_iff.mp h
      have hC := fun (W : World) (hw : Below w.heap.size w W) (hB : w.heap.size < W.heap.size) (hc : W.cell? ⟨w.heap.size, 0, none⟩ = some (.int .i64 a0_0)) =>
        containsRows 2 94 #[.pointer (some ⟨w.heap.size, 0, none⟩)] (Go.Proofs.enters_of Try.func94 (by kernel_rfl) rfl) (impl_isPresentation.q k a0_0) A0_1 c0_1 l0_1 b W (Kd.C_below hr0_1 hw)
          (fun W' A c x b' _ hb' hrx hlx hq => isPresentation_lit k A c x a0_0 b' w.heap.size W' ((hb'.cell (p := ⟨w.heap.size, 0, none⟩) hB).trans hc) hrx hlx hq) hb
      have HC := Aside0.mk hC
      have H3 := Aside0.mk (Option.some.inj h3)
      have h2z : (l0_1.length : Int) ≤ 48 := by omega
      clear hC hr0_1 hc0_1 h h3 hb h2
      go_enter Try.func59, Try.ntmps59
      go_wp2_with (first
        | (go_at_call 64; refine (HR.out _).mono ?_; rintro e w' ⟨rfl, ⟨nd, rfl⟩⟩; rw [EH1.out])
        | (go_at_call 79; refine (HC.out _ (by repeat (first | exact Below.refl _ _ | apply pw_below_drewN | apply below_alloc)) (by simp) (by simp)).mono ?_; rintro e w' ⟨rfl, hb'⟩))
      go_ret
      refine ⟨by rw [← H3.out] <;> rfl, ?_⟩
      exact (below_then (pw_below_drewN (below_alloc (Below.refl _ w) _) _) (by simp) hb')
    · rw [if_neg h2] at h
      have H3 := Aside0.mk (Option.some.inj h)
      have h2z : ¬ (l0_1.length : Int) ≤ 48 := by omega
      clear h h2 hr0_1 hc0_1
      go_enter Try.func59, Try.ntmps59
      go_wp2_with (go_at_call 64; refine (HR.out _).mono ?_; rintro e w' ⟨rfl, ⟨nd, rfl⟩⟩; rw [EH1.out])
      go_ret
      exact ⟨by rw [← H3.out] <;> rfl, by repeat (first | exact Below.refl _ _ | apply pw_below_drewN | apply below_alloc)⟩
  · rw [if_neg h1] at h
    have E1 : (decide ((0 : Int) ≤ a0_0) && decide (a0_0 ≤ 24)) = false := by
      by_cases h0 : (0 : Int) ≤ a0_0 <;> by_cases h4 : a0_0 ≤ 24 <;> simp [h0, h4]
      exact h1 ⟨h0, h4⟩
    have EH1 := Aside0.mk E1
    have H3 := Aside0.mk (Option.some.inj h)
    clear h1 E1 h hr0_1 hc0_1
    go_enter Try.func59, Try.ntmps59
    go_wp2_with (go_at_call 64; refine (HR.out _).mono ?_; rintro e w' ⟨rfl, ⟨nd, rfl⟩⟩; rw [EH1.out])
    go_ret
    exact ⟨by rw [← H3.out] <;> rfl, by repeat (first | exact Below.refl _ _ | apply pw_below_drewN | apply below_alloc)⟩

/-! ### slices_Clone_int64_int64: function 83 -/
def slices_Clone_int64_int64.f (l0 : List Int) : Option (List Int) := if l0.length < 17592186044416 then some l0 else none
theorem slices_Clone_int64_int64.calls (A0 : Option Addr) (c0 : Nat) (l0 : List Int) (r : List Int) (w : World) (hr0 : Kd.C (Kd.int .i64) w A0 l0.length l0) (hc0 : l0.length ≤ c0) (h : slices_Clone_int64_int64.f l0 = some r) :
    Calls Try.prog 83 #[.slice A0 l0.length c0] w fun e w' => ∃ v0_ : Value, e = .returned (v0_) ∧ Kd.R (Kd.int .i64) 2 w' w.heap.size (fun _ => True) v0_ r ∧ Below w.heap.size w w' := by
  unfold slices_Clone_int64_int64.f at h
  by_cases hL : l0.length < 17592186044416
  · rw [if_pos hL] at h
    obtain rfl : l0 = r := Option.some.inj h
    have LM := Aside0.mk hL
    have HR0 := Aside0.mk hr0
    have HB := Aside0.mk (Below.refl w.heap.size w)
    clear h hL hr0 hc0
    cases A0 with
    | none =>
      have e0 : l0 = [] := by
        cases l0 with
        | nil => rfl
        | cons x t =>
          obtain ⟨ad, e, _⟩ := HR0.out.2.2 (by simp)
          cases e
      subst e0
      clear HR0 LM
      have he := fun W => Lib.run_eql_slice_nil_nil (P := Try.prog) W (t := 39) (e := 2) 0 c0 Try.underlying39
      go_enter Try.func83, Try.ntmps83
      go_wp2
      go_ret
      exact ⟨_, rfl, Kd.R_nil _ _ _ _ _, Below.refl _ _⟩
    | some ad =>
      have y1 : ∃ y_ : List Int, y_ = (([] : List Int)) := ⟨_, rfl⟩
      obtain ⟨y1, hy1⟩ := y1
      have Ny1 := Aside0.mk hy1
      clear hy1
      have he := fun W => Go.Lib.run_eql_slice_nil (P := Try.prog) W 39 2 (some ad) l0.length c0 0 0 Try.underlying39
      go_enter Try.func83, Try.ntmps83
      go_wp2_with (first
        | ((with_reducible refine gate_dst (N := 5) rfl ?_); refine Kd.R_lit (Kd.int .i64) _ 2 ?hg (N := 5) ?hd (xs := ([] : List Int)) (inner := []) (ok := fun _ => True) (okp := fun _ => True) ?hr ?hp (fun _ hk => hk) trivial (Below.refl _ _) (Nat.le_refl _) (by simp) ?_; (case hd => rfl); (case hg => rfl); (case hr => first | (go_simp; done) | (go_simp; rfl)); (case hp => exact (Reps.none _ _)); intro v1 w3 ho4 hb hg_ hnew_; clear hg_ hnew_; rw [← Ny1.out] at ho4; have HO1 := Aside0.mk ho4; have HB2 := Aside0.mk hb; clear HB; have HB := HB2; clear HB2 hb ho4)
        | ((with_reducible refine gate_builtin (b := .append) (xs := #[.tmp 5, .tmp 6]) rfl ?_); at_builtin; refine Kd.R_append_rows (Kd.int .i64) (w0 := w) w.heap.size rfl (.tmp 5) (.tmp 6) 39 2 (.int .i64 0) 8 rfl Try.underlying39 info2 rfl (by decide) (by omega) v1 y1 l0 _ _ _ (fun _ => True) (fun _ => False) rfl rfl ?aO ?aR (fun _ _ h => h) (fun _ h => h.elim) ?aF ?aB ?aS ?aL ?_; (case aR => exact (Kd.C_below HR0.out HB.out)); (case aB => exact HB.out); (case aF => exact (fun _ _ => trivial)); (case aO => exact HO1.out); (case aS => exact (below_size HB.out)); (case aL => (have h1_ := LM.out; have h2_ : y1.length = 0 := (by rw [Ny1.out]; rfl); omega)); intro v2 w4 ho hb hg hat; rw [show y1 ++ l0 = l0 from by rw [Ny1.out]; rfl] at ho; have HO2 := Aside0.mk ho; have HB2 := Aside0.mk hb; clear HB HO1; have HB := HB2; clear HB2 ho hb hg hat))
      go_ret
      exact ⟨_, rfl, HO2.out, HB.out⟩
  · rw [if_neg hL] at h
    exact absurd h (by simp)

/-! ### impl_copyLists: function 44 -/
def impl_copyLists.l0 : Nat → List (List Int) → List (List Int) → Int → Int → Option ((List (List Int)))
  | 0, _, _, _, _ => none
  | k + 1, x3, x6, x7, x8 => if x8 < x7 then (if 0 ≤ x8 then (if x8 < (x6.length : Int) then ((slices_Clone_int64_int64.f (rd_L1 x6 x8)).bind fun t407 => (if x3.length < 5864062014805 then (impl_copyLists.l0 k (x3 ++ [t407]) x6 x7 (wrap64 (x8 + 1))) else (none))) else (none)) else (none)) else (some x3)
def impl_copyLists.f (k : Nat) (l0 : List (List Int)) : Option ((List (List Int))) := impl_copyLists.l0 k ([] : List (List Int)) l0 (l0.length : Int) 0
theorem impl_copyLists.calls (k : Nat) (A0 : Option Addr) (c0 : Nat) (l0 : List (List Int)) (r : List (List Int)) (w : World) (hr0 : Kd.C (Kd.slice 2 (Kd.int .i64)) w A0 l0.length l0) (hc0 : l0.length ≤ c0) (h : impl_copyLists.f k l0 = some r) :
    Calls Try.prog 44 #[.slice A0 l0.length c0] w fun e w' => ∃ v0_ : Value, e = .returned (v0_) ∧ Kd.S (Kd.slice 2 (Kd.int .i64)) 39 w' w.heap.size (fun _ => True) v0_ r ∧ Below w.heap.size w w' := by
  have HR0 := Aside0.mk hr0
  have HC0 := Aside0.mk hc0
  clear hr0 hc0
  have HB := Aside0.mk (Below.refl w.heap.size w)
  have H : (impl_copyLists.l0 k ([] : List (List Int)) l0 (l0.length : Int) 0) = some r := h
  clear h
  have H' := Aside0.mk H
  clear H
  go_enter Try.func44, Try.ntmps44
  go_wp2
  go_loopg [3, 8] k (fun kq v3 v8 w' => ∃ (x3_1 : List (List Int)) (x8_1 : Int), v8 = .int .i64 x8_1 ∧ Aside0 (impl_copyLists.l0 kq x3_1 l0 (l0.length : Int) x8_1 = some r) ∧ Aside0 (kq ≤ k) ∧ Aside0 (Kd.S (Kd.slice 2 (Kd.int .i64)) 39 w' w.heap.size (fun _ => True) v3 x3_1) ∧ Aside0 (Below w.heap.size w w'))
  case atStart => exact ⟨(([] : List (List Int))), (0), (by first | rfl | (simp; done) | (simp [*]; done)), H', ⟨Nat.le_refl _⟩, ⟨by first | exact Kd.S_nil _ _ _ _ _ | exact Kd.N_nil _ _ _ _ _ | exact Kd.V_nil _ _ _ _ _ | exact Kd.Q_nil _ _ _ _ _ | exact Kd.R_nil _ _ _ _ _⟩, ⟨by repeat (first | (with_reducible first | exact HB.out | apply below_alloc | apply pw_below_drewN | apply below_drew1) | exact HB.out)⟩⟩
  case round =>
    clear H'
    obtain ⟨x3_1, x8_1, rfl, HA, HK1, HO_3, HB⟩ := hrel
    cases gk with
    | zero => exact absurd HA.out (by simp [impl_copyLists.l0])
    | succ k1 =>
      have H := HA.out
      clear HA
      simp only [impl_copyLists.l0] at H
      by_cases c2 : x8_1 < (l0.length : Int)
      · rw [if_pos c2] at H
        have c2b0 : decide (x8_1 < (l0.length : Int)) = true := decide_eq_true c2
        clear c2
        by_cases c3 : 0 ≤ x8_1
        · rw [if_pos c3] at H
          have c3b0 : decide (0 ≤ x8_1) = true := decide_eq_true c3
          clear c3
          by_cases c4 : x8_1 < (l0.length : Int)
          · rw [if_pos c4] at H
            have c4b0 : decide (x8_1 < (l0.length : Int)) = true := decide_eq_true c4
            clear c4
            replace H := Option.bind_eq_some_iff.mp H
            obtain ⟨t407, A50, H⟩ := H
            replace H : (if x3_1.length < 5864062014805 then (impl_copyLists.l0 k1 (x3_1 ++ [t407]) l0 (l0.length : Int) (wrap64 (x8_1 + 1))) else (none)) = some r := H
            have A5 := Aside0.mk A50
            clear A50
            by_cases c6 : x3_1.length < 5864062014805
            · rw [if_pos c6] at H
              have LMc6 := Aside0.mk c6
              clear c6
              obtain ⟨y410, hy410⟩ : ∃ y_ : List (List Int), y_ = (x3_1 ++ [t407]) := ⟨_, rfl⟩
              replace H : (impl_copyLists.l0 k1 y410 l0 (l0.length : Int) (wrap64 (x8_1 + 1))) = some r := hq_ hy410 H
              have Ny410 := Aside0.mk hy410
              clear hy410
              have H' := Aside0.mk H
              clear H
              have p406 : 0 ≤ (x8_1 : Int) := da_
              have q406 : x8_1 < (l0.length : Int) := da_
              obtain ⟨ad406, A406_0, c406_0, e406, hx406_0, hl406_0, hi406_0⟩ := at_L1 HR0.out x8_1 p406 q406
              cases e406
              replace hx406_0 := ce_ HB hx406_0
              have HR406_0 := Aside0.mk hi406_0
              have HC406_0 := Aside0.mk hl406_0
              clear hi406_0 hl406_0
              replace p406 := eq_true p406
              replace q406 := eq_true q406
              go_wp2_with (first | ((with_reducible refine gate_callee (f := 83) rfl ?_); refine goesL_ (some 14) rfl rfl Try.func83 (by kernel_rfl) rfl #[.slice A406_0 (rd_L1 l0 x8_1).length c406_0] rfl (by (try simp only [List.map_toArray, List.map_cons, List.map_nil]); first | done | rfl | (simp only [List.length_drop, List.length_take]; rfl)) ?_; (with_reducible refine (slices_Clone_int64_int64.calls _ _ (rd_L1 l0 x8_1) t407 _ ?side1 ?side2 A5.out).mono ?_); (case side1 => exact cb_ HR406_0 HB); (case side2 => exact HC406_0.out); rintro e w7 ⟨v408, rfl, ho0, hb⟩; refine ⟨_, rfl, ?_⟩; have n0_ := Aside0.mk (Kd.S_elder' (Sx_ HO_3.out) (Kd.R_base ho0) hb); have n1_ := Aside0.mk (Kd.R_lower ho0 (below_size (by repeat (first | (with_reducible first | exact HB.out | apply below_alloc | apply pw_below_drewN | apply below_drew1) | exact HB.out)))); have n2_ := Aside0.mk (below_step (by repeat (first | (with_reducible first | exact HB.out | apply below_alloc | apply pw_below_drewN | apply below_drew1) | exact HB.out)) hb); clear HO_3; clear HB; have HO_3 := n0_; have HO409 := n1_; have HB := n2_; clear n0_ n1_ n2_; (try clear hb); (try clear hb2); (try clear hk); (try clear hi); (try clear ho0); obtain ⟨Ao9, co9, eo9⟩ := Kd.R_slice HO409.out; subst eo9) | ((with_reducible refine gate_builtin (b := .append) (xs := #[.tmp 12, .tmp 15]) rfl ?_); at_builtin; refine Kd.S_append (Kd.slice 2 (Kd.int .i64)) (w0 := w) w.heap.size rfl (.tmp 12) (.tmp 15) 22 39 (.slice none 0 0) 24 rfl Try.underlying22 info39 rfl (by decide) (by omega) u3 x3_1 t407 [.slice Ao9 t407.length co9] (fun _ => True) (fun k_ => some k_ = (.slice Ao9 t407.length co9 : Value).ownBlock) rfl rfl ?aP (fun k_ hk_ => ((Kd.R_mono (ok' := fun k_ => ((fun _ => True)) k_ ∧ some k_ ≠ (u3 : Value).ownBlock) (Kd.R_apart' (HO409.out) (Kd.S_typed HO_3.out) (by decide)) (fun k_ hk => ⟨trivial, hk.2⟩))).1 k_ hk_.symm) ?aF ?aO ?aB ?aS ?aL ?_; (case aP => exact Kd.M_row (Kd.R_mono (Kd.R_tight rfl (Kd.R_mono (ok' := fun k_ => ((fun _ => True)) k_ ∧ some k_ ≠ (u3 : Value).ownBlock) (Kd.R_apart' (HO409.out) (Kd.S_typed HO_3.out) (by decide)) (fun k_ hk => ⟨trivial, hk.2⟩))) (fun _ h_ => h_))); (case aB => exact (by repeat (first | (with_reducible first | exact HB.out | apply below_alloc | apply pw_below_drewN | apply below_drew1) | exact HB.out))); (case aF => exact (fun _ _ => trivial)); (case aO => exact (Sx_ (Kd.S_mono HO_3.out (fun k_ hk => ⟨trivial, fun e_ => hk.2 e_⟩)))); (case aS => exact (below_size (by repeat (first | (with_reducible first | exact HB.out | apply below_alloc | apply pw_below_drewN | apply below_drew1) | exact HB.out)))); (case aL => have := LMc6.out; omega); intro v411 w8 ho hb hg hat; rw [← Ny410.out] at ho; have n0_ := Aside0.mk (hb); have n1_ := Aside0.mk (ho); clear HB; clear HO_3; clear HO409; have HB := n0_; have HO412 := n1_; clear n0_ n1_; clear ho hb hg hat))
              go_roundg k1
              case measure => have := HK1.out; omega
              case rel => exact ⟨(y410), (wrap64 (x8_1 + 1)), (by first | rfl | (simp; done) | (simp [*]; done)), H', ⟨by have := HK1.out; omega⟩, ⟨Sx_ HO412.out⟩, ⟨by repeat (first | (with_reducible first | exact HB.out | apply below_alloc | apply pw_below_drewN | apply below_drew1) | exact HB.out)⟩⟩
            · rw [if_neg c6] at H
              exact absurd H (by simp)
          · rw [if_neg c4] at H
            exact absurd H (by simp)
        · rw [if_neg c3] at H
          exact absurd H (by simp)
      · rw [if_neg c2] at H
        have c2b0 : decide (x8_1 < (l0.length : Int)) = false := decide_eq_false c2
        clear c2
        obtain rfl := Option.some.inj H
        go_wp2
        go_ret
        exact ⟨_, er_, Sx_ HO_3.out, by repeat (first | (with_reducible first | exact HB.out | apply below_alloc | apply pw_below_drewN | apply below_drew1) | exact HB.out)⟩

/-! ### impl_abs: function 76 -/
def impl_abs.f (a0 : Int) : Option (Int) := if a0 < 0 then (some (wrap64 (-a0))) else (some a0)
theorem impl_abs.calls (a0 : Int) (r : Int) (w : World) (h : impl_abs.f a0 = some r) :
    Calls Try.prog 76 #[.int .i64 a0] w fun e w' => e = .returned (.int .i64 r) ∧ Drawn0 w w' := by
  have H : (if a0 < 0 then (some (wrap64 (-a0))) else (some a0)) = some r := h
  clear h
  by_cases c2 : a0 < 0
  · rw [if_pos c2] at H
    have c2b0 : decide (a0 < 0) = true := decide_eq_true c2
    clear c2
    obtain rfl := Option.some.inj H
    go_enter Try.func76, Try.ntmps76
    go_wp2
    go_ret
    exact ⟨by first | rfl | (simp; done) | (simp [*]; done), by repeat (first | exact Drawn0.refl _ | apply Drawn0.step)⟩
  · rw [if_neg c2] at H
    have c2b0 : decide (a0 < 0) = false := decide_eq_false c2
    clear c2
    obtain rfl := Option.some.inj H
    go_enter Try.func76, Try.ntmps76
    go_wp2
    go_ret
    exact ⟨by first | rfl | (simp; done) | (simp [*]; done), by repeat (first | exact Drawn0.refl _ | apply Drawn0.step)⟩

/-! ### impl_occurrences: function 100 -/
def impl_occurrences.l0 : Nat → Int → Int → List Int → Int → Int → Option (Int)
  | 0, _, _, _, _, _ => none
  | k + 1, x1, x5, x8, x9, x10 => if x10 < x9 then (if 0 ≤ x10 then (if x10 < (x8.length : Int) then ((impl_abs.f (rd x8 x10)).bind fun t414 => (if t414 = x1 then (impl_occurrences.l0 k x1 (wrap64 (x5 + 1)) x8 x9 (wrap64 (x10 + 1))) else (impl_occurrences.l0 k x1 x5 x8 x9 (wrap64 (x10 + 1))))) else (none)) else (none)) else (some x5)
def impl_occurrences.f (k : Nat) (l0 : List Int) (a1 : Int) : Option (Int) := impl_occurrences.l0 k a1 0 l0 (l0.length : Int) 0
theorem impl_occurrences.calls (k : Nat) (A0 : Option Addr) (c0 : Nat) (l0 : List Int) (a1 : Int) (r : Int) (w : World) (hr0 : Kd.C (Kd.int .i64) w A0 l0.length l0) (hc0 : l0.length ≤ c0) (h : impl_occurrences.f k l0 a1 = some r) :
    Calls Try.prog 100 #[.slice A0 l0.length c0, .int .i64 a1] w fun e w' => e = .returned (.int .i64 r) ∧ Drawn0 w w' := by
  have HR0 := Aside0.mk hr0
  have HC0 := Aside0.mk hc0
  clear hr0 hc0
  have H : (impl_occurrences.l0 k a1 0 l0 (l0.length : Int) 0) = some r := h
  clear h
  have H' := Aside0.mk H
  clear H
  go_enter Try.func100, Try.ntmps100
  go_wp2
  go_loopg [5, 10] k (fun kq v5 v10 w' => ∃ (x5_1 : Int) (x10_1 : Int), v5 = .int .i64 x5_1 ∧ v10 = .int .i64 x10_1 ∧ Aside0 (impl_occurrences.l0 kq a1 x5_1 l0 (l0.length : Int) x10_1 = some r) ∧ Aside0 (kq ≤ k) ∧ Drawn0 w w')
  case atStart => exact ⟨(0), (0), (by first | rfl | (simp; done) | (simp [*]; done)), (by first | rfl | (simp; done) | (simp [*]; done)), H', ⟨Nat.le_refl _⟩, by repeat (first | exact Drawn0.refl _ | apply Drawn0.step)⟩
  case round =>
    clear H'
    try clear c1
    try clear p2
    obtain ⟨x5_1, x10_1, rfl, rfl, HA, HK1, ⟨m1, rfl⟩⟩ := hrel
    cases gk with
    | zero => exact absurd HA.out (by simp [impl_occurrences.l0])
    | succ k1 =>
      have H := HA.out
      clear HA
      simp only [impl_occurrences.l0] at H
      by_cases c3 : x10_1 < (l0.length : Int)
      · rw [if_pos c3] at H
        have c3b0 : decide (x10_1 < (l0.length : Int)) = true := decide_eq_true c3
        clear c3
        by_cases c4 : 0 ≤ x10_1
        · rw [if_pos c4] at H
          have c4b0 : decide (0 ≤ x10_1) = true := decide_eq_true c4
          clear c4
          by_cases c5 : x10_1 < (l0.length : Int)
          · rw [if_pos c5] at H
            have c5b0 : decide (x10_1 < (l0.length : Int)) = true := decide_eq_true c5
            clear c5
            replace H := Option.bind_eq_some_iff.mp H
            obtain ⟨t414, A60, H⟩ := H
            replace H : (if t414 = a1 then (impl_occurrences.l0 k1 a1 (wrap64 (x5_1 + 1)) l0 (l0.length : Int) (wrap64 (x10_1 + 1))) else (impl_occurrences.l0 k1 a1 x5_1 l0 (l0.length : Int) (wrap64 (x10_1 + 1)))) = some r := H
            have A6 := Aside0.mk A60
            clear A60
            by_cases c7 : t414 = a1
            · rw [if_pos c7] at H
              have c7b0 : (t414 == a1) = true := beq_iff_eq.mpr c7
              have c7b1 : (t414 != a1) = false := bne_eq_false_iff_eq.mpr c7
              clear c7
              have H' := Aside0.mk H
              clear H
              have p413 : 0 ≤ (x10_1 : Int) := da_
              have q413 : x10_1 < (l0.length : Int) := da_
              obtain ⟨ad413, e413, hx413_0⟩ := Kd.at_int HR0.out x10_1 p413 q413
              cases e413
              replace p413 := eq_true p413
              replace q413 := eq_true q413
              go_wp2_with (first | ((with_reducible refine gate_callee (f := 76) rfl ?_); refine goesL_ (some 15) rfl rfl Try.func76 (by kernel_rfl) rfl #[.int .i64 (rd l0 x10_1)] rfl (by (try simp only [List.map_toArray, List.map_cons, List.map_nil]); first | done | rfl | (simp only [List.length_drop, List.length_take]; rfl)) ?_; (with_reducible refine (impl_abs.calls (rd l0 x10_1) t414 _ A6.out).mono ?_); rintro e w' ⟨rfl, ⟨nd, rfl⟩⟩; refine ⟨_, rfl, ?_⟩))
              go_roundg k1
              case measure => have := HK1.out; omega
              case rel => exact ⟨(wrap64 (x5_1 + 1)), (wrap64 (x10_1 + 1)), (by first | rfl | (simp; done) | (simp [*]; done)), (by first | rfl | (simp; done) | (simp [*]; done)), H', ⟨by have := HK1.out; omega⟩, by repeat (first | exact Drawn0.refl _ | apply Drawn0.step)⟩
            · rw [if_neg c7] at H
              have c7b0 : (t414 == a1) = false := beq_eq_false_iff_ne.mpr c7
              have c7b1 : (t414 != a1) = true := bne_iff_ne.mpr c7
              have H' := Aside0.mk H
              clear H
              have p413 : 0 ≤ (x10_1 : Int) := da_
              have q413 : x10_1 < (l0.length : Int) := da_
              obtain ⟨ad413, e413, hx413_0⟩ := Kd.at_int HR0.out x10_1 p413 q413
              cases e413
              replace p413 := eq_true p413
              replace q413 := eq_true q413
              go_wp2_with (first | ((with_reducible refine gate_callee (f := 76) rfl ?_); refine goesL_ (some 15) rfl rfl Try.func76 (by kernel_rfl) rfl #[.int .i64 (rd l0 x10_1)] rfl (by (try simp only [List.map_toArray, List.map_cons, List.map_nil]); first | done | rfl | (simp only [List.length_drop, List.length_take]; rfl)) ?_; (with_reducible refine (impl_abs.calls (rd l0 x10_1) t414 _ A6.out).mono ?_); rintro e w' ⟨rfl, ⟨nd, rfl⟩⟩; refine ⟨_, rfl, ?_⟩))
              go_roundg k1
              case measure => have := HK1.out; omega
              case rel => exact ⟨(x5_1), (wrap64 (x10_1 + 1)), (by first | rfl | (simp; done) | (simp [*]; done)), (by first | rfl | (simp; done) | (simp [*]; done)), H', ⟨by have := HK1.out; omega⟩, by repeat (first | exact Drawn0.refl _ | apply Drawn0.step)⟩
          · rw [if_neg c5] at H
            exact absurd H (by simp)
        · rw [if_neg c4] at H
          exact absurd H (by simp)
      · rw [if_neg c3] at H
        have c3b0 : decide (x10_1 < (l0.length : Int)) = false := decide_eq_false c3
        clear c3
        obtain rfl := Option.some.inj H
        go_wp2
        go_ret
        exact ⟨by first | rfl | (simp; done) | (simp [*]; done), by repeat (first | exact Drawn0.refl _ | apply Drawn0.step)⟩

/-! ### impl_isPossible: function 67 -/
def impl_isPossible.f (k : Nat) (a0_0 : Int) (l0_1 : List (List Int)) (a1_0 : Int) (a1_1 : Int) (a1_2 : Int) (l1_3 : List Int) : Option (Bool) := if a1_0 = 3 then (some (a1_1 != a1_2)) else (if a1_0 = 4 then (if 0 ≤ a1_1 then (if a1_1 < (l0_1.length : Int) then (some (((rd_L1 l0_1 a1_1).length : Int) == 0)) else (none)) else (none)) else (if a1_0 = 5 then (if 0 ≤ a1_1 then (if a1_1 < (l0_1.length : Int) then ((impl_occurrences.f k (rd_L1 l0_1 a1_1) a1_2).bind fun t419 => (some (t419 == 1))) else (none)) else (none)) else (some true)))
theorem impl_isPossible.calls (k : Nat) (a0_0 : Int) (A0_1 : Option Addr) (c0_1 : Nat) (l0_1 : List (List Int)) (a1_0 : Int) (a1_1 : Int) (a1_2 : Int) (A1_3 : Option Addr) (c1_3 : Nat) (l1_3 : List Int) (r : Bool) (w : World) (hr0_1 : Kd.C (Kd.slice 2 (Kd.int .i64)) w A0_1 l0_1.length l0_1) (hc0_1 : l0_1.length ≤ c0_1) (hr1_3 : Kd.C (Kd.int .i64) w A1_3 l1_3.length l1_3) (hc1_3 : l1_3.length ≤ c1_3) (h : impl_isPossible.f k a0_0 l0_1 a1_0 a1_1 a1_2 l1_3 = some r) :
  Calls Try.prog 67 #[.agg #[.int .i64 a0_0, .slice A0_1 l0_1.length c0_1], .agg #[.int .i64 a1_0, .int .i64 a1_1, .int .i64 a1_2, .slice A1_3 l1_3.length c1_3]] w fun e w' => e = .returned (.bool r) ∧ Below w.heap.size w w' := by
 have hu28 := Try.underlying28
 have hu44 := Try.underlying44
 have HR0_1 := am_ hr0_1
 have HC0_1 := am_ hc0_1
 clear hr0_1 hc0_1
 have HR1_3 := am_ hr1_3
 have HC1_3 := am_ hc1_3
 clear hr1_3 hc1_3
 have HB := am_ (Below.refl w.heap.size w)
 have H : (if a1_0 = 3 then (some (a1_1 != a1_2)) else (if a1_0 = 4 then (if 0 ≤ a1_1 then (if a1_1 < (l0_1.length : Int) then (some (((rd_L1 l0_1 a1_1).length : Int) == 0)) else (none)) else (none)) else (if a1_0 = 5 then (if 0 ≤ a1_1 then (if a1_1 < (l0_1.length : Int) then ((impl_occurrences.f k (rd_L1 l0_1 a1_1) a1_2).bind fun t419 => (some (t419 == 1))) else (none)) else (none)) else (some true)))) = some r := h
 clear h
 by_cases c3 : a1_0 = 3
 ·rw [if_pos c3] at H
  have c3b0 : (a1_0 == 3) = true := beq_iff_eq.mpr c3
  have c3b1 : (a1_0 != 3) = false := bne_eq_false_iff_eq.mpr c3
  clear c3
  obtain rfl := Option.some.inj H
  go_enter Try.func67, Try.ntmps67
  go_wp2_with (first | (refine be_ 2 28 #[.int .i64 a0_0, .slice A0_1 l0_1.length c0_1] ?_; intro gb415 hg w4 hbox hb; have n_ := ba0_ HB hbox hb hg; clear  HB hb hbox hg; obtain ⟨HB, BK415, GW415, GE415⟩ := n_) | (refine be_ 3 44 #[.int .i64 a1_0, .int .i64 a1_1, .int .i64 a1_2, .slice A1_3 l1_3.length c1_3] ?_; intro gb416 hg w5 hbox hb; have n_ := ba1_ BK415 HB hbox hb hg; clear BK415 HB hb hbox hg; obtain ⟨BK415, HB, BK416, GW416, GE416, NB415_416, NB416_415⟩ := n_; have hnb6 := NB416_415.out; have hnc6 := NB415_416.out; obtain ⟨hcz7_0, hcz7_1, hcz7_2, hcz7_3, hfz7_0, hfz7_1, hfz7_2, hfz7_3⟩ := bx4_ BK416))
  repeat (go_quiet (first | (refine be_ 2 28 #[.int .i64 a0_0, .slice A0_1 l0_1.length c0_1] ?_; intro gb415 hg w4 hbox hb; have n_ := ba0_ HB hbox hb hg; clear  HB hb hbox hg; obtain ⟨HB, BK415, GW415, GE415⟩ := n_) | (refine be_ 3 44 #[.int .i64 a1_0, .int .i64 a1_1, .int .i64 a1_2, .slice A1_3 l1_3.length c1_3] ?_; intro gb416 hg w5 hbox hb; have n_ := ba1_ BK415 HB hbox hb hg; clear BK415 HB hb hbox hg; obtain ⟨BK415, HB, BK416, GW416, GE416, NB415_416, NB416_415⟩ := n_; have hnb6 := NB416_415.out; have hnc6 := NB415_416.out; obtain ⟨hcz7_0, hcz7_1, hcz7_2, hcz7_3, hfz7_0, hfz7_1, hfz7_2, hfz7_3⟩ := bx4_ BK416)); try go_wp2_with (first | (refine be_ 2 28 #[.int .i64 a0_0, .slice A0_1 l0_1.length c0_1] ?_; intro gb415 hg w4 hbox hb; have n_ := ba0_ HB hbox hb hg; clear  HB hb hbox hg; obtain ⟨HB, BK415, GW415, GE415⟩ := n_) | (refine be_ 3 44 #[.int .i64 a1_0, .int .i64 a1_1, .int .i64 a1_2, .slice A1_3 l1_3.length c1_3] ?_; intro gb416 hg w5 hbox hb; have n_ := ba1_ BK415 HB hbox hb hg; clear BK415 HB hb hbox hg; obtain ⟨BK415, HB, BK416, GW416, GE416, NB415_416, NB416_415⟩ := n_; have hnb6 := NB416_415.out; have hnc6 := NB415_416.out; obtain ⟨hcz7_0, hcz7_1, hcz7_2, hcz7_3, hfz7_0, hfz7_1, hfz7_2, hfz7_3⟩ := bx4_ BK416)))
  go_ret
  exact ⟨er_, bb_ HB.out⟩
 ·rw [if_neg c3] at H
  have c3b0 : (a1_0 == 3) = false := beq_eq_false_iff_ne.mpr c3
  have c3b1 : (a1_0 != 3) = true := bne_iff_ne.mpr c3
  by_cases c8 : a1_0 = 4
  ·rw [if_pos c8] at H
   have c8b0 : (a1_0 == 4) = true := beq_iff_eq.mpr c8
   have c8b1 : (a1_0 != 4) = false := bne_eq_false_iff_eq.mpr c8
   clear c8
   by_cases c9 : 0 ≤ a1_1
   ·rw [if_pos c9] at H
    have c9b0 : decide (0 ≤ a1_1) = true := decide_eq_true c9
    clear c9
    by_cases c10 : a1_1 < (l0_1.length : Int)
    ·rw [if_pos c10] at H
     have c10b0 : decide (a1_1 < (l0_1.length : Int)) = true := decide_eq_true c10
     clear c10
     obtain rfl := Option.some.inj H
     go_enter Try.func67, Try.ntmps67
     go_wp2_with (first | (refine be_ 2 28 #[.int .i64 a0_0, .slice A0_1 l0_1.length c0_1] ?_; intro gb415 hg w11 hbox hb; have n_ := ba0_ HB hbox hb hg; clear  HB hb hbox hg; obtain ⟨HB, BK415, GW415, GE415⟩ := n_) | (refine be_ 3 44 #[.int .i64 a1_0, .int .i64 a1_1, .int .i64 a1_2, .slice A1_3 l1_3.length c1_3] ?_; intro gb416 hg w12 hbox hb; have n_ := ba1_ BK415 HB hbox hb hg; clear BK415 HB hb hbox hg; obtain ⟨BK415, HB, BK416, GW416, GE416, NB415_416, NB416_415⟩ := n_; have hnb13 := NB416_415.out; have hnc13 := NB415_416.out; obtain ⟨hcz14_0, hcz14_1, hcz14_2, hcz14_3, hfz14_0, hfz14_1, hfz14_2, hfz14_3⟩ := bx4_ BK416; obtain ⟨hcz15_0, hcz15_1, hfz15_0, hfz15_1⟩ := bx2_ BK415; have p417 : 0 ≤ (a1_1 : Int) := da_; have q417 : a1_1 < (l0_1.length : Int) := da_; obtain ⟨ad417, A417_0, c417_0, e417, hx417_0, hl417_0, hi417_0⟩ := at_L1 HR0_1.out a1_1 p417 q417; cases e417; replace hx417_0 := ce_ HB hx417_0; have HR417_0 := am_ hi417_0; have HC417_0 := am_ hl417_0; clear hi417_0 hl417_0; replace p417 := eq_true p417; replace q417 := eq_true q417))
     repeat (go_quiet (first | (refine be_ 2 28 #[.int .i64 a0_0, .slice A0_1 l0_1.length c0_1] ?_; intro gb415 hg w11 hbox hb; have n_ := ba0_ HB hbox hb hg; clear  HB hb hbox hg; obtain ⟨HB, BK415, GW415, GE415⟩ := n_) | (refine be_ 3 44 #[.int .i64 a1_0, .int .i64 a1_1, .int .i64 a1_2, .slice A1_3 l1_3.length c1_3] ?_; intro gb416 hg w12 hbox hb; have n_ := ba1_ BK415 HB hbox hb hg; clear BK415 HB hb hbox hg; obtain ⟨BK415, HB, BK416, GW416, GE416, NB415_416, NB416_415⟩ := n_; have hnb13 := NB416_415.out; have hnc13 := NB415_416.out; obtain ⟨hcz14_0, hcz14_1, hcz14_2, hcz14_3, hfz14_0, hfz14_1, hfz14_2, hfz14_3⟩ := bx4_ BK416; obtain ⟨hcz15_0, hcz15_1, hfz15_0, hfz15_1⟩ := bx2_ BK415; have p417 : 0 ≤ (a1_1 : Int) := da_; have q417 : a1_1 < (l0_1.length : Int) := da_; obtain ⟨ad417, A417_0, c417_0, e417, hx417_0, hl417_0, hi417_0⟩ := at_L1 HR0_1.out a1_1 p417 q417; cases e417; replace hx417_0 := ce_ HB hx417_0; have HR417_0 := am_ hi417_0; have HC417_0 := am_ hl417_0; clear hi417_0 hl417_0; replace p417 := eq_true p417; replace q417 := eq_true q417)); try go_wp2_with (first | (refine be_ 2 28 #[.int .i64 a0_0, .slice A0_1 l0_1.length c0_1] ?_; intro gb415 hg w11 hbox hb; have n_ := ba0_ HB hbox hb hg; clear  HB hb hbox hg; obtain ⟨HB, BK415, GW415, GE415⟩ := n_) | (refine be_ 3 44 #[.int .i64 a1_0, .int .i64 a1_1, .int .i64 a1_2, .slice A1_3 l1_3.length c1_3] ?_; intro gb416 hg w12 hbox hb; have n_ := ba1_ BK415 HB hbox hb hg; clear BK415 HB hb hbox hg; obtain ⟨BK415, HB, BK416, GW416, GE416, NB415_416, NB416_415⟩ := n_; have hnb13 := NB416_415.out; have hnc13 := NB415_416.out; obtain ⟨hcz14_0, hcz14_1, hcz14_2, hcz14_3, hfz14_0, hfz14_1, hfz14_2, hfz14_3⟩ := bx4_ BK416; obtain ⟨hcz15_0, hcz15_1, hfz15_0, hfz15_1⟩ := bx2_ BK415; have p417 : 0 ≤ (a1_1 : Int) := da_; have q417 : a1_1 < (l0_1.length : Int) := da_; obtain ⟨ad417, A417_0, c417_0, e417, hx417_0, hl417_0, hi417_0⟩ := at_L1 HR0_1.out a1_1 p417 q417; cases e417; replace hx417_0 := ce_ HB hx417_0; have HR417_0 := am_ hi417_0; have HC417_0 := am_ hl417_0; clear hi417_0 hl417_0; replace p417 := eq_true p417; replace q417 := eq_true q417)))
     go_ret
     exact ⟨er_, bb_ HB.out⟩
    ·rw [if_neg c10] at H
     exact absurd H (by simp)
   ·rw [if_neg c9] at H
    exact absurd H (by simp)
  ·rw [if_neg c8] at H
   have c8b0 : (a1_0 == 4) = false := beq_eq_false_iff_ne.mpr c8
   have c8b1 : (a1_0 != 4) = true := bne_iff_ne.mpr c8
   by_cases c16 : a1_0 = 5
   ·rw [if_pos c16] at H
    have c16b0 : (a1_0 == 5) = true := beq_iff_eq.mpr c16
    have c16b1 : (a1_0 != 5) = false := bne_eq_false_iff_eq.mpr c16
    clear c16
    by_cases c17 : 0 ≤ a1_1
    ·rw [if_pos c17] at H
     have c17b0 : decide (0 ≤ a1_1) = true := decide_eq_true c17
     clear c17
     by_cases c18 : a1_1 < (l0_1.length : Int)
     ·rw [if_pos c18] at H
      have c18b0 : decide (a1_1 < (l0_1.length : Int)) = true := decide_eq_true c18
      clear c18
      replace H := Option.bind_eq_some_iff.mp H
      obtain ⟨t419, A190, H⟩ := H
      replace H : (some (t419 == 1)) = some r := H
      have A19 := am_ A190
      clear A190
      obtain rfl := Option.some.inj H
      go_enter Try.func67, Try.ntmps67
      go_wp2_with (first | (refine be_ 2 28 #[.int .i64 a0_0, .slice A0_1 l0_1.length c0_1] ?_; intro gb415 hg w20 hbox hb; have n_ := ba0_ HB hbox hb hg; clear  HB hb hbox hg; obtain ⟨HB, BK415, GW415, GE415⟩ := n_) | (refine be_ 3 44 #[.int .i64 a1_0, .int .i64 a1_1, .int .i64 a1_2, .slice A1_3 l1_3.length c1_3] ?_; intro gb416 hg w21 hbox hb; have n_ := ba1_ BK415 HB hbox hb hg; clear BK415 HB hb hbox hg; obtain ⟨BK415, HB, BK416, GW416, GE416, NB415_416, NB416_415⟩ := n_; have hnb22 := NB416_415.out; have hnc22 := NB415_416.out; obtain ⟨hcz23_0, hcz23_1, hcz23_2, hcz23_3, hfz23_0, hfz23_1, hfz23_2, hfz23_3⟩ := bx4_ BK416; obtain ⟨hcz24_0, hcz24_1, hfz24_0, hfz24_1⟩ := bx2_ BK415; have p418 : 0 ≤ (a1_1 : Int) := da_; have q418 : a1_1 < (l0_1.length : Int) := da_; obtain ⟨ad418, A418_0, c418_0, e418, hx418_0, hl418_0, hi418_0⟩ := at_L1 HR0_1.out a1_1 p418 q418; cases e418; replace hx418_0 := ce_ HB hx418_0; have HR418_0 := am_ hi418_0; have HC418_0 := am_ hl418_0; clear hi418_0 hl418_0; replace p418 := eq_true p418; replace q418 := eq_true q418) | (go_at_call 100; (with_reducible refine (impl_occurrences.calls k _ _ (rd_L1 l0_1 a1_1) a1_2 t419 _ ?side1 ?side2 A19.out).mono ?_); (case side1 => exact cb_ HR418_0 HB); (case side2 => exact HC418_0.out); rintro e w' ⟨rfl, ⟨nd, rfl⟩⟩; (try first | exact ⟨rfl, _, World.drewN_drewN _ _ _⟩ | exact ⟨rfl, _, Eq.trans (World.drewN_drewN _ _ _) (congrArg (World.drewN _) (Nat.add_assoc _ _ _))⟩)))
      repeat (go_quiet (first | (refine be_ 2 28 #[.int .i64 a0_0, .slice A0_1 l0_1.length c0_1] ?_; intro gb415 hg w20 hbox hb; have n_ := ba0_ HB hbox hb hg; clear  HB hb hbox hg; obtain ⟨HB, BK415, GW415, GE415⟩ := n_) | (refine be_ 3 44 #[.int .i64 a1_0, .int .i64 a1_1, .int .i64 a1_2, .slice A1_3 l1_3.length c1_3] ?_; intro gb416 hg w21 hbox hb; have n_ := ba1_ BK415 HB hbox hb hg; clear BK415 HB hb hbox hg; obtain ⟨BK415, HB, BK416, GW416, GE416, NB415_416, NB416_415⟩ := n_; have hnb22 := NB416_415.out; have hnc22 := NB415_416.out; obtain ⟨hcz23_0, hcz23_1, hcz23_2, hcz23_3, hfz23_0, hfz23_1, hfz23_2, hfz23_3⟩ := bx4_ BK416; obtain ⟨hcz24_0, hcz24_1, hfz24_0, hfz24_1⟩ := bx2_ BK415; have p418 : 0 ≤ (a1_1 : Int) := da_; have q418 : a1_1 < (l0_1.length : Int) := da_; obtain ⟨ad418, A418_0, c418_0, e418, hx418_0, hl418_0, hi418_0⟩ := at_L1 HR0_1.out a1_1 p418 q418; cases e418; replace hx418_0 := ce_ HB hx418_0; have HR418_0 := am_ hi418_0; have HC418_0 := am_ hl418_0; clear hi418_0 hl418_0; replace p418 := eq_true p418; replace q418 := eq_true q418) | (go_at_call 100; (with_reducible refine (impl_occurrences.calls k _ _ (rd_L1 l0_1 a1_1) a1_2 t419 _ ?side1 ?side2 A19.out).mono ?_); (case side1 => exact cb_ HR418_0 HB); (case side2 => exact HC418_0.out); rintro e w' ⟨rfl, ⟨nd, rfl⟩⟩; (try first | exact ⟨rfl, _, World.drewN_drewN _ _ _⟩ | exact ⟨rfl, _, Eq.trans (World.drewN_drewN _ _ _) (congrArg (World.drewN _) (Nat.add_assoc _ _ _))⟩))); try go_wp2_with (first | (refine be_ 2 28 #[.int .i64 a0_0, .slice A0_1 l0_1.length c0_1] ?_; intro gb415 hg w20 hbox hb; have n_ := ba0_ HB hbox hb hg; clear  HB hb hbox hg; obtain ⟨HB, BK415, GW415, GE415⟩ := n_) | (refine be_ 3 44 #[.int .i64 a1_0, .int .i64 a1_1, .int .i64 a1_2, .slice A1_3 l1_3.length c1_3] ?_; intro gb416 hg w21 hbox hb; have n_ := ba1_ BK415 HB hbox hb hg; clear BK415 HB hb hbox hg; obtain ⟨BK415, HB, BK416, GW416, GE416, NB415_416, NB416_415⟩ := n_; have hnb22 := NB416_415.out; have hnc22 := NB415_416.out; obtain ⟨hcz23_0, hcz23_1, hcz23_2, hcz23_3, hfz23_0, hfz23_1, hfz23_2, hfz23_3⟩ := bx4_ BK416; obtain ⟨hcz24_0, hcz24_1, hfz24_0, hfz24_1⟩ := bx2_ BK415; have p418 : 0 ≤ (a1_1 : Int) := da_; have q418 : a1_1 < (l0_1.length : Int) := da_; obtain ⟨ad418, A418_0, c418_0, e418, hx418_0, hl418_0, hi418_0⟩ := at_L1 HR0_1.out a1_1 p418 q418; cases e418; replace hx418_0 := ce_ HB hx418_0; have HR418_0 := am_ hi418_0; have HC418_0 := am_ hl418_0; clear hi418_0 hl418_0; replace p418 := eq_true p418; replace q418 := eq_true q418) | (go_at_call 100; (with_reducible refine (impl_occurrences.calls k _ _ (rd_L1 l0_1 a1_1) a1_2 t419 _ ?side1 ?side2 A19.out).mono ?_); (case side1 => exact cb_ HR418_0 HB); (case side2 => exact HC418_0.out); rintro e w' ⟨rfl, ⟨nd, rfl⟩⟩; (try first | exact ⟨rfl, _, World.drewN_drewN _ _ _⟩ | exact ⟨rfl, _, Eq.trans (World.drewN_drewN _ _ _) (congrArg (World.drewN _) (Nat.add_assoc _ _ _))⟩))))
      go_ret
      exact ⟨er_, bb_ HB.out⟩
     ·rw [if_neg c18] at H
      exact absurd H (by simp)
    ·rw [if_neg c17] at H
     exact absurd H (by simp)
   ·rw [if_neg c16] at H
    have c16b0 : (a1_0 == 5) = false := beq_eq_false_iff_ne.mpr c16
    have c16b1 : (a1_0 != 5) = true := bne_iff_ne.mpr c16
    obtain rfl := Option.some.inj H
    go_enter Try.func67, Try.ntmps67
    go_wp2_with (first | (refine be_ 2 28 #[.int .i64 a0_0, .slice A0_1 l0_1.length c0_1] ?_; intro gb415 hg w25 hbox hb; have n_ := ba0_ HB hbox hb hg; clear  HB hb hbox hg; obtain ⟨HB, BK415, GW415, GE415⟩ := n_) | (refine be_ 3 44 #[.int .i64 a1_0, .int .i64 a1_1, .int .i64 a1_2, .slice A1_3 l1_3.length c1_3] ?_; intro gb416 hg w26 hbox hb; have n_ := ba1_ BK415 HB hbox hb hg; clear BK415 HB hb hbox hg; obtain ⟨BK415, HB, BK416, GW416, GE416, NB415_416, NB416_415⟩ := n_; have hnb27 := NB416_415.out; have hnc27 := NB415_416.out; obtain ⟨hcz28_0, hcz28_1, hcz28_2, hcz28_3, hfz28_0, hfz28_1, hfz28_2, hfz28_3⟩ := bx4_ BK416))
    repeat (go_quiet (first | (refine be_ 2 28 #[.int .i64 a0_0, .slice A0_1 l0_1.length c0_1] ?_; intro gb415 hg w25 hbox hb; have n_ := ba0_ HB hbox hb hg; clear  HB hb hbox hg; obtain ⟨HB, BK415, GW415, GE415⟩ := n_) | (refine be_ 3 44 #[.int .i64 a1_0, .int .i64 a1_1, .int .i64 a1_2, .slice A1_3 l1_3.length c1_3] ?_; intro gb416 hg w26 hbox hb; have n_ := ba1_ BK415 HB hbox hb hg; clear BK415 HB hb hbox hg; obtain ⟨BK415, HB, BK416, GW416, GE416, NB415_416, NB416_415⟩ := n_; have hnb27 := NB416_415.out; have hnc27 := NB415_416.out; obtain ⟨hcz28_0, hcz28_1, hcz28_2, hcz28_3, hfz28_0, hfz28_1, hfz28_2, hfz28_3⟩ := bx4_ BK416)); try go_wp2_with (first | (refine be_ 2 28 #[.int .i64 a0_0, .slice A0_1 l0_1.length c0_1] ?_; intro gb415 hg w25 hbox hb; have n_ := ba0_ HB hbox hb hg; clear  HB hb hbox hg; obtain ⟨HB, BK415, GW415, GE415⟩ := n_) | (refine be_ 3 44 #[.int .i64 a1_0, .int .i64 a1_1, .int .i64 a1_2, .slice A1_3 l1_3.length c1_3] ?_; intro gb416 hg w26 hbox hb; have n_ := ba1_ BK415 HB hbox hb hg; clear BK415 HB hb hbox hg; obtain ⟨BK415, HB, BK416, GW416, GE416, NB415_416, NB416_415⟩ := n_; have hnb27 := NB416_415.out; have hnc27 := NB415_416.out; obtain ⟨hcz28_0, hcz28_1, hcz28_2, hcz28_3, hfz28_0, hfz28_1, hfz28_2, hfz28_3⟩ := bx4_ BK416)))
    go_ret
    exact ⟨er_, bb_ HB.out⟩

/-! ### slices_Backward_int64_int64: function 123 -/
section
attribute [local go_sem] Oper.semAt_some
/-- What slices.Backward has handed out when k rounds are over. -/
def backUpto (l : List Int) (k : Nat) : List (Int × Int) := (List.range k).map fun i : Nat => ((l.length : Int) - 1 - (i : Int), rd l ((l.length : Int) - 1 - (i : Int)))
theorem backUpto_succ (l : List Int) (k : Nat) : backUpto l (k + 1) = backUpto l k ++ [((l.length : Int) - 1 - (k : Int), rd l ((l.length : Int) - 1 - (k : Int)))] := by simp [backUpto, List.range_succ]
theorem backUpto_length (l : List Int) (k : Nat) : (backUpto l k).length = k := by simp [backUpto]
theorem boxOwn {β : Type} (B : Nat) (t : TypeId) (f : β → Value) : Own (fun s W => Boxed W B t (f s)) := fun s X Y row hs hg hrow =>
  hs.kept hg (fun e' => by obtain ⟨o, ho, hc⟩ := hrow B e'.symm; rw [show X.heap[B]? = _ from hs] at ho; cases ho; cases hc)
/-- What a round of such a loop keeps: what lay below n₀, and the box of the slice. -/
def BackKp (n₀ Bs : Nat) (W W' : World) : Prop := Below n₀ W W' ∧ ∀ o, W.heap[Bs]? = some o → W'.heap[Bs]? = some o
theorem BackKp.refl (n₀ Bs : Nat) (W : World) : BackKp n₀ Bs W W := ⟨Below.refl _ _, fun _ h => h⟩
theorem BackKp.trans {n₀ Bs : Nat} {A B C : World} (h : BackKp n₀ Bs A B) (k : BackKp n₀ Bs B C) : BackKp n₀ Bs A C := ⟨h.1.trans k.1, fun o ho => k.2 o (h.2 o ho)⟩
theorem back1_in (F : Fence) (n : Nat) (h7 : F.fn 134) (hro : F.round = none) (hn : 1 ≤ n) (l Bs n₀ c0 : Nat) (A0 : Option Addr) (l0 : List Int) (hlen : l0.length ≤ 1099511627776) (w0 : World) (hb : w0.heap.size ≤ n₀) (hC : Kd.C (Kd.int .i64) w0 A0 l0.length l0) (J Jx : List (Int × Int) → World → Prop)
    (hY : ∀ pre x W, J pre W → pre.length < l0.length → YieldAt F (n - 1) Try.prog l #[.int .i64 x.1, .int .i64 x.2] W fun e W' =>
      (e = .returned (.bool true) ∧ J (pre ++ [x]) W' ∧ BackKp n₀ Bs W W') ∨ (e = .returned (.bool false) ∧ Jx (pre ++ [x]) W'))
    (W : World) (hW0 : Below w0.heap.size w0 W) (hBs : W.heap[Bs]? = some (.cells #[.slice A0 l0.length c0] 39 (0, 0))) (h0 : J [] W) :
    CallsIn F n Try.prog 134 #[.func (.yield l) #[] #[], .pointer (some ⟨Bs, 0, none⟩)] W fun e W' => (∃ v, e = .returned v) ∧
      ((∃ ys, ys = backUpto l0 l0.length ∧ J ys W') ∨ (∃ pre, True ∧ Jx pre W')) := by
  have hs1 : IntKind.i64.wrap ((l0.length : Int) - 1) = (l0.length : Int) - 1 := by rw [i64_w]; unfold wrap64; omega
  have hcb := (blk_cell hBs 0).trans rfl
  refine callsIn_of_wp Try.func134 rfl h7 ?_ hro
  simp only [Try.ntmps134, List.size_toArray, List.length_cons, List.length_nil, Nat.reduceAdd, Nat.reduceSub, Array.replicate_succ, Array.replicate_zero, List.push_toArray, List.append_toArray, List.nil_append, List.cons_append]
  gi_wp2
  gi_loopw [3] (fun i wr => ∃ k : Nat, k ≤ l0.length ∧ i = .int .i64 ((l0.length : Int) - 1 - (k : Int)) ∧ J (backUpto l0 k) wr ∧ BackKp n₀ Bs W wr)
    (fun i _ => (intOf i + 1).toNat)
  case atStart => exact ⟨0, Nat.zero_le _, by simp, (by simpa [backUpto] using h0), BackKp.refl _ _ _⟩
  case round =>
    obtain ⟨k, hk, rfl, hJs, hnx⟩ := hrel
    by_cases hlt : k < l0.length
    · obtain ⟨j, hj⟩ : ∃ j : Nat, (l0.length : Int) - 1 - (k : Int) = j := ⟨((l0.length : Int) - 1 - (k : Int)).toNat, by omega⟩
      obtain ⟨ad, e, hx⟩ := Kd.at_int hC (j : Int) (by omega) (by omega)
      cases e
      rw [Int.toNat_natCast] at hx
      have hx' := pw_cell_below (hW0.trans (hnx.1.mono hb)) hx
      have hcb' : wr.cell? ⟨Bs, 0, none⟩ = some (.slice (some ad) l0.length c0) := (blk_cell (hnx.2 _ hBs) 0).trans rfl
      obtain ⟨fn, tmps, assign, body, hy, hR⟩ := hY _ ((j : Int), rd l0 (j : Int)) wr hJs (by rw [backUpto_length]; exact hlt)
      dsimp only at hy
      have hjl : (j < l0.length) = True := eq_true (by omega)
      have hwj : IntKind.i64.wrap ((j : Int) - 1) = (l0.length : Int) - 1 - ((k + 1 : Nat) : Int) := by rw [i64_w]; unfold wrap64; omega
      have hju : backUpto l0 (k + 1) = backUpto l0 k ++ [((j : Int), rd l0 (j : Int))] := by rw [backUpto_succ, hj]
      have HM := Aside0.mk (And.intro hj hlt)
      rw [hj]
      clear hC hY hcb hx hs1
      gi_wp2
      refine hR.mono ?_
      rintro e W3 (⟨rfl, hJ3, hk3⟩ | ⟨rfl, hJx3⟩)
      · gi_wp2
        go_roundw
        case rel => exact ⟨k + 1, by have := HM.out.2; omega, by first | rfl | (congr 1), by rw [hju]; exact hJ3, hnx.trans hk3⟩
        case measure =>
          have h1 := HM.out.1
          have h2 := HM.out.2
          simp only [intOf]
          omega
      · gi_wp2
        refine bodyPost_ret (results_none rfl _ _ _) rfl ?_
        exact ⟨⟨_, rfl⟩, .inr ⟨_, trivial, hJx3⟩⟩
    · obtain rfl : k = l0.length := by omega
      have he : (l0.length : Int) - 1 - (l0.length : Int) = -1 := by omega
      rw [he]
      gi_wp2
      go_end0
      exact ⟨⟨_, rfl⟩, .inl ⟨_, rfl, hJs⟩⟩
theorem backward_in (F : Fence) (n : Nat) (h5 : F.fn 123) (hro : F.round = none) (a : Option Addr) (len cap : Nat) (w : World) :
    CallsIn F n Try.prog 123 #[.slice a len cap] w fun e w' => e = .returned (.func (.func 134) #[] #[.pointer (some ⟨w.heap.size, 0, none⟩)]) ∧ w' = w.alloc (.cells #[.slice a len cap] 39) := by
  refine callsIn_of_wp Try.func123 rfl h5 ?_ hro
  simp only [Try.ntmps123, List.size_toArray, List.length_cons, List.length_nil, Nat.reduceAdd, Nat.reduceSub, Array.replicate_succ, Array.replicate_zero, List.push_toArray, List.append_toArray, List.nil_append, List.cons_append]
  gi_wp2
  go_ret
  exact ⟨rfl, rfl⟩
theorem backward_stops (F : Fence) (n : Nat) (h7 : F.fn 134) (hro : F.round = none) (hn : 1 ≤ n) (Bs n₀ c0 : Nat) (A0 : Option Addr) (l0 : List Int) (hlen : l0.length ≤ 1099511627776) (w0 w : World) (hb : w0.heap.size ≤ n₀) (hC : Kd.C (Kd.int .i64) w0 A0 l0.length l0) (hw : Below w0.heap.size w0 w) (hBs : w.heap[Bs]? = some (.cells #[.slice A0 l0.length c0] 39 (0, 0))) :
    SeqStopsK F n Try.prog 134 #[.pointer (some ⟨Bs, 0, none⟩)] (fun x : Int × Int => #[Value.int .i64 x.1, Value.int .i64 x.2]) (BackKp n₀ Bs) (fun ys => ys = backUpto l0 l0.length) (fun _ => True) l0.length w := fun l J Jx W hW _ _ hY h0 =>
  back1_in F n h7 hro hn l Bs n₀ c0 A0 l0 hlen w0 hb hC J Jx hY W (hw.trans (hW.mono hw.size)) ((hW.block Bs (blk_lt hBs)).trans hBs) h0
end

/-! ### impl_inverse: function 101 -/
section
attribute [local go_sem] Oper.semAt_some
def invWord (l : List Int) : List Int := (backUpto l l.length).map fun x => wrap64 (-x.2)
def impl_inverse.f (l0 : List Int) : Option (List Int) := if l0.length ≤ 1099511627776 then some (invWord l0) else none
theorem impl_inverse.calls (A0 : Option Addr) (c0 : Nat) (l0 : List Int) (r : List Int) (w : World) (hr0 : Kd.C (Kd.int .i64) w A0 l0.length l0) (hc0 : l0.length ≤ c0) (h : impl_inverse.f l0 = some r) :
    Calls Try.prog 101 #[.slice A0 l0.length c0] w fun e w' => ∃ v0_ : Value, e = .returned (v0_) ∧ Kd.R (Kd.int .i64) 2 w' w.heap.size (fun _ => True) v0_ r ∧ Below w.heap.size w w' := by
  unfold impl_inverse.f at h
  by_cases hlen : l0.length ≤ 1099511627776
  case neg => rw [if_neg hlen] at h; exact absurd h (by simp)
  rw [if_pos hlen] at h
  obtain rfl := Option.some.inj h
  clear h
  refine (callsIn_wide (n := 3)).1 ?_
  obtain ⟨i0, hi, hz0, hz1, hz2⟩ := info_parts info2
  have hro : Fence.wide.round = none := rfl
  have h1 : 1 ≤ 3 := by omega
  refine callsIn_of_wp_marks Try.func101 rfl trivial ?_ hro
  simp only [Try.ntmps101, List.size_toArray, List.length_cons, List.length_nil, Nat.reduceAdd, Nat.reduceSub, Array.replicate_succ, Array.replicate_zero, List.push_toArray, List.append_toArray, List.nil_append, List.cons_append]
  gi_wp2_with (refine ⟨trivial, ?_⟩; gi_at_call 123; refine (backward_in Fence.wide (3 - 1) trivial hro _ _ _ _).mono ?_; rintro e w' ⟨rfl, rfl⟩)
  have bO := Boxed.new w 39 (.slice none 0 0)
  have bN := Boxed.new (w.alloc (.cells #[.slice none 0 0] 39)) 39 (.slice A0 l0.length c0)
  rw [World.size_alloc] at bN
  have hB0 : Below w.heap.size w ((w.alloc (.cells #[.slice none 0 0] 39)).alloc (.cells #[.slice A0 l0.length c0] 39)) := ((Below.refl _ w).alloc (Nat.le_refl _) _).alloc (by simp) _
  have hsz : ((w.alloc (.cells #[.slice none 0 0] 39)).alloc (.cells #[.slice A0 l0.length c0] 39)).heap.size = w.heap.size + 2 := by rw [World.size_alloc, World.size_alloc]
  refine wpIn_rangeFunc_ownG hro h1 (gf := 134) (lb := #[.pointer (some ⟨w.heap.size + 1, 0, none⟩)]) rfl trivial (enters_of Try.func134 (by kernel_rfl) rfl)
    (backward_stops Fence.wide (3 - 1) trivial hro (by omega) (w.heap.size + 1) w.heap.size c0 A0 l0 hlen w _ (Nat.le_refl _) hr0 hB0 bN) (fun h k => BackKp.trans h k) (fun W l o o' hl hw a b => ⟨belowK_b (by rw [hsz]; omega) W l o o' hl hw a b, fun q hq => ((belowK_b (n₀ := w.heap.size + 2) (by rw [hsz]; omega) W l o o' hl hw a b).block (w.heap.size + 1) (by omega)).trans hq⟩) (Below.refl _ _) (fun _ => rfl)
    (fun pre W => (∃ v, Boxed W w.heap.size 39 v ∧ W.ownsRow w.heap.size 2 1 v pre.length (pre.map fun x => Value.int .i64 (wrap64 (-x.2))) ∧ True) ∧ Below w.heap.size w W ∧ Boxed W (w.heap.size + 1) 39 (.slice A0 l0.length c0))
    (fun _ _ _ => False)
    (OwnFrom.and (Own.from (holdsRow_own w.heap.size w.heap.size 39 2 1 (fun pre : List (Int × Int) => pre.length) (fun pre => pre.map fun x => Value.int .i64 (wrap64 (-x.2))) (fun _ _ => True)) _) (OwnFrom.and (ownFrom_below (Nat.le_refl _) (by rw [hsz]; omega)) (Own.from (boxOwn (w.heap.size + 1) 39 (fun _ => .slice A0 l0.length c0)) _)))
    (fun _ _ _ _ _ hs _ _ => hs)
    ⟨⟨_, bO.alloc _, World.ownsRow_nil _ _ _ _, trivial⟩, hB0, bN⟩
    (fun x => { tmps := #[.slice A0 l0.length c0, undef, .slice none 0 0, .pointer (some ⟨w.heap.size, 0, none⟩), undef, .int .i64 x.2, .slice A0 l0.length c0, .func (.func 134) #[] #[.pointer (some ⟨w.heap.size + 1, 0, none⟩)], .int .i64 x.1, .int .i64 x.2, undef, undef, undef, undef, undef, undef], defers := [] }) ?assign ?body ?done ?stop
  case assign =>
    intro l x W K hK
    gi_wp2
    exact hK
  case body =>
    rintro l pre x W ⟨⟨v, hv, hrow, _⟩, hB, hbn⟩ hlt
    have hc := hv.cell
    have t1 : pre.length + 1 ≤ maxLen := by unfold maxLen; omega
    have t2 : (pre.length + 1) * 8 ≤ 140737488355328 := by omega
    have t3 := hB.size
    have HT1 := Aside0.mk t1
    have HT2 := Aside0.mk t2
    clear t1 t2
    gi_wp2_with (gi_at_builtin; refine wpListIn_append_own _ rfl _ _ 39 rfl w.heap.size 2 i0 (.int .i64 0) 1 8 Try.underlying39 hi hz0 hz1 hz2 rfl (by decide) _ _ _ rfl (hrow.alloc _) ⟨W.heap.size, 0, none⟩ 1 1 [.int .i64 (wrap64 (-x.2))] rfl rfl ?a1 ?a2 ?a3 ?a4 ?a5 ?_; (case a1 => exact cell_one_new _ _ _); (case a2 => simp [Value.oneCell']); (case a3 => exact HT1.out); (case a4 => exact HT2.out); (case a5 => have := hB.size; simp; omega); intro v' w1 hown' hgrow _; obtain ⟨g', cap', rfl⟩ := ownsRow_succ hown'; obtain ⟨hv1, hv2, hr2, hk2, hb2⟩ := hv.appended (by decide) hrow hB.size (Nat.le_refl _) hown' hgrow; have hc1 := hv1.cell; have hf1 := hv1.frozen)
    have hne : some (w.heap.size + 1) ≠ v.ownBlock := Boxed.not_row hbn (show (39 : Nat) ≠ 2 by decide) hrow
    have hbn1 := (hbn.alloc (.cells #[.int .i64 (wrap64 (-x.2))] 2)).kept hgrow hne
    have hbn2 : Boxed (w1.setCell ⟨w.heap.size, 0, none⟩ (.slice (some ⟨g', 0, none⟩) (pre.length + 1) cap')) (w.heap.size + 1) 39 (.slice A0 l0.length c0) := Boxed.kept hbn1 (grownBy_setCell' w1 w.heap.size _) (fun e => by have := Option.some.inj e; omega)
    refine ⟨hk2.from _, ⟨hb2, fun o ho => ?_⟩, ⟨_, hv2, by simpa using hr2, trivial⟩, hB.trans hb2, hbn2⟩
    rw [show W.heap[w.heap.size + 1]? = _ from hbn] at ho
    rw [← Option.some.inj ho]
    exact hbn2
  case done =>
    rintro D ys W hD rfl ⟨⟨v, hv, hrow, _⟩, hB, _⟩ hK
    have hc := hv.cell
    gi_wp2
    refine ⟨by simp, .inl ⟨_, _, rfl, run_takeDeferred hK, ?_⟩⟩
    refine ⟨_, results_tmp rfl _ _ _, v, rfl, ?_, hB.trans (belowK_b (w := w) (Nat.le_refl _) W D _ _ (by rw [hsz] at hD; omega) hK rfl rfl)⟩
    have ho := ownsRow_putObj hrow (.deferred none) hK rfl
    refine Kd.R_of_own ?_ (fun _ _ => trivial)
    simpa [invWord, encs, Function.comp_def] using ho
  case stop =>
    rintro D c pre W _ _ h _
    exact h.elim
end

end Go.Proofs.Ytbcdngjajjgmkaa.PFnExactSimplifyPresentation
