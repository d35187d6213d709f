/- Written by this session's program out of the kit's print and this session's contracts. -/
import Derived.Test.YtbcdngjajjgmkaaVFnExactSimplifyPresentationPx0
import Derived.Test.YtbcdngjajjgmkaaVFnExactSimplifyPresentationPx12
namespace Go.Proofs.Ytbcdngjajjgmkaa.PFnExactSimplifyPresentation
open Go.RowKit Go.Proofs.YtbcdngjajjgmkaaW.PrintWords Go.Proofs.YtbcdngjajjgmkaaW.PrintLast Go.Proofs.YtbcdngjajjgmkaaW.PrintMore
set_option maxHeartbeats 8000000
set_option maxRecDepth 100000
set_option linter.unusedVariables false
set_option linter.unusedSimpArgs false

/-! ### slices_Concat_int64_int64: function 102 -/
theorem at_rowC {e : Nat} {d : Kd Int} {w : World} {A : Option Addr} {l : List (List Int)} (h : (Kd.slice e d).C w A l.length l) (k : Nat) (hk : k < l.length) :
  ∃ ad A' c', A = some ad ∧ w.cell? (ad.add k) = some (.slice A' l[k].length c') ∧ l[k].length ≤ c' ∧ d.C w A' l[k].length l[k] := by
 obtain ⟨ad, rfl, hc⟩ := h.2.2 (by omega)
 obtain ⟨cs, hl, ⟨A', c', rfl, h1, h2⟩, hcell⟩ := hc k l[k] (List.getElem?_eq_getElem hk)
 exact ⟨ad, A', c', rfl, by simpa [Kd.slice] using hcell 0 _ rfl, h1, h2⟩
theorem flat_take (l : List (List Int)) (k : Nat) (h : k < l.length) : (l.take (k + 1)).flatten = (l.take k).flatten ++ l[k] := by
 rw [List.take_succ_eq_append_getElem h, List.flatten_append]
 simp
theorem flat_le (l : List (List Int)) (k : Nat) : (l.take k).flatten.length ≤ l.flatten.length := by
 conv => rhs; rw [← List.take_append_drop k l, List.flatten_append, List.length_append]
 exact Nat.le_add_right _ _
theorem grow_nil (n : Nat) (hn : n ≤ 1000000) (w : World) :
  Calls Try.prog 124 #[.slice none 0 0, .int .i64 (n : Int)] w fun e w' => ∃ v0_ : Value, e = .returned v0_ ∧ Kd.R (Kd.int .i64) 2 w' w.heap.size (fun _ => True) v0_ ([] : List Int) ∧ Below w.heap.size w w' := by
 have hlt : ((n : Int) < 0) = False := eq_false (by omega)
 have hd1 : decide ((n : Int) < 0) = false := decide_eq_false (by omega)
 have hw0 : wrap64 (n : Int) = (n : Int) := by unfold wrap64; omega
 by_cases h0 : 0 < n
 ·have hgt : ((n : Int) > 0) = True := eq_true (by omega)
  have hd2 : decide ((n : Int) > 0) = true := decide_eq_true (by omega)
  have HN := Aside0.mk hn
  have HR0 := Aside0.mk (Kd.R_nil (Kd.int .i64) 2 w w.heap.size (fun _ => True))
  obtain ⟨i01, hi01, _, hsz1, _⟩ := info_parts info2
  obtain ⟨hcut1, _, _⟩ := print_take_of (P := Try.prog) (Value.int .i64) 0 39 2 .i64 Try.underlying39 hi01 hsz1 none 0 ([] : List Int) 0 (by omega) (by simp) (by simp)
  clear hn
  go_enter Try.func124, Try.ntmps124
  go_wp2_with (first
   | ((with_reducible refine gate_builtin (b := .append) (xs := #[.tmp 20, .tmp 21]) rfl ?_); at_builtin; refine Kd.R_append_zeros (Kd.int .i64) (w0 := w) w.heap.size rfl (.tmp 20) (.tmp 21) 39 3 2 (.int .i64 0) 8 rfl Try.underlying39 Try.underlying3 info2 rfl (by decide) (by omega) (.slice none 0 0) ([] : List Int) 0 (wrap64 (n : Int)) (fun _ => True) rfl rfl ?aZ (fun _ _ => trivial) ?aO (by rw [hw0]; omega) (Below.refl _ _) (Nat.le_refl _) ?aL ?_; (case aZ => exact rfl); (case aO => exact HR0.out); (case aL => have := HN.out; rw [hw0]; simp; omega); intro v1 w1 ho hb hg hat; rw [hw0] at ho; obtain ⟨A1, c1, e1⟩ := Kd.R_slice ho; subst e1; have HO1 := Aside0.mk (Kd.R_take ho (Nat.zero_le _)); obtain ⟨_, hc1, _⟩ := Kd.R_reads' ho; have HCc := Aside0.mk hc1; have HB1 := Aside0.mk hb; have hcut2 := (print_take_of (P := Try.prog) (Value.int .i64) 0 39 2 .i64 Try.underlying39 hi01 hsz1 A1 c1 ([] ++ List.replicate (n : Int).toNat (0 : Int)) 0 (by omega) (by omega) hc1).1; clear ho hb hg hat hc1))
  go_ret
  exact ⟨_, rfl, by simpa using HO1.out, HB1.out⟩
 ·obtain rfl : n = 0 := by omega
  have hgt : (((0 : Nat) : Int) > 0) = False := eq_false (by omega)
  have hd2 : decide (((0 : Nat) : Int) > 0) = false := decide_eq_false (by omega)
  go_enter Try.func124, Try.ntmps124
  go_wp2
  go_ret
  exact ⟨_, rfl, Kd.R_nil _ _ _ _ _, Below.refl _ _⟩
def slices_Concat_int64_int64.f (l0 : List (List Int)) : Option (List Int) := if l0.flatten.length ≤ 1000000 then some l0.flatten else none
theorem slices_Concat_int64_int64.calls (A0 : Option Addr) (c0 : Nat) (l0 : List (List Int)) (r : List Int) (w : World) (hr0 : Kd.C (Kd.slice 2 (Kd.int .i64)) w A0 l0.length l0) (hc0 : l0.length ≤ c0) (h : slices_Concat_int64_int64.f l0 = some r) :
  Calls Try.prog 102 #[.slice A0 l0.length c0] w fun e w' => ∃ v0_ : Value, e = .returned (v0_) ∧ Kd.R (Kd.int .i64) 2 w' w.heap.size (fun _ => True) v0_ r ∧ Below w.heap.size w w' := by
 unfold slices_Concat_int64_int64.f at h
 by_cases hT : l0.flatten.length ≤ 1000000
 case neg => rw [if_neg hT] at h; exact absurd h (by simp)
 rw [if_pos hT] at h
 obtain rfl := Option.some.inj h
 have hbig := hr0.2.1
 have HR0 := Aside0.mk hr0
 have HT := Aside0.mk hT
 clear h hr0 hT hc0
 go_enter Try.func102, Try.ntmps102
 go_wp2
 go_loopg [3, 5, 11] l0.length (fun gg s3 _ s11 wr => ∃ kk n : Nat, kk ≤ l0.length ∧ l0.length - kk ≤ gg ∧ s11 = .int .i64 kk ∧ s3 = .int .i64 n ∧ n = (l0.take kk).flatten.length ∧ Aside0 (Below w.heap.size w wr))
 case atStart => exact ⟨0, 0, Nat.zero_le _, by omega, rfl, rfl, by simp, ⟨Below.refl _ w⟩⟩
 case round =>
  obtain ⟨kk, n, hkk, hg, rfl, rfl, hn, BW⟩ := hrel
  by_cases hlt : kk < l0.length
  ·have hltz : (kk : Int) < (l0.length : Int) := by omega
   obtain ⟨ad, A', c', e, hx0, hle, hrow⟩ := at_rowC HR0.out kk hlt
   cases e
   have hx : wr.cell? (ad.add kk) = some (.slice A' l0[kk].length c') := (BW.out.cell (World.block_lt_of_cell? w _ hx0)).trans hx0
   have hn2 : n + l0[kk].length = (l0.take (kk + 1)).flatten.length := by rw [flat_take l0 kk hlt, List.length_append, hn]
   have hn3 := flat_le l0 (kk + 1)
   have hn4 := HT.out
   have HN2 := Aside0.mk hn2
   have HW := Aside0.mk (show wrap64 ((n : Int) + (l0[kk].length : Int)) = ((n + l0[kk].length : Nat) : Int) by unfold wrap64; omega)
   have hneg : (wrap64 ((n : Int) + (l0[kk].length : Int)) < 0) = False := by rw [HW.out]; exact eq_false (by omega)
   have hneg2 : decide (wrap64 ((n : Int) + (l0[kk].length : Int)) < 0) = false := decide_eq_false (by rw [HW.out]; omega)
   have HWI := Aside0.mk (show wrap64 ((kk : Int) + 1) = ((kk + 1 : Nat) : Int) by unfold wrap64; omega)
   clear hx0 hrow hle hn hn2 hn3 hn4
   generalize l0[kk].length = m at hx hneg hneg2 HN2 HW
   go_wp2
   go_roundg (l0.length - (kk + 1))
   case measure => omega
   case rel => exact ⟨kk + 1, n + m, by omega, by omega, (by first | rfl | exact congrArg (Value.int .i64) HWI.out), congrArg (Value.int .i64) HW.out, HN2.out, BW⟩
  ·have hltz : ¬ (kk : Int) < (l0.length : Int) := by omega
   have hk : kk = l0.length := by omega
   subst hk
   rw [List.take_length] at hn
   have HN := Aside0.mk hn
   have HN1 := Aside0.mk (show n ≤ 1000000 by have := HT.out; omega)
   clear hn
   have hga := fun W => grow_nil n HN1.out W
   go_wp2_with (first
    | (go_at_call 124; refine (hga _).mono ?_; rintro e w2 ⟨v2, rfl, ho, hb⟩; obtain ⟨A2, c2, e2⟩ := Kd.R_slice ho; subst e2; have HO := Aside0.mk (Kd.R_lower ho BW.out.size); have HB := Aside0.mk (BW.out.trans (hb.mono BW.out.size)); clear ho hb))
   go_loopg [6, 8, 27] l0.length (fun gg s6 _ s27 wr => ∃ (kk m : Nat) (A : Option Addr) (c : Nat), kk ≤ l0.length ∧ l0.length - kk ≤ gg ∧ s27 = .int .i64 kk ∧ s6 = .slice A m c ∧ Aside0 (m = (l0.take kk).flatten.length) ∧ Aside0 (Kd.R (Kd.int .i64) 2 wr w.heap.size (fun _ => True) (.slice A m c) (l0.take kk).flatten) ∧ Aside0 (Below w.heap.size w wr))
   case atStart => exact ⟨0, 0, A2, c2, Nat.zero_le _, by omega, rfl, rfl, ⟨by simp⟩, ⟨by simpa using HO.out⟩, HB⟩
   case round =>
    clear HO HB BW HN HN1 hga
    obtain ⟨kk, m, A, c, hkk, hg, rfl, rfl, HM, HO, HB⟩ := hrel
    by_cases hlt : kk < l0.length
    ·have hltz : (kk : Int) < (l0.length : Int) := by omega
     obtain ⟨ad, A', c', e, hx0, hle, hrow⟩ := at_rowC HR0.out kk hlt
     cases e
     have hx : wr.cell? (ad.add kk) = some (.slice A' l0[kk].length c') := cf_ HB hx0
     have HROW := Aside0.mk (Kd.C_below hrow HB.out)
     have HF := Aside0.mk (flat_take l0 kk hlt)
     have HL := Aside0.mk (show (l0.take kk).flatten.length + l0[kk].length ≤ 1000000 by
      have h1 := flat_le l0 (kk + 1)
      have h2 := HT.out
      rw [flat_take l0 kk hlt, List.length_append] at h1
      omega)
     clear hx0 hrow hle
     generalize l0[kk] = row at hx HROW HF HL
     go_wp2_with (first
      | ((with_reducible refine gate_builtin (b := .append) (xs := #[.tmp 31, .tmp 32]) rfl ?_); at_builtin; refine Kd.R_append_rows (Kd.int .i64) (w0 := w) w.heap.size rfl (.tmp 31) (.tmp 32) 39 2 (.int .i64 0) 8 rfl Try.underlying39 info2 rfl (by decide) (by omega) (.slice A m c) (l0.take kk).flatten row _ _ _ (fun _ => True) (fun _ => False) rfl rfl ?aO ?aR (fun _ _ h => h) (fun _ h => h.elim) ?aF ?aB ?aS ?aL ?_; (case aR => exact HROW.out); (case aB => exact HB.out); (case aF => exact (fun _ _ => trivial)); (case aO => exact HO.out); (case aS => exact (below_size HB.out)); (case aL => have := HL.out; omega); intro v2 w4 ho hb hg2 hat; rw [← HF.out] at ho; obtain ⟨A2, c2, e2⟩ := Kd.R_slice ho; obtain ⟨m2, hm2⟩ : ∃ m2, m2 = (l0.take (kk + 1)).flatten.length := ⟨_, rfl⟩; rw [← hm2] at e2; have HM2 := Aside0.mk hm2; clear hm2; subst e2; have HO2 := Aside0.mk ho; have HB2 := Aside0.mk hb; clear ho hb hg2 hat))
     go_roundg (l0.length - (kk + 1))
     case measure => omega
     case rel => exact ⟨kk + 1, m2, A2, c2, by omega, by omega, (by first | rfl | exact congrArg (Value.int .i64) (show wrap64 ((kk : Int) + 1) = ((kk + 1 : Nat) : Int) by unfold wrap64; omega)), rfl, HM2, HO2, HB2⟩
    ·have hltz : ¬ (kk : Int) < (l0.length : Int) := by omega
     have hk : kk = l0.length := by omega
     subst hk
     have HO2 := Aside0.mk (show Kd.R (Kd.int .i64) 2 wr w.heap.size (fun _ => True) (.slice A m c) l0.flatten by have h := HO.out; rw [List.take_length] at h; exact h)
     clear HO
     go_wp2
     go_ret
     exact ⟨_, rfl, HO2.out, HB.out⟩

/-! ### impl_sign: function 135 -/
def impl_sign.f (a0 : Int) : Option (Int) := if a0 < 0 then (some (-1)) else (some 1)
theorem impl_sign.calls (a0 : Int) (r : Int) (w : World) (h : impl_sign.f a0 = some r) :
  Calls Try.prog 135 #[.int .i64 a0] w fun e w' => e = .returned (.int .i64 r) ∧ Drawn0 w w' := by
 have H : (if a0 < 0 then (some (-1)) else (some 1)) = some r := h
 clear h
 by_cases c2 : a0 < 0
 ·rw [if_pos c2] at H
  have c2b0 : decide (a0 < 0) = true := decide_eq_true c2
  clear c2
  obtain rfl := Option.some.inj H
  go_enter Try.func135, Try.ntmps135
  go_wp2
  go_ret
  exact ⟨by first | rfl | (simp; done) | (simp [*]; done), by repeat (first | exact Drawn0.refl _ | apply Drawn0.step)⟩
 ·rw [if_neg c2] at H
  have c2b0 : decide (a0 < 0) = false := decide_eq_false c2
  clear c2
  obtain rfl := Option.some.inj H
  go_enter Try.func135, Try.ntmps135
  go_wp2
  go_ret
  exact ⟨by first | rfl | (simp; done) | (simp [*]; done), by repeat (first | exact Drawn0.refl _ | apply Drawn0.step)⟩

/-! ### impl_replaced: function 127 -/
def kL_ : Nat → Nat → List Bool
 | 0, _ => []
 | n + 1, m => (m % 2 == 1) :: kL_ n (m / 2)
def kA_ (n m : Nat) : Array Bool := (kL_ n m).toArray
theorem kz_ {P : Program} {ops : Array Oper} {Q : Exit → Act → World → Prop} {md : Region.Mode} {S : World → Prop} {ds : List Nat} (i : Nat) (N : Tmp) (l' : Array Bool) {oi : Oper} {v : Value} {fuel : Nat} {l : Array Bool} {a a' : Act} {w : World}
  (h : wpAnyLast P md ops Q S ds fuel l' a' w) (hi : ops[i]? = some oi := by exact rfl) (hN : oi.dst = some N := by exact rfl) (hc : anyB md ops l l' i = true := by kernel_rfl)
  (hQ : ∀ c a w, Q (.panic c) (a.put oi.dst v) w → Q (.panic c) a w := by exact fun _ _ _ h => h) (hy : Yields P ops oi v a := by exact Or.inl ⟨by rfl, by intro w'; go_simp; with_reducible rfl⟩) (ha : a.put (some N) v = a' := by simp only [Act.put, List.setIfInBounds_toArray, List.set_cons_zero, List.set_cons_succ, i64_w, i32_w]; rfl) :
  wpAnyLast P md ops Q S ds (fuel + 1) l a w := pure_ l' hi hN hc hQ hy ha h
theorem kt_ {P : Program} {ops : Array Oper} {Q : Exit → Act → World → Prop} {md : Region.Mode} {S : World → Prop} {ds : List Nat} (i : Nat) (N : Tmp) (l' : Array Bool) {oi : Oper} {v : Value} {fuel : Nat} {l : Array Bool} {a a' : Act} {w : World}
  (hS : S w) (h : wpAnyLast P md ops Q S ds fuel l' a' w) (hi : ops[i]? = some oi := by exact rfl) (hN : oi.dst = some N := by exact rfl) (hc : takeB md ops ds l l' i = true := by kernel_rfl)
  (hQ : ∀ c a w, Q (.panic c) (a.put oi.dst v) w → Q (.panic c) a w := by exact fun _ _ _ h => h) (hy : YieldsIf P ops S oi v a := by exact Or.inl ⟨by rfl, by intro w' hS_; (try dsimp only at hS_); go_simp; with_reducible rfl⟩) (ha : a.put (some N) v = a' := by simp only [Act.put, List.setIfInBounds_toArray, List.set_cons_zero, List.set_cons_succ, i64_w, i32_w]; rfl) :
  wpAnyLast P md ops Q S ds (fuel + 1) l a w := take_ l' hi hN hc hQ hy hS ha h
def rplOne (g : Int) (b : List Int) (x : Int) : List Int := if x = g then b else if x = wrap64 (-g) then invWord b else [x]
def rplAll (g : Int) (b l : List Int) : List Int := l.flatMap (rplOne g b)
def absI (x : Int) : Int := if x < 0 then wrap64 (-x) else x
def sgnI (x : Int) : Int := if x < 0 then -1 else 1
def lowOne (g x : Int) : Int := if g < absI x then wrap64 (x - sgnI x) else x
theorem absI_f (x : Int) : impl_abs.f x = some (absI x) := by unfold impl_abs.f absI; split <;> rfl
theorem sgnI_f (x : Int) : impl_sign.f x = some (sgnI x) := by unfold impl_sign.f sgnI; split <;> rfl
theorem invWord_len (l : List Int) : (invWord l).length = l.length := by simp [invWord, backUpto]
theorem rplOne_len (g : Int) (b : List Int) (x : Int) (hb : b.length ≤ 1000) : (rplOne g b x).length ≤ 1000 := by
 unfold rplOne
 split
 ·exact hb
 ·split
  ·rw [invWord_len]; exact hb
  ·simp
theorem rplAll_len (g : Int) (b : List Int) (hb : b.length ≤ 1000) : ∀ l : List Int, (rplAll g b l).length ≤ l.length * 1000
 | [] => by simp [rplAll]
 | x :: t => by
  have h1 := rplOne_len g b x hb
  have h2 := rplAll_len g b hb t
  unfold rplAll at h2 ⊢
  rw [List.flatMap_cons, List.length_append, List.length_cons]
  omega
theorem rplAll_snoc (g : Int) (b l : List Int) (k : Nat) (h : k < l.length) : rplAll g b (l.take (k + 1)) = rplAll g b (l.take k) ++ rplOne g b (rd l (k : Int)) := by
 unfold rplAll
 rw [List.take_succ_eq_append_getElem h, List.flatMap_append]
 simp [rd, List.getD_eq_getElem?_getD, h]
def impl_replaced.f (l0 : List Int) (a1 : Int) (l2 : List Int) : Option (List Int) := if l0.length ≤ 1000 ∧ l2.length ≤ 1000 then some ((rplAll a1 l2 l0).map (lowOne a1)) else none
def lowTo (g : Int) (L : List Int) (k : Nat) : List Int := (L.take k).map (lowOne g) ++ L.drop k
theorem lowTo_len (g : Int) (L : List Int) (k : Nat) : (lowTo g L k).length = L.length := by
 unfold lowTo
 rw [List.length_append, List.length_map, List.length_take, List.length_drop]
 omega
theorem lowTo_rd (g : Int) (L : List Int) (k : Nat) (h : k < L.length) : rd (lowTo g L k) (k : Int) = rd L (k : Int) := by
 unfold rd lowTo
 rw [Int.toNat_natCast, List.getD_eq_getElem?_getD, List.getD_eq_getElem?_getD, List.getElem?_append_right (by rw [List.length_map, List.length_take]; omega), List.length_map, List.length_take, Nat.min_eq_left (by omega), Nat.sub_self, List.getElem?_drop, Nat.add_zero]
theorem lowTo_set (g : Int) (L : List Int) (k : Nat) (h : k < L.length) : (lowTo g L k).set k (lowOne g (rd L (k : Int))) = lowTo g L (k + 1) := by
 have e : rd L (k : Int) = L[k] := by simp [rd, List.getD_eq_getElem?_getD, h]
 unfold lowTo
 rw [e, List.set_append_right _ _ (by rw [List.length_map, List.length_take]; omega), List.length_map, List.length_take, Nat.min_eq_left (by omega), Nat.sub_self, List.drop_eq_getElem_cons h, List.set_cons_zero, List.take_succ_eq_append_getElem h, List.map_append, List.append_assoc]
 rfl
theorem lowTo_keep (g : Int) (L : List Int) (k : Nat) (h : k < L.length) (he : lowOne g (rd L (k : Int)) = rd L (k : Int)) : lowTo g L k = lowTo g L (k + 1) := by
 have e : rd L (k : Int) = L[k] := by simp [rd, List.getD_eq_getElem?_getD, h]
 rw [← lowTo_set g L k h, he, e]
 unfold lowTo
 rw [List.set_append_right _ _ (by rw [List.length_map, List.length_take]; omega), List.length_map, List.length_take, Nat.min_eq_left (by omega), Nat.sub_self, List.drop_eq_getElem_cons h, List.set_cons_zero]
theorem impl_replaced.calls (A0 : Option Addr) (c0 : Nat) (l0 : List Int) (a1 : Int) (A2 : Option Addr) (c2 : Nat) (l2 : List Int) (r : List Int) (w : World) (hr0 : Kd.C (Kd.int .i64) w A0 l0.length l0) (hc0 : l0.length ≤ c0) (hr2 : Kd.C (Kd.int .i64) w A2 l2.length l2) (hc2 : l2.length ≤ c2) (h : impl_replaced.f l0 a1 l2 = some r) :
  Calls Try.prog 127 #[.slice A0 l0.length c0, .int .i64 a1, .slice A2 l2.length c2] w fun e w' => ∃ v0_ : Value, e = .returned (v0_) ∧ Kd.R (Kd.int .i64) 2 w' w.heap.size (fun _ => True) v0_ r ∧ Below w.heap.size w w' := by
 unfold impl_replaced.f at h
 by_cases hT : l0.length ≤ 1000 ∧ l2.length ≤ 1000
 case neg => rw [if_neg hT] at h; exact absurd h (by simp)
 rw [if_pos hT] at h
 obtain rfl := Option.some.inj h
 have hbig := hr0.2.1
 have HR0 := Aside0.mk hr0
 have HR2 := Aside0.mk hr2
 have HC2 := Aside0.mk hc2
 have HT := Aside0.mk hT
 have HI := Aside0.mk fun W (hW : Below w.heap.size w W) => impl_inverse.calls A2 c2 l2 (invWord l2) W (Kd.C_below hr2 hW) hc2 (if_pos (by omega))
 obtain ⟨L, hL⟩ : ∃ L, L = rplAll a1 l2 l0 := ⟨_, rfl⟩
 rw [← hL]
 have HLL := Aside0.mk hL
 clear h hr0 hr2 hc2 hT hc0 hL
 go_enter Try.func127, Try.ntmps127
 go_wp2
 go_loopg [7, 9, 14] l0.length (fun gg s7 _ s14 wr => ∃ (kk m : Nat) (A : Option Addr) (c : Nat), kk ≤ l0.length ∧ l0.length - kk ≤ gg ∧ s14 = .int .i64 kk ∧ s7 = .slice A m c ∧ Aside0 (m = (rplAll a1 l2 (l0.take kk)).length) ∧ Aside0 (Kd.R (Kd.int .i64) 2 wr w.heap.size (fun _ => True) (.slice A m c) (rplAll a1 l2 (l0.take kk))) ∧ Aside0 (Below w.heap.size w wr))
 case atStart => exact ⟨0, 0, none, 0, Nat.zero_le _, by omega, rfl, rfl, ⟨rfl⟩, ⟨Kd.R_nil _ _ _ _ _⟩, ⟨Below.refl _ w⟩⟩
 case round =>
  obtain ⟨kk, m, A, c, hkk, hg, rfl, rfl, HM, HO, HB⟩ := hrel
  by_cases hlt : kk < l0.length
  ·have hltz : (kk : Int) < (l0.length : Int) := by omega
   obtain ⟨ad, e, hx0⟩ := Kd.at_int HR0.out (kk : Int) (by omega) hltz
   cases e
   have hx : wr.cell? (ad.add kk) = some (.int .i64 (rd l0 kk)) := by simpa using cf_ HB hx0
   have HF := Aside0.mk (rplAll_snoc a1 l2 l0 kk hlt)
   have HL := Aside0.mk (show (rplAll a1 l2 (l0.take kk)).length ≤ 1000000 by
    have h1 := rplAll_len a1 l2 HT.out.2 (l0.take kk)
    have h2 : (l0.take kk).length ≤ 1000 := by rw [List.length_take]; have := HT.out.1; omega
    omega)
   clear hx0
   generalize rd l0 (kk : Int) = x at hx HF
   by_cases c1 : x = a1
   ·have c1b : (x == a1) = true := beq_iff_eq.mpr c1
    have HF2 := Aside0.mk (show rplAll a1 l2 (l0.take kk) ++ l2 = rplAll a1 l2 (l0.take (kk + 1)) by rw [HF.out]; unfold rplOne; rw [if_pos c1])
    clear c1 HF
    go_wp2_with (first
     | ((with_reducible refine gate_builtin (b := .append) (xs := #[.tmp 26, .tmp 27]) rfl ?_); at_builtin; refine Kd.R_append_rows (Kd.int .i64) (w0 := w) w.heap.size rfl (.tmp 26) (.tmp 27) 39 2 (.int .i64 0) 8 rfl Try.underlying39 info2 rfl (by decide) (by omega) (.slice A m c) (rplAll a1 l2 (l0.take kk)) l2 _ _ _ (fun _ => True) (fun _ => False) rfl rfl ?aO ?aR (fun _ _ h => h) (fun _ h => h.elim) ?aF ?aB ?aS ?aL ?_; (case aR => exact (Kd.C_below HR2.out HB.out)); (case aB => exact HB.out); (case aF => exact (fun _ _ => trivial)); (case aO => exact HO.out); (case aS => exact (below_size HB.out)); (case aL => have := HL.out; have := HT.out; omega); intro v2 w4 ho hb hg2 hat; rw [HF2.out] at ho; obtain ⟨A3, c3, e3⟩ := Kd.R_slice ho; obtain ⟨m2, hm2⟩ : ∃ m2, m2 = (rplAll a1 l2 (l0.take (kk + 1))).length := ⟨_, rfl⟩; rw [← hm2] at e3; have HM2 := Aside0.mk hm2; clear hm2; subst e3; have HO2 := Aside0.mk ho; have HB2 := Aside0.mk hb; clear ho hb hg2 hat))
    go_roundg (l0.length - (kk + 1))
    case measure => omega
    case rel => exact ⟨kk + 1, m2, A3, c3, by omega, by omega, (by first | rfl | exact congrArg (Value.int .i64) (show wrap64 ((kk : Int) + 1) = ((kk + 1 : Nat) : Int) by unfold wrap64; omega)), rfl, HM2, HO2, HB2⟩
   ·have c1b : (x == a1) = false := beq_eq_false_iff_ne.mpr c1
    by_cases c5 : x = wrap64 (-a1)
    ·have c5b : (x == wrap64 (-a1)) = true := beq_iff_eq.mpr c5
     have HF2 := Aside0.mk (show rplAll a1 l2 (l0.take kk) ++ invWord l2 = rplAll a1 l2 (l0.take (kk + 1)) by rw [HF.out]; unfold rplOne; rw [if_neg c1, if_pos c5])
     clear c1 c5 HF
     go_wp2_with (first
      | (go_at_call 101; refine (HI.out _ HB.out).mono ?_; rintro e w2 ⟨v5, rfl, ho5, hb5⟩; obtain ⟨A5, c5, e5⟩ := Kd.R_slice ho5; obtain ⟨m5, hm5⟩ : ∃ m5, m5 = (invWord l2).length := ⟨_, rfl⟩; rw [← hm5] at e5; subst e5; have HV := Aside0.mk (Kd.R_reads' ho5).2.2; have HOb := Aside0.mk (Kd.R_below HO.out hb5); have HBb := Aside0.mk (HB.out.trans (hb5.mono HB.out.size)); have HM5 := Aside0.mk hm5; clear hm5 ho5 hb5 HO HB)
      | ((with_reducible refine gate_builtin (b := .append) (xs := #[.tmp 34, .tmp 36]) rfl ?_); at_builtin; refine Kd.R_append_rows (Kd.int .i64) (w0 := w) w.heap.size rfl (.tmp 34) (.tmp 36) 39 2 (.int .i64 0) 8 rfl Try.underlying39 info2 rfl (by decide) (by omega) (.slice A m c) (rplAll a1 l2 (l0.take kk)) (invWord l2) _ _ _ (fun _ => True) (fun _ => False) rfl rfl ?aO ?aR (fun _ _ h => h) (fun _ h => h.elim) ?aF ?aB ?aS ?aL ?_; (case aR => rw [HM5.out]; exact HV.out); (case aB => exact HBb.out); (case aF => exact (fun _ _ => trivial)); (case aO => exact HOb.out); (case aS => exact (below_size HBb.out)); (case aL => have := HL.out; have := HT.out; have := HM5.out; rw [invWord_len] at this; omega); intro v2 w4 ho hb hg2 hat; rw [HF2.out] at ho; obtain ⟨A3, c3, e3⟩ := Kd.R_slice ho; obtain ⟨m2, hm2⟩ : ∃ m2, m2 = (rplAll a1 l2 (l0.take (kk + 1))).length := ⟨_, rfl⟩; rw [← hm2] at e3; have HM2 := Aside0.mk hm2; clear hm2; subst e3; have HO2 := Aside0.mk ho; have HB2 := Aside0.mk hb; clear ho hb hg2 hat))
     go_roundg (l0.length - (kk + 1))
     case measure => omega
     case rel => exact ⟨kk + 1, m2, A3, c3, by omega, by omega, (by first | rfl | exact congrArg (Value.int .i64) (show wrap64 ((kk : Int) + 1) = ((kk + 1 : Nat) : Int) by unfold wrap64; omega)), rfl, HM2, HO2, HB2⟩
    ·have c5b : (x == wrap64 (-a1)) = false := beq_eq_false_iff_ne.mpr c5
     have HF2 := Aside0.mk (show rplAll a1 l2 (l0.take kk) ++ [x] = rplAll a1 l2 (l0.take (kk + 1)) by rw [HF.out]; unfold rplOne; rw [if_neg c1, if_neg c5])
     clear c1 c5 HF
     go_wp2_with (first
      | ((with_reducible refine gate_builtin (b := .append) (xs := #[.tmp 18, .tmp 20]) rfl ?_); at_builtin; refine Kd.R_append (Kd.int .i64) (w0 := w) w.heap.size rfl (.tmp 18) (.tmp 20) 39 2 (.int .i64 0) 8 rfl Try.underlying39 info2 rfl (by decide) (by omega) (.slice A m c) (rplAll a1 l2 (l0.take kk)) x [.int .i64 x] (fun _ => True) (fun _ => False) rfl rfl ?aP (fun _ hk => hk.elim) ?aF ?aO ?aB ?aS ?aL ?_; (case aP => exact rfl); (case aB => exact HB.out); (case aF => exact (fun _ _ => trivial)); (case aO => exact HO.out); (case aS => exact (below_size HB.out)); (case aL => have := HL.out; omega); intro v2 w4 ho hb hg2 hat; rw [HF2.out] at ho; obtain ⟨A3, c3, e3⟩ := Kd.R_slice ho; obtain ⟨m2, hm2⟩ : ∃ m2, m2 = (rplAll a1 l2 (l0.take (kk + 1))).length := ⟨_, rfl⟩; rw [← hm2] at e3; have HM2 := Aside0.mk hm2; clear hm2; subst e3; have HO2 := Aside0.mk ho; have HB2 := Aside0.mk hb; clear ho hb hg2 hat))
     go_roundg (l0.length - (kk + 1))
     case measure => omega
     case rel => exact ⟨kk + 1, m2, A3, c3, by omega, by omega, (by first | rfl | exact congrArg (Value.int .i64) (show wrap64 ((kk : Int) + 1) = ((kk + 1 : Nat) : Int) by unfold wrap64; omega)), rfl, HM2, HO2, HB2⟩
  ·have hltz : ¬ (kk : Int) < (l0.length : Int) := by omega
   have hk : kk = l0.length := by omega
   subst hk
   rw [List.take_length] at HM HO
   have HL := Aside0.mk (show m ≤ 1000000 by
    have h1 := rplAll_len a1 l2 HT.out.2 l0
    have h2 := HT.out.1
    have h3 := HM.out
    omega)
   rw [← HLL.out] at HM HO
   clear HLL
   go_wp2
   have HO0 := Aside0.mk (show Kd.R (Kd.int .i64) 2 wr w.heap.size (fun _ => True) (.slice A m c) (lowTo a1 L 0) by simpa [lowTo] using HO.out)
   go_loopg [10, 11, 41] m (fun gg _ _ s41 wr => ∃ kk : Nat, kk ≤ m ∧ m - kk ≤ gg ∧ s41 = .int .i64 kk ∧ Aside0 (Kd.R (Kd.int .i64) 2 wr w.heap.size (fun _ => True) (.slice A m c) (lowTo a1 L kk)) ∧ Aside0 (Below w.heap.size w wr))
   case atStart => exact ⟨0, Nat.zero_le _, by omega, rfl, HO0, HB⟩
   case round =>
    clear HO HB HO0
    obtain ⟨kk, hkk, hg, rfl, HO, HB⟩ := hrel
    by_cases hlt : kk < m
    ·have hltz : (kk : Int) < (m : Int) := by omega
     have hml := HM.out
     have hll := lowTo_len a1 L kk
     have hm64 := HL.out
     obtain ⟨g0, cap0, e0, gb, gl, cl, HG⟩ := Kd.R_form HO.out (by omega)
     injection e0 with e1 e2 e3
     subst e1 e3
     obtain ⟨hx0, hf0⟩ := Kd.R_celln 0 HO.out (kk : Int) (by omega) hltz
     have hrd := lowTo_rd a1 L kk (by omega)
     have hx : wr.cell? ⟨g0, kk, none⟩ = some (.int .i64 (rd L (kk : Int))) := by rw [← hrd]; simp at hx0; exact hx0
     have hfz : wr.frozen? ⟨g0, kk, none⟩ = false := by simpa using hf0
     have HGB := Aside0.mk gb
     have HS1 := Aside0.mk (fun h => lowTo_keep a1 L kk (by omega) h)
     have HS2 := Aside0.mk (lowTo_set a1 L kk (by omega))
     have hca := fun W => impl_abs.calls (rd L (kk : Int)) (absI (rd L (kk : Int))) W (absI_f _)
     have hcs := fun W => impl_sign.calls (rd L (kk : Int)) (sgnI (rd L (kk : Int))) W (sgnI_f _)
     clear e2 hx0 hf0 hrd gb gl cl HG hml hll hm64
     generalize rd L (kk : Int) = x at hx HS1 HS2 hca hcs
     by_cases c1 : a1 < absI x
     ·have c1b : decide (a1 < absI x) = true := decide_eq_true c1
      have HE := Aside0.mk (show lowOne a1 x = wrap64 (x - sgnI x) by unfold lowOne; rw [if_pos c1])
      clear c1 HS1
      go_upto_region 15 with (first | (go_at_call 76; refine (hca _).mono ?_; rintro e w4 ⟨rfl, ⟨nd, rfl⟩⟩))
      have HO2 := Aside0.mk (Kd.R_drew (Kd.R_drewN HO.out nd))
      have HB2 := Aside0.mk (below_drew1 (pw_below_drewN HB.out nd))
      have hx2 : (wr.drewN nd).drew.cell? ⟨g0, kk, none⟩ = some (.int .i64 x) := hx
      have hf2 : (wr.drewN nd).drew.frozen? ⟨g0, kk, none⟩ = false := hfz
      clear HO HB hx hfz
      refine start_ (n := 9) (S := fun w' => w'.cell? ⟨g0, kk, none⟩ = some (.int .i64 x)) (ds := [8]) (kA_ 9 0) (by kernel_rfl) rfl (by kernel_rfl) hx2 (fun hHeld => ?_)
      generalize (wr.drewN nd).drew = w6 at HO2 HB2 hx2 hf2 hHeld ⊢
      refine kz_ 0 50 (kA_ 9 1) ?_
      refine kz_ 1 51 (kA_ 9 3) ?_
      refine kz_ 2 52 (kA_ 9 7) ?_
      refine kt_ 3 53 (kA_ 9 15) hHeld ?_
      refine kz_ 4 54 (kA_ 9 31) ?_
      refine oa_ 5 55 (kA_ 9 63) (fun K hK => ?_)
      go_simp
      go_at_call 135
      refine (hcs _).mono ?_
      rintro e w5 ⟨rfl, ⟨nd2, rfl⟩⟩
      have HO3 := Aside0.mk (Kd.R_drewN HO2.out nd2)
      have HB3 := Aside0.mk (pw_below_drewN HB2.out nd2)
      have hx3 : (w6.drewN nd2).cell? ⟨g0, kk, none⟩ = some (.int .i64 x) := hx2
      have hf3 : (w6.drewN nd2).frozen? ⟨g0, kk, none⟩ = false := hf2
      clear HO2 HB2 hx2 hf2
      refine hK.out _ _ hx3 (fun hHeld2 => ?_)
      clear hK K hHeld
      generalize w6.drewN nd2 = w7 at HO3 HB3 hx3 hf3 hHeld2 ⊢
      refine kz_ 6 56 (kA_ 9 127) ?_
      refine kz_ 7 57 (kA_ 9 255) ?_
      refine last_ (i := 8) (N := none) (kA_ 9 511) rfl rfl (by kernel_rfl) (by decide) (fun K hK => ?_)
      refine skip_ (w1 := ?_) (by rfl) rfl ?_ ?_
      rotate_left
      ·go_simp
       rfl
      refine hK.out _ _ ?_
      clear hK K
      refine done_ (by kernel_rfl) ?_
      have HP := Kd.R_putg HO3.out (kk : Int) (wrap64 (x - sgnI x))
      have HO4 := Aside0.mk (show Kd.R (Kd.int .i64) 2 (w7.setCell ⟨g0, kk, none⟩ (.int .i64 (wrap64 (x - sgnI x)))) w.heap.size (fun _ => True) (.slice (some ⟨g0, 0, none⟩) m c) (lowTo a1 L (kk + 1)) by rw [← HS2.out, HE.out]; exact HP.1)
      have HB4 := Aside0.mk (below_set HB3.out HGB.out : Below w.heap.size w (w7.setCell ⟨g0, kk, none⟩ (.int .i64 (wrap64 (x - sgnI x)))))
      clear HP hx3 hf3 HO3 HB3 hHeld2
      generalize (w7.setCell ⟨g0, kk, none⟩ (.int .i64 (wrap64 (x - sgnI x)))) = w8 at HO4 HB4 ⊢
      go_wp2
      go_roundg (m - (kk + 1))
      case measure => omega
      case rel => exact ⟨kk + 1, by omega, by omega, (by first | rfl | exact congrArg (Value.int .i64) (show wrap64 ((kk : Int) + 1) = ((kk + 1 : Nat) : Int) by have := HL.out; unfold wrap64; omega)), HO4, HB4⟩
     ·have c1b : decide (a1 < absI x) = false := decide_eq_false c1
      have HE := Aside0.mk (HS1.out (by unfold lowOne; rw [if_neg c1]))
      clear c1 HS1 HS2
      go_wp2_with (first | (go_at_call 76; refine (hca _).mono ?_; rintro e w4 ⟨rfl, ⟨nd, rfl⟩⟩))
      go_roundg (m - (kk + 1))
      case measure => omega
      case rel => exact ⟨kk + 1, by omega, by omega, (by first | rfl | exact congrArg (Value.int .i64) (show wrap64 ((kk : Int) + 1) = ((kk + 1 : Nat) : Int) by have := HL.out; unfold wrap64; omega)), ⟨by rw [← HE.out]; exact Kd.R_drewN HO.out nd⟩, ⟨pw_below_drewN HB.out nd⟩⟩
    ·have hltz : ¬ (kk : Int) < (m : Int) := by omega
     have hk : kk = m := by omega
     subst hk
     have HO2 := Aside0.mk (show Kd.R (Kd.int .i64) 2 wr w.heap.size (fun _ => True) (.slice A kk c) (L.map (lowOne a1)) by
      have h := HO.out
      rw [HM.out] at h
      unfold lowTo at h
      rw [List.take_length, List.drop_length, List.append_nil] at h
      rw [HM.out]
      exact h)
     clear HO
     go_wp2
     go_ret
     exact ⟨_, rfl, HO2.out, HB.out⟩

end Go.Proofs.Ytbcdngjajjgmkaa.PFnExactSimplifyPresentation
