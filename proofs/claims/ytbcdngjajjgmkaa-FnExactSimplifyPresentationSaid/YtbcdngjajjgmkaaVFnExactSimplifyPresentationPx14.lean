/- Written by this session's program out of the kit's print and this session's contracts. -/
import Derived.Test.YtbcdngjajjgmkaaVFnExactSimplifyPresentationPx0
import Derived.Test.YtbcdngjajjgmkaaVFnExactSimplifyPresentationPx11
import Derived.Test.YtbcdngjajjgmkaaVFnExactSimplifyPresentationPx12
import Derived.Test.YtbcdngjajjgmkaaVFnExactSimplifyPresentationPx13
namespace Go.Proofs.Ytbcdngjajjgmkaa.PFnExactSimplifyPresentation
open Go.RowKit Go.Proofs.YtbcdngjajjgmkaaW.PrintWords Go.Proofs.YtbcdngjajjgmkaaW.PrintLast Go.Proofs.YtbcdngjajjgmkaaW.PrintMore
set_option maxHeartbeats 16000000
set_option maxRecDepth 1000000
set_option linter.unusedVariables false
set_option linter.unusedSimpArgs false

/-! ### impl_removed: function 104 -/
/-- Four blocks of structs and a list of rows of the call's own, as impl.removed and impl.moved carry them. -/
def FR (w : World) (b2 b3 b4 b5 : Nat) (P M : Array Value) (g : Int) (u : Value) (rows : List (List Int)) (W : World) : Prop :=
  W.heap[b2]? = some (.cells P 28 (0, 0)) ∧ W.heap[b3]? = some (.cells M 44 (0, 0)) ∧ W.heap[b4]? = some (.cells #[.int .i64 0, .slice none 0 0] 28 (0, 0)) ∧ W.heap[b5]? = some (.cells #[.int .i64 g, u] 28 (0, 0)) ∧
    Kd.S (Kd.slice 2 (Kd.int .i64)) 39 W w.heap.size (fun _ => True) u rows ∧ Below w.heap.size w W
def FD (w : World) (b2 b3 b4 b5 : Nat) : Prop := b2 ≠ b5 ∧ b3 ≠ b5 ∧ b4 ≠ b5 ∧ w.heap.size ≤ b4 ∧ w.heap.size ≤ b5
section
variable {w W W1 : World} {b2 b3 b4 b5 : Nat} {P M : Array Value} {g : Int} {u v : Value} {rows : List (List Int)}
theorem FR.p (h : FR w b2 b3 b4 b5 P M g u rows W) : W.heap[b2]? = some (.cells P 28 (0, 0)) := h.1
theorem FR.m (h : FR w b2 b3 b4 b5 P M g u rows W) : W.heap[b3]? = some (.cells M 44 (0, 0)) := h.2.1
theorem FR.z (h : FR w b2 b3 b4 b5 P M g u rows W) : W.heap[b4]? = some (.cells #[.int .i64 0, .slice none 0 0] 28 (0, 0)) := h.2.2.1
theorem FR.o (h : FR w b2 b3 b4 b5 P M g u rows W) : W.heap[b5]? = some (.cells #[.int .i64 g, u] 28 (0, 0)) := h.2.2.2.1
theorem FR.s (h : FR w b2 b3 b4 b5 P M g u rows W) : Kd.S (Kd.slice 2 (Kd.int .i64)) 39 W w.heap.size (fun _ => True) u rows := h.2.2.2.2.1
theorem FR.b (h : FR w b2 b3 b4 b5 P M g u rows W) : Below w.heap.size w W := h.2.2.2.2.2
theorem FR.below (h : FR w b2 b3 b4 b5 P M g u rows W) (hb : Below W.heap.size W W1) : FR w b2 b3 b4 b5 P M g u rows W1 :=
  ⟨blk_below h.p hb, blk_below h.m hb, blk_below h.z hb, blk_below h.o hb, Kd.S_below h.s hb, below_step h.b hb⟩
/-- The list has grown by a row, and the block of the result tells the new list. -/
theorem FR.app {t : List Int} (hd : FD w b2 b3 b4 b5) (h : FR w b2 b3 b4 b5 P M g u rows W) (ho : Kd.S (Kd.slice 2 (Kd.int .i64)) 39 W1 w.heap.size (fun _ => True) v (rows ++ [t])) (hb : Below w.heap.size w W1) (hg : W.grownBy W1 u.ownBlock) :
    FR w b2 b3 b4 b5 P M g v (rows ++ [t]) (W1.setCell ⟨b5, 1, none⟩ v) := by
  have k2 := blk_grown h.p hg (Kd.S_ne h.s h.p (by decide))
  have k3 := blk_grown h.m hg (Kd.S_ne h.s h.m (by decide))
  have k4 := blk_grown h.z hg (Kd.S_ne h.s h.z (by decide))
  have k5 := blk_grown h.o hg (Kd.S_ne h.s h.o (by decide))
  exact ⟨blk_far k2 hd.1 _, blk_far k3 hd.2.1 _, blk_far k4 hd.2.2.1 _, blk_put k5 1 v rfl, Kd.S_set ho k5 (by decide) 1 v, below_set hb hd.2.2.2.2⟩
/-- A row of its own stands by itself through a growth of the list, and through the store behind it. -/
theorem FR.keep {x : Value} {xs : List Int} (h : FR w b2 b3 b4 b5 P M g u rows W) (hx : Kd.R (Kd.int .i64) 2 W w.heap.size (fun _ => True) x xs) (hg : W.grownBy W1 u.ownBlock) (v : Value) :
    Kd.R (Kd.int .i64) 2 (W1.setCell ⟨b5, 1, none⟩ v) w.heap.size (fun _ => True) x xs :=
  Kd.R_set (Kd.R_over' hx (Kd.S_typed h.s) (by decide) hg) (blk_grown h.o hg (Kd.S_ne h.s h.o (by decide))) (by decide) 1 v
end
theorem two_rows {W : World} {b : Nat} {A1 A2 : Option Addr} {c1 c2 : Nat} {r1 r2 : List Int} {t : Nat} (hb : W.heap[b]? = some (.cells #[.slice A1 r1.length c1, .slice A2 r2.length c2] t (0, 0))) (h1 : Kd.C (Kd.int .i64) W A1 r1.length r1) (h2 : Kd.C (Kd.int .i64) W A2 r2.length r2) (g1 : r1.length ≤ c1) (g2 : r2.length ≤ c2) :
    Kd.C (Kd.slice 2 (Kd.int .i64)) W (some ⟨b, 0, none⟩) [r1, r2].length [r1, r2] := by
  refine ⟨rfl, by simp, fun _ => ⟨_, rfl, fun j p hj => ?_⟩⟩
  match j, hj with
  | 0, hj =>
    obtain rfl := Option.some.inj hj
    refine ⟨[.slice A1 r1.length c1], rfl, ⟨A1, c1, rfl, g1, h1⟩, fun i u hu => ?_⟩
    match i, hu with
    | 0, hu =>
      obtain rfl := Option.some.inj hu
      rw [add_plain]
      exact (blk_cell hb 0).trans rfl
  | 1, hj =>
    obtain rfl := Option.some.inj hj
    refine ⟨[.slice A2 r2.length c2], rfl, ⟨A2, c2, rfl, g2, h2⟩, fun i u hu => ?_⟩
    match i, hu with
    | 0, hu =>
      obtain rfl := Option.some.inj hu
      rw [add_plain]
      exact (blk_cell hb 1).trans rfl
theorem FR.start {w W : World} {b2 b3 b4 b5 : Nat} {P M : Array Value} (hd : FD w b2 b3 b4 b5) (p : W.heap[b2]? = some (.cells P 28 (0, 0))) (m : W.heap[b3]? = some (.cells M 44 (0, 0))) (z : W.heap[b4]? = some (.cells #[.int .i64 0, .slice none 0 0] 28 (0, 0)))
    (o : W.heap[b5]? = some (.cells #[.int .i64 0, .slice none 0 0] 28 (0, 0))) (hb : Below w.heap.size w W) (g : Int) :
    FR w b2 b3 b4 b5 P M g (.slice none 0 0) [] ((W.setCell ⟨b5, 0, none⟩ (.int .i64 g)).setCell ⟨b5, 1, none⟩ (.slice none 0 0)) :=
  ⟨blk_far (blk_far p hd.1 _) hd.1 _, blk_far (blk_far m hd.2.1 _) hd.2.1 _, blk_far (blk_far z hd.2.2.1 _) hd.2.2.1 _, blk_put (blk_put o 0 _ rfl) 1 _ rfl, Kd.S_nil _ _ _ _ _, below_set (below_set hb hd.2.2.2.2) hd.2.2.2.2⟩
theorem R_two {W : World} {base b5 : Nat} {cs : Array Value} {x : Value} {xs : List Int} (o : W.heap[b5]? = some (.cells cs 28 (0, 0))) (h : Kd.R (Kd.int .i64) 2 W base (fun _ => True) x xs) (u v : Value) :
    Kd.R (Kd.int .i64) 2 ((W.setCell ⟨b5, 0, none⟩ u).setCell ⟨b5, 1, none⟩ v) base (fun _ => True) x xs :=
  Kd.R_set (Kd.R_set h o (by decide) 0 u) (blk_put o 0 u rfl) (by decide) 1 v
theorem removed_lit (x j : Int) (B : Nat) (w : World) (hc : w.cell? ⟨B, 2, none⟩ = some (.int .i64 j)) :
    Calls Try.prog 126 #[.int .i64 x, .pointer (some ⟨B, 0, none⟩)] w fun e w' => e = .returned (.bool (absI x == j)) ∧ Drawn0 w w' := by
  have ha : ∀ W : World, Calls Try.prog 76 #[.int .i64 x] W fun e w' => e = .returned (.int .i64 (absI x)) ∧ w' = W := fun W => abs_quiet x W
  go_enter Try.func126, Try.ntmps126
  go_wp2
  go_quiet ((go_at_call 76; exact Calls.quiet_of_same (ha _)))
  go_wp2
  go_ret
  exact ⟨rfl, by repeat (first | exact Drawn0.refl _ | apply Drawn0.step)⟩
theorem idxOf_lt {α : Type} (p : α → Bool) : ∀ (l : List α) (i : Int), 0 ≤ i → 0 ≤ idxOf p l i → i ≤ idxOf p l i ∧ idxOf p l i < i + l.length
  | [], i, _, h => by simp [idxOf] at h
  | x :: r, i, h0, h => by
    unfold idxOf at h ⊢
    by_cases c : p x = true
    · rw [if_pos c]
      simp only [List.length_cons]
      omega
    · rw [if_neg c] at h ⊢
      have := idxOf_lt p r (i + 1) (by omega) h
      simp only [List.length_cons]
      omega
/-- The word that stands for the generator. -/
def rmBy (w : List Int) (a : Nat) : List Int := if 0 < rd w (a : Int) then invWord (w.drop (a + 1) ++ w.take a) else w.drop (a + 1) ++ w.take a
def rmOk (l : List (List Int)) (i j : Int) : Prop := 0 ≤ i ∧ i < l.length ∧ l.length ≤ 1000 ∧ (∀ r ∈ l, r.length ≤ 1000) ∧ 0 ≤ idxOf (fun x => absI x == j) (rd_L1 l i) 0
instance (l : List (List Int)) (i j : Int) : Decidable (rmOk l i j) := by unfold rmOk; infer_instance
def rmRow (j : Int) (b v : List Int) : List Int := (rplAll j b v).map (lowOne j)
def impl_removed.f (a0_0 : Int) (l0_1 : List (List Int)) (a1_0 : Int) (a1_1 : Int) (a1_2 : Int) (l1_3 : List Int) : Option (Int × List (List Int)) :=
  if rmOk l0_1 a1_1 a1_2 then some (wrap64 (a0_0 - 1), (l0_1.eraseIdx a1_1.toNat).map (rmRow a1_2 (rmBy (rd_L1 l0_1 a1_1) (idxOf (fun x => absI x == a1_2) (rd_L1 l0_1 a1_1) 0).toNat))) else none
theorem erase_same {α : Type} (l : List α) (k : Nat) (h : k < l.length) : (l.take (k + 1)).eraseIdx k = (l.take k).eraseIdx k := by
  rw [List.take_succ_eq_append_getElem h, List.eraseIdx_append_of_length_le (by rw [List.length_take]; omega), List.length_take, Nat.min_eq_left (by omega), Nat.sub_self, List.eraseIdx_zero, List.tail_cons, List.append_nil, List.eraseIdx_of_length_le (by rw [List.length_take]; omega)]
theorem erase_next {α : Type} (l : List α) (i k : Nat) (h : k < l.length) (hne : k ≠ i) : (l.take (k + 1)).eraseIdx i = (l.take k).eraseIdx i ++ [l[k]] := by
  rw [List.take_succ_eq_append_getElem h]
  by_cases c : i < (l.take k).length
  · rw [List.eraseIdx_append_of_lt_length c]
  · have hk : (l.take k).length = k := by rw [List.length_take]; omega
    rw [List.eraseIdx_append_of_length_le (by omega), List.eraseIdx_of_length_le (l := l.take k) (by omega), List.eraseIdx_of_length_le (l := [l[k]]) (by rw [hk]; simp; omega)]
def rmTo (j : Int) (b : List Int) (l : List (List Int)) (i k : Nat) : List (List Int) := ((l.take k).eraseIdx i).map (rmRow j b)
theorem rmTo_same (j : Int) (b : List Int) (l : List (List Int)) (k : Nat) (h : k < l.length) : rmTo j b l k (k + 1) = rmTo j b l k k := by unfold rmTo; rw [erase_same l k h]
theorem rmTo_next (j : Int) (b : List Int) (l : List (List Int)) (i k : Nat) (h : k < l.length) (hne : k ≠ i) : rmTo j b l i (k + 1) = rmTo j b l i k ++ [rmRow j b l[k]] := by unfold rmTo; rw [erase_next l i k h hne, List.map_append]; rfl
theorem rmTo_all (j : Int) (b : List Int) (l : List (List Int)) (i : Nat) : rmTo j b l i l.length = (l.eraseIdx i).map (rmRow j b) := by unfold rmTo; rw [List.take_length]
theorem rmTo_len (j : Int) (b : List Int) (l : List (List Int)) (i k : Nat) : (rmTo j b l i k).length ≤ l.length := by
  unfold rmTo
  rw [List.length_map]
  exact Nat.le_trans (List.length_eraseIdx_le _ _) (by rw [List.length_take]; exact Nat.min_le_right _ _)
theorem rmBy_len (w : List Int) (a : Nat) (h : w.length ≤ 1000) (ha : a < w.length) : (rmBy w a).length ≤ 1000 := by
  unfold rmBy
  split
  · rw [invWord_len]; simp; omega
  · simp; omega
theorem impl_removed.calls (a0_0 : Int) (A0_1 : Option Addr) (c0_1 : Nat) (l0_1 : List (List Int)) (a1_0 : Int) (a1_1 : Int) (a1_2 : Int) (A1_3 : Option Addr) (c1_3 : Nat) (l1_3 : List Int) (r1 : Int) (r2 : List (List Int)) (w : World) (hr0_1 : Kd.C (Kd.slice 2 (Kd.int .i64)) w A0_1 l0_1.length l0_1) (hc0_1 : l0_1.length ≤ c0_1) (hr1_3 : Kd.C (Kd.int .i64) w A1_3 l1_3.length l1_3) (hc1_3 : l1_3.length ≤ c1_3) (h : impl_removed.f a0_0 l0_1 a1_0 a1_1 a1_2 l1_3 = some (r1, r2)) :
    Calls Try.prog 104 #[.agg #[.int .i64 a0_0, .slice A0_1 l0_1.length c0_1], .agg #[.int .i64 a1_0, .int .i64 a1_1, .int .i64 a1_2, .slice A1_3 l1_3.length c1_3]] w fun e w' => ∃ v0_ : Value, e = .returned (.agg #[.int .i64 r1, v0_]) ∧ Kd.S (Kd.slice 2 (Kd.int .i64)) 39 w' w.heap.size (fun _ => True) v0_ r2 ∧ Below w.heap.size w w' := by
  unfold impl_removed.f at h
  by_cases hT : rmOk l0_1 a1_1 a1_2
  case neg => rw [if_neg hT] at h; exact absurd h (by simp)
  rw [if_pos hT] at h
  obtain ⟨rfl, rfl⟩ := Prod.mk.inj (Option.some.inj h)
  clear h hr1_3 hc1_3 hc0_1
  have hbig := hr0_1.2.1
  obtain ⟨hi0, hi1, hlen, hrl, hix⟩ := hT
  obtain ⟨i, rfl⟩ : ∃ i : Nat, a1_1 = i := ⟨a1_1.toNat, by omega⟩
  have hi : i < l0_1.length := by omega
  obtain ⟨row, hrow⟩ : ∃ row, row = rd_L1 l0_1 (i : Int) := ⟨_, rfl⟩
  have hrow2 : l0_1[i] = row := by rw [hrow]; simp [rd_L1, hi]
  rw [← hrow] at hix ⊢
  obtain ⟨at_, hat⟩ : ∃ a : Nat, idxOf (fun x => absI x == a1_2) row 0 = (a : Int) := ⟨(idxOf (fun x => absI x == a1_2) row 0).toNat, by omega⟩
  have hatl := (idxOf_lt (fun x => absI x == a1_2) row 0 (by omega) hix).2
  rw [hat, Int.zero_add] at hatl
  have hatn : at_ < row.length := by omega
  have hrowl : row.length ≤ 1000 := by rw [← hrow2]; exact hrl _ (List.getElem_mem hi)
  rw [hat, Int.toNat_natCast, Int.toNat_natCast]
  obtain ⟨ad, Ar, cr, ea, hx0, hcr, hCr⟩ := at_rowC hr0_1 i hi
  cases ea
  rw [hrow2] at hx0 hcr hCr
  obtain ⟨adr, er, hxat⟩ := Kd.at_int hCr (at_ : Int) (by omega) (by omega)
  cases er
  have HXAT := Aside0.mk hxat
  obtain ⟨by_, hby⟩ : ∃ b, b = rmBy row at_ := ⟨_, rfl⟩
  have HBYL := Aside0.mk (show by_.length ≤ 1000 by rw [hby]; exact rmBy_len row at_ hrowl hatn)
  have HBY := Aside0.mk hby
  rw [← hby, ← rmTo_all]
  have HR0 := Aside0.mk hr0_1
  have HCR := Aside0.mk hCr
  have HCRL := Aside0.mk hcr
  have HX0 := Aside0.mk hx0
  have HLEN := Aside0.mk (And.intro hlen hrl)
  have HI := Aside0.mk hi
  have HAT := Aside0.mk (And.intro hat (And.intro hatn hrowl))
  have p1 : (0 ≤ (i : Int)) = True := eq_true (by omega)
  have p2 : ((i : Int) < (l0_1.length : Int)) = True := eq_true (by omega)
  clear hr0_1 hCr hcr hx0 hxat hlen hrl hi hat hatl hatn hrowl hby hi0 hi1 hix hrow hrow2
  go_enter Try.func104, Try.ntmps104
  go_wp2_with (first
    | (refine be_ 2 28 #[.int .i64 a0_0, .slice (some ad) l0_1.length c0_1] ?_; intro b2 hg w2 hbox hb; have B2 := Aside0.mk hbox; have G2 := Aside0.mk (show w.heap.size ≤ b2 by rw [hg]; exact Nat.le_refl _); have HB2 := Aside0.mk hb; clear hg hbox hb)
    | (refine be_ 3 44 #[.int .i64 a1_0, .int .i64 (i : Int), .int .i64 a1_2, .slice A1_3 l1_3.length c1_3] ?_; intro b3 hg w3 hbox hb; have B23 := Aside0.mk (blk_below B2.out hb); have G3 := Aside0.mk (show w.heap.size ≤ b3 by rw [hg]; exact HB2.out.size); have B3 := Aside0.mk hbox; have HB3 := Aside0.mk (below_step HB2.out hb); clear hg hbox hb B2 HB2)
    | (refine be_ 4 28 #[.int .i64 0, .slice none 0 0] ?_; intro b4 hg w4 hbox hb; have B24 := Aside0.mk (blk_below B23.out hb); have B34 := Aside0.mk (blk_below B3.out hb); have G4 := Aside0.mk (show w.heap.size ≤ b4 by rw [hg]; exact HB3.out.size); have B4 := Aside0.mk hbox; have HB4 := Aside0.mk (below_step HB3.out hb); have N24 := Aside0.mk (show b2 ≠ b4 by rw [hg]; exact Nat.ne_of_lt (blk_lt B23.out)); have N34 := Aside0.mk (show b3 ≠ b4 by rw [hg]; exact Nat.ne_of_lt (blk_lt B3.out)); clear hg hbox hb B23 B3 HB3; have q21 : w4.cell? ⟨b2, 1, none⟩ = some (.slice (some ad) l0_1.length c0_1) := (blk_cell B24.out 1).trans rfl; have q31 : w4.cell? ⟨b3, 1, none⟩ = some (.int .i64 (i : Int)) := (blk_cell B34.out 1).trans rfl; have q32 : w4.cell? ⟨b3, 2, none⟩ = some (.int .i64 a1_2) := (blk_cell B34.out 2).trans rfl; have qr : w4.cell? (ad.add i) = some (.slice (some adr) row.length cr) := (HB4.out.cell (World.block_lt_of_cell? w _ HX0.out)).trans HX0.out; have HIX0 := (indexInts 126 #[.pointer (some ⟨b3, 0, none⟩)] (Go.Proofs.enters_of Try.func126 (by kernel_rfl) rfl) (fun x => absI x == a1_2) (some adr) cr row w4 (Kd.C_below HCR.out HB4.out) (fun W' x _ hb' => (removed_lit x a1_2 b3 W' ((hb'.cell (p := ⟨b3, 2, none⟩) (blk_lt B34.out)).trans q32)).mono fun _ _ ⟨he, hd⟩ => ⟨he, hd.below⟩)); rw [HAT.out.1] at HIX0; have HIX := Aside0.mk HIX0; clear HIX0)
    | (go_at_call 125; refine HIX.out.mono ?_; rintro e w5 ⟨rfl, hb⟩; have HB5 := Aside0.mk (below_step HB4.out hb); have B25 := Aside0.mk (blk_below B24.out hb); have B35 := Aside0.mk (blk_below B34.out hb); have B45 := Aside0.mk (blk_below B4.out hb); clear hb q21 q31 q32 qr HB4 B24 B34 B4 HIX))
  obtain ⟨ji, hji⟩ : ∃ j_ : Int, wrap64 ((at_ : Int) + 1) = j_ := ⟨_, rfl⟩
  have hjiw : IntKind.i64.wrap ((at_ : Int) + 1) = ji := (i64_w _).trans hji
  have hjn : ji = ((at_ + 1 : Nat) : Int) := by rw [← hji]; have := HAT.out.2; unfold wrap64; omega
  obtain ⟨i01, hi01, _, hsz1, _⟩ := info_parts info2
  obtain ⟨A8, hcut8, hA8, hC8⟩ := print_drop_of (P := Try.prog) (Value.int .i64) 0 39 2 .i64 Try.underlying39 hi01 hsz1 (some adr) cr row ji (by rw [hjn]; omega) (by rw [hjn]; have := HAT.out.2.1; omega) HCRL.out
  obtain ⟨hcut9, hA9, hC9⟩ := print_take_of (P := Try.prog) (Value.int .i64) 0 39 2 .i64 Try.underlying39 hi01 hsz1 (some adr) cr row (at_ : Int) (by omega) (by have := HAT.out.2.1; omega) HCRL.out
  have HR8 := Aside0.mk fun W (hW : Below w.heap.size w W) => Kd.C_of_reads (h1 := fun _ => rfl) (hA8 _ (Kd.reads_of_C (Kd.C_below HCR.out hW)))
  have HR9 := Aside0.mk fun W (hW : Below w.heap.size w W) => Kd.C_of_reads (h1 := fun _ => rfl) (hA9 _ (Kd.reads_of_C (Kd.C_below HCR.out hW)))
  clear hA8 hA9 hi01 hsz1
  have HJN := Aside0.mk (show row.drop ji.toNat ++ row.take (at_ : Int).toNat = row.drop (at_ + 1) ++ row.take at_ by rw [hjn, Int.toNat_natCast, Int.toNat_natCast])
  generalize row.drop ji.toNat = r8 at hcut8 HR8 hC8 HJN
  generalize row.take (at_ : Int).toNat = r9 at hcut9 HR9 hC9 HJN
  obtain ⟨by0, hby0⟩ : ∃ b, b = row.drop (at_ + 1) ++ row.take at_ := ⟨_, rfl⟩
  rw [← hby0] at HJN
  have HBY0 := Aside0.mk hby0
  have HB0L := Aside0.mk (show by0.length ≤ 1000 by rw [hby0]; have := HAT.out.2; simp; omega)
  have HCC := Aside0.mk fun (W : World) (b : Nat) (hb : W.heap[b]? = some (.cells #[.slice A8 r8.length (cr - ji.toNat), .slice (some adr) r9.length cr] 39 (0, 0))) (hW : Below w.heap.size w W) => slices_Concat_int64_int64.calls (some ⟨b, 0, none⟩) 2 [r8, r9] by0 W (two_rows hb (HR8.out W hW) (HR9.out W hW) hC8 hC9) (Nat.le_refl 2) (by
    have e : [r8, r9].flatten = by0 := by rw [← HJN.out]; simp
    unfold slices_Concat_int64_int64.f
    rw [e, if_pos (by have := HB0L.out; omega)])
  clear hby0 hjn hC8 hC9 HR8 HR9
  have HB6 := Aside0.mk (below_drew1 HB5.out)
  have B26 := Aside0.mk (blk_drew B25.out)
  have B36 := Aside0.mk (blk_drew B35.out)
  have B46 := Aside0.mk (blk_drew B45.out)
  refine start_ (n := 10) (S := fun _ => True) (ds := []) (kA_ 10 0) (by kernel_rfl) rfl (by kernel_rfl) trivial (fun hHeld => ?_)
  clear HB5 B25 B35 B45
  generalize w5.drew = w6 at HB6 B26 B36 B46 ⊢
  refine kz_ 0 20 (kA_ 10 1) ?_
  refine kz_ 1 21 (kA_ 10 3) ?_
  refine kz_ 2 22 (kA_ 10 7) ?_
  refine kz_ 3 23 (kA_ 10 15) ?_
  refine kz_ 4 24 (kA_ 10 31) ?_
  refine kz_ 5 25 (kA_ 10 63) ?_
  refine kz_ 6 26 (kA_ 10 127) ?_
  refine oa_ 7 27 (kA_ 10 255) (fun K hK => ?_)
  refine value_ (w1 := ?_) (v := ?_) (by rfl) rfl ?_ ?_
  rotate_left 2
  · go_simp
    constructor
    · rfl
    · rfl
  have B7 := Aside0.mk (blk_new w6 (.cells #[.slice A8 r8.length (cr - ji.toNat), .slice (some adr) r9.length cr] 39))
  have HB7 := Aside0.mk (below_alloc HB6.out (.cells #[.slice A8 r8.length (cr - ji.toNat), .slice (some adr) r9.length cr] 39))
  have B27 := Aside0.mk (blk_alloc B26.out (.cells #[.slice A8 r8.length (cr - ji.toNat), .slice (some adr) r9.length cr] 39))
  have B37 := Aside0.mk (blk_alloc B36.out (.cells #[.slice A8 r8.length (cr - ji.toNat), .slice (some adr) r9.length cr] 39))
  have B47 := Aside0.mk (blk_alloc B46.out (.cells #[.slice A8 r8.length (cr - ji.toNat), .slice (some adr) r9.length cr] 39))
  refine hK.out _ _ trivial (fun hHeld => ?_)
  clear hK K
  refine nm_ 27 ?_
  refine oa_ 8 28 (kA_ 10 511) (fun K hK => ?_)
  go_simp
  go_at_call 102
  refine (HCC.out _ _ B7.out HB7.out).mono ?_
  rintro e w8 ⟨v8, rfl, ho8, hb8⟩
  obtain ⟨A7, c7, e7⟩ := Kd.R_slice ho8
  subst e7
  have HV := Aside0.mk (Kd.R_lower ho8 HB7.out.size)
  have HB8 := Aside0.mk (below_step HB7.out hb8)
  have B28 := Aside0.mk (blk_below B27.out hb8)
  have B38 := Aside0.mk (blk_below B37.out hb8)
  have B48 := Aside0.mk (blk_below B47.out hb8)
  clear ho8 hb8 B7 HB7 B27 B37 B47 HB6 B26 B36 B46 HCC
  refine hK.out _ _ trivial (fun hHeld => ?_)
  clear hK K hHeld
  refine kz_ 9 7 (kA_ 10 1023) ?_
  refine done_ (by kernel_rfl) ?_
  clear hcut8 hcut9 hji hjiw
  have qat : w8.cell? (adr.add at_) = some (.int .i64 (rd row (at_ : Int))) := (HB8.out.cell (World.block_lt_of_cell? w _ HXAT.out)).trans HXAT.out
  have q20 : w8.cell? ⟨b2, 0, none⟩ = some (.int .i64 a0_0) := (blk_cell B28.out 0).trans rfl
  have p3 : (0 ≤ (at_ : Int)) = True := eq_true (by omega)
  have p4 : ((at_ : Int) < (row.length : Int)) = True := eq_true (by have := HAT.out.2.1; omega)
  have HINV := Aside0.mk fun (W : World) (hW : Below w8.heap.size w8 W) => impl_inverse.calls A7 c7 by0 (invWord by0) W (Kd.C_below (Kd.R_reads' HV.out).2.2 hW) (Kd.R_reads' HV.out).2.1 (if_pos (by have := HB0L.out; omega))
  by_cases cs : 0 < rd row (at_ : Int)
  · have csb : decide (0 < rd row (at_ : Int)) = true := decide_eq_true cs
    have e9 : by_ = invWord by0 := by rw [HBY.out, HBY0.out]; unfold rmBy; rw [if_pos cs]
    rw [← e9] at HINV
    clear e9
    clear cs
    go_wp2_with (first
      | (go_at_call 101; refine (HINV.out _ (Below.refl _ _)).mono ?_; rintro e w9 ⟨v9, rfl, ho9, hb9⟩; obtain ⟨Ab, cb, e9⟩ := Kd.R_slice ho9; subst e9; have HB9 := Aside0.mk (below_step HB8.out hb9); have HV9 := Aside0.mk (Kd.R_lower ho9 HB8.out.size); have B29 := Aside0.mk (blk_below B28.out hb9); have B39 := Aside0.mk (blk_below B38.out hb9); have B49 := Aside0.mk (blk_below B48.out hb9); have q29 : w9.cell? ⟨b2, 0, none⟩ = some (.int .i64 a0_0) := (blk_cell B29.out 0).trans rfl; clear ho9 hb9)
      | (refine be_ 8 28 #[.int .i64 0, .slice none 0 0] ?_; intro b8 hg w10 hbox hb; have HB10 := Aside0.mk (below_step HB9.out hb); have B2x := Aside0.mk (blk_below B29.out hb); have B3x := Aside0.mk (blk_below B39.out hb); have B4x := Aside0.mk (blk_below B49.out hb); have HVx := Aside0.mk (Kd.R_below HV9.out hb); have B8x := Aside0.mk hbox; have HD := Aside0.mk (show FD w b2 b3 b4 b8 from ⟨by rw [hg]; exact Nat.ne_of_lt (blk_lt B29.out), by rw [hg]; exact Nat.ne_of_lt (blk_lt B39.out), by rw [hg]; exact Nat.ne_of_lt (blk_lt B49.out), G4.out, by rw [hg]; exact HB9.out.size⟩); have z0 : w10.cell? ⟨b8, 0, none⟩ = some (.int .i64 0) := (blk_cell hbox 0).trans rfl; have z1 : w10.cell? ⟨b8, 1, none⟩ = some (.slice none 0 0) := (blk_cell hbox 1).trans rfl; have z2 := blk_frozen hbox 0; have z3 := blk_frozen hbox 1; have z4 : w10.cell? ⟨b2, 1, none⟩ = some (.slice (some ad) l0_1.length c0_1) := (blk_cell B2x.out 1).trans rfl; have z5 := HD.out.1; have z6 := HD.out.1.symm; clear hg hbox hb))
    clear HB9 HV9 B29 B39 B49 q29
    clear B28 B38 B48 HB8 HINV qat q20 HV
    have HF0 := Aside0.mk (FR.start HD.out B2x.out B3x.out B4x.out B8x.out HB10.out (wrap64 (a0_0 - 1)))
    have HV0 := Aside0.mk (R_two B8x.out HVx.out (.int .i64 (wrap64 (a0_0 - 1))) (.slice none 0 0))
    clear B2x B3x B4x B8x HVx HB10 z0 z1 z2 z3 z4
    go_loopg [9, 10, 43] l0_1.length (fun gg _ _ s43 wr => ∃ (kk : Nat) (u : Value), kk ≤ l0_1.length ∧ l0_1.length - kk ≤ gg ∧ s43 = .int .i64 kk ∧ Aside0 (FR w b2 b3 b4 b8 #[.int .i64 a0_0, .slice (some ad) l0_1.length c0_1] #[.int .i64 a1_0, .int .i64 (i : Int), .int .i64 a1_2, .slice A1_3 l1_3.length c1_3] (wrap64 (a0_0 - 1)) u (rmTo a1_2 by_ l0_1 i kk) wr) ∧ Aside0 (Kd.R (Kd.int .i64) 2 wr w.heap.size (fun _ => True) (.slice Ab by_.length cb) by_))
    case atStart => exact ⟨0, .slice none 0 0, Nat.zero_le _, by omega, rfl, ⟨by simpa [rmTo] using HF0.out⟩, HV0⟩
    case round =>
      clear HF0 HV0
      obtain ⟨kk, u, hkk, hg, rfl, HF, HV⟩ := hrel
      by_cases hlt : kk < l0_1.length
      · have hltz : (kk : Int) < (l0_1.length : Int) := by omega
        obtain ⟨ad2, A', c', e, hx0, hle, hcrow⟩ := at_rowC HR0.out kk hlt
        cases e
        have hx : wr.cell? (ad.add kk) = some (.slice A' l0_1[kk].length c') := (HF.out.b.cell (World.block_lt_of_cell? w _ hx0)).trans hx0
        have q31 : wr.cell? ⟨b3, 1, none⟩ = some (.int .i64 (i : Int)) := (blk_cell HF.out.m 1).trans rfl
        have HROW := Aside0.mk fun W (hW : Below w.heap.size w W) => Kd.C_below hcrow hW
        have HLE := Aside0.mk hle
        have HRL := Aside0.mk (HLEN.out.2 _ (List.getElem_mem hlt))
        clear hx0 hle hcrow
        by_cases ck : kk = i
        · subst ck
          have ckb : ((kk : Int) != (kk : Int)) = false := by simp
          have HF2 := Aside0.mk (show FR w b2 b3 b4 b8 #[.int .i64 a0_0, .slice (some ad) l0_1.length c0_1] #[.int .i64 a1_0, .int .i64 (kk : Int), .int .i64 a1_2, .slice A1_3 l1_3.length c1_3] (wrap64 (a0_0 - 1)) u (rmTo a1_2 by_ l0_1 kk (kk + 1)) wr by rw [rmTo_same _ _ _ _ hlt]; exact HF.out)
          clear HF HROW HLE HRL
          generalize l0_1[kk] = row2 at hx
          go_wp2
          go_roundg (l0_1.length - (kk + 1))
          case measure => omega
          case rel => exact ⟨kk + 1, u, by omega, by omega, (by first | rfl | exact congrArg (Value.int .i64) (show wrap64 ((kk : Int) + 1) = ((kk + 1 : Nat) : Int) by have := HLEN.out.1; unfold wrap64; omega)), HF2, HV⟩
        · have ckb : ((kk : Int) != (i : Int)) = true := by simp; omega
          have HN := Aside0.mk (rmTo_next a1_2 by_ l0_1 i kk hlt ck)
          have HRN := Aside0.mk (rmTo_len a1_2 by_ l0_1 i kk)
          clear ck
          generalize l0_1[kk] = row2 at hx HROW HLE HRL HN
          go_upto_region 11 with fail
          obtain ⟨Au, cu, eu⟩ := Kd.S_slice HF.out.s
          obtain ⟨mu, hmu⟩ : ∃ q, q = (rmTo a1_2 by_ l0_1 i kk).length := ⟨_, rfl⟩
          rw [← hmu] at eu
          have HMU := Aside0.mk hmu
          clear hmu
          subst eu
          have hb1 := below_drew1 (Below.refl wr.heap.size wr)
          have HF1 := Aside0.mk (HF.out.below hb1)
          have HV1 := Aside0.mk (Kd.R_below HV.out hb1)
          refine start_ (n := 11) (S := fun w' => w'.cell? ⟨b8, 1, none⟩ = some (.slice Au mu cu) ∧ w'.cell? ⟨b3, 2, none⟩ = some (.int .i64 a1_2)) (ds := [8, 10]) (kA_ 11 0) (by kernel_rfl) rfl (by kernel_rfl) ⟨(blk_cell HF1.out.o 1).trans rfl, (blk_cell HF1.out.m 2).trans rfl⟩ (fun hHeld => ?_)
          clear HF HV hb1 hx q31
          generalize wr.drew = w11 at HF1 HV1 hHeld ⊢
          refine kz_ 0 52 (kA_ 11 1) ?_
          refine kt_ 1 53 (kA_ 11 3) hHeld ?_
          refine kz_ 2 54 (kA_ 11 7) ?_
          refine kz_ 3 55 (kA_ 11 15) ?_
          refine kt_ 4 56 (kA_ 11 31) hHeld ?_
          refine kz_ 5 57 (kA_ 11 63) ?_
          obtain ⟨tn, htn⟩ : ∃ q, q = rmRow a1_2 by_ row2 := ⟨_, rfl⟩
          rw [← htn] at HN
          have HCALL := Aside0.mk (impl_replaced.calls A' c' row2 a1_2 Ab cb by_ tn w11 (HROW.out w11 HF1.out.b) HLE.out (Kd.R_reads' HV1.out).2.2 (Kd.R_reads' HV1.out).2.1 (by rw [htn]; exact if_pos ⟨HRL.out, HBYL.out⟩))
          clear htn
          refine oa_ 6 58 (kA_ 11 127) (fun K hK => ?_)
          go_simp
          go_at_call 127
          refine HCALL.out.mono ?_
          rintro e w12 ⟨v12, rfl, ho12, hb12⟩
          obtain ⟨An, cn, en⟩ := Kd.R_slice ho12
          subst en
          have HS2 := Aside0.mk (Kd.S_elder' HF1.out.s (Kd.R_base ho12) hb12)
          have HF2 := Aside0.mk (HF1.out.below hb12)
          have HV2 := Aside0.mk (Kd.R_below HV1.out hb12)
          have HN2 := Aside0.mk (Kd.R_lower ho12 HF1.out.b.size)
          clear ho12 hb12 HCALL HF1 HV1
          refine hK.out _ _ ⟨(blk_cell HF2.out.o 1).trans rfl, (blk_cell HF2.out.m 2).trans rfl⟩ (fun hHeld2 => ?_)
          clear hK K hHeld
          refine oa_ 7 59 (kA_ 11 255) (fun K hK => ?_)
          refine value_ (w1 := ?_) (v := ?_) (by rfl) rfl ?_ ?_
          rotate_left 2
          · go_simp
            constructor
            · rfl
            · rfl
          have hba := below_alloc (Below.refl w12.heap.size w12) (.cells #[.slice An tn.length cn] 39)
          have HF3 := Aside0.mk (HF2.out.below hba)
          clear hba
          refine hK.out _ _ ⟨(blk_cell HF3.out.o 1).trans rfl, (blk_cell HF3.out.m 2).trans rfl⟩ (fun hHeld => ?_)
          clear hK K hHeld2
          refine nm_ 59 ?_
          refine last_ (i := 8) (N := some 60) (kA_ 11 511) rfl rfl (by kernel_rfl) (by decide) (fun K hK => ?_)
          have hnap := Kd.R_apart' HN2.out (Kd.S_typed HF2.out.s) (by decide)
          refine Kd.S_append_step (Kd.slice 2 (Kd.int .i64)) (w0 := w) w.heap.size (by rfl) (.tmp 53) (.tmp 59) 22 39 (.slice none 0 0) 24 rfl Try.underlying22 info39 rfl (by decide) (by omega) (.slice Au mu cu) (rmTo a1_2 by_ l0_1 i kk) tn [.slice An tn.length cn] (fun _ => True) (fun k_ => some k_ = (.slice An tn.length cn : Value).ownBlock) rfl rfl (Kd.M_row (Kd.R_tight rfl HN2.out)) (fun k_ hk_ => ⟨trivial, (hnap.1 k_ hk_.symm).2⟩) (fun _ _ => trivial) (Kd.S_mono HS2.out (fun k_ hk => ⟨trivial, hk.2⟩)) HF2.out.b HF2.out.b.size (by have := HRN.out; have := HLEN.out.1; omega) ?_
          intro v13 w13 ho hb hgr hat
          rw [← HN.out] at ho
          obtain ⟨Av, cv, ev⟩ := Kd.S_slice ho
          obtain ⟨mv, hmv⟩ : ∃ q, q = (rmTo a1_2 by_ l0_1 i (kk + 1)).length := ⟨_, rfl⟩
          rw [← hmv] at ev
          clear hmv
          subst ev
          have k5 := blk_grown HF2.out.o hgr (Kd.S_ne HF2.out.s HF2.out.o (by decide))
          have y1 : w13.cell? ⟨b8, 1, none⟩ = some (.slice Au mu cu) := (blk_cell k5 1).trans rfl
          have y2 := blk_frozen k5 1
          have HF4 := Aside0.mk (show FR w b2 b3 b4 b8 #[.int .i64 a0_0, .slice (some ad) l0_1.length c0_1] #[.int .i64 a1_0, .int .i64 (i : Int), .int .i64 a1_2, .slice A1_3 l1_3.length c1_3] (wrap64 (a0_0 - 1)) (.slice Av mv cv) (rmTo a1_2 by_ l0_1 i (kk + 1)) (w13.setCell ⟨b8, 1, none⟩ (.slice Av mv cv)) by rw [HN.out]; exact FR.app HD.out HF2.out (by rw [← HN.out]; exact ho) hb hgr)
          have HV4 := Aside0.mk (FR.keep HF2.out HV2.out hgr (.slice Av mv cv))
          clear ho hb hgr hat k5 hnap HF3 HF2 HV2 HN2 HS2
          refine hK.out _ _ ?_
          clear hK K hHeld
          refine nm_ 60 ?_
          refine kz_ 9 61 (kA_ 11 1023) ?_
          refine last_ (i := 10) (N := none) (kA_ 11 2047) rfl rfl (by kernel_rfl) (by decide) (fun K hK => ?_)
          refine skip_ (w1 := ?_) (by rfl) rfl ?_ ?_
          rotate_left
          · go_simp
            rfl
          refine hK.out _ _ ?_
          clear hK K y1 y2
          refine done_ (by kernel_rfl) ?_
          generalize (w13.setCell ⟨b8, 1, none⟩ (.slice Av mv cv)) = w14 at HF4 HV4 ⊢
          go_wp2
          go_roundg (l0_1.length - (kk + 1))
          case measure => omega
          case rel => exact ⟨kk + 1, .slice Av mv cv, by omega, by omega, (by first | rfl | exact congrArg (Value.int .i64) (show wrap64 ((kk : Int) + 1) = ((kk + 1 : Nat) : Int) by have := HLEN.out.1; unfold wrap64; omega)), HF4, HV4⟩
      · have hltz : ¬ (kk : Int) < (l0_1.length : Int) := by omega
        have hk : kk = l0_1.length := by omega
        subst hk
        obtain ⟨Au, cu, eu⟩ := Kd.S_slice HF.out.s
        obtain ⟨mu, hmu⟩ : ∃ q, q = (rmTo a1_2 by_ l0_1 i l0_1.length).length := ⟨_, rfl⟩
        rw [← hmu] at eu
        clear hmu
        subst eu
        have y0 : wr.cell? ⟨b8, 0, none⟩ = some (.int .i64 (wrap64 (a0_0 - 1))) := (blk_cell HF.out.o 0).trans rfl
        have y1 : wr.cell? ⟨b8, 1, none⟩ = some (.slice Au mu cu) := (blk_cell HF.out.o 1).trans rfl
        have y2 : wr.cell? ⟨b4, 0, none⟩ = some (.int .i64 0) := (blk_cell HF.out.z 0).trans rfl
        have y3 : wr.cell? ⟨b4, 1, none⟩ = some (.slice none 0 0) := (blk_cell HF.out.z 1).trans rfl
        have y4 := blk_frozen HF.out.z 0
        have y5 := blk_frozen HF.out.z 1
        have y6 := HD.out.2.2.1
        have y7 := HD.out.2.2.1.symm
        go_wp2
        refine bodyPost_ret (results_cell_row rfl _ _ b4 28 #[.int .i64 (wrap64 (a0_0 - 1)), .slice Au mu cu] (0, 0) _ rfl (blk_put (blk_put HF.out.z 0 _ rfl) 1 _ rfl) Try.underlying28 rfl (by kernel_rfl)) rfl ?_
        exact ⟨_, rfl, Kd.S_set (Kd.S_set HF.out.s HF.out.z (by decide) 0 _) (blk_put HF.out.z 0 _ rfl) (by decide) 1 _, below_set (below_set HF.out.b HD.out.2.2.2.1) HD.out.2.2.2.1⟩
  · have csb : decide (0 < rd row (at_ : Int)) = false := decide_eq_false cs
    have e9 : by_ = by0 := by rw [HBY.out, HBY0.out]; unfold rmBy; rw [if_neg cs]
    subst e9
    clear cs
    obtain ⟨Ab, rfl⟩ : ∃ q, q = A7 := ⟨_, rfl⟩
    obtain ⟨cb, rfl⟩ : ∃ q, q = c7 := ⟨_, rfl⟩
    go_wp2_with (first
      | (refine be_ 8 28 #[.int .i64 0, .slice none 0 0] ?_; intro b8 hg w10 hbox hb; have HB10 := Aside0.mk (below_step HB8.out hb); have B2x := Aside0.mk (blk_below B28.out hb); have B3x := Aside0.mk (blk_below B38.out hb); have B4x := Aside0.mk (blk_below B48.out hb); have HVx := Aside0.mk (Kd.R_below HV.out hb); have B8x := Aside0.mk hbox; have HD := Aside0.mk (show FD w b2 b3 b4 b8 from ⟨by rw [hg]; exact Nat.ne_of_lt (blk_lt B28.out), by rw [hg]; exact Nat.ne_of_lt (blk_lt B38.out), by rw [hg]; exact Nat.ne_of_lt (blk_lt B48.out), G4.out, by rw [hg]; exact HB8.out.size⟩); have z0 : w10.cell? ⟨b8, 0, none⟩ = some (.int .i64 0) := (blk_cell hbox 0).trans rfl; have z1 : w10.cell? ⟨b8, 1, none⟩ = some (.slice none 0 0) := (blk_cell hbox 1).trans rfl; have z2 := blk_frozen hbox 0; have z3 := blk_frozen hbox 1; have z4 : w10.cell? ⟨b2, 1, none⟩ = some (.slice (some ad) l0_1.length c0_1) := (blk_cell B2x.out 1).trans rfl; have z5 := HD.out.1; have z6 := HD.out.1.symm; clear hg hbox hb))
    clear B28 B38 B48 HB8 HINV qat q20 HV
    have HF0 := Aside0.mk (FR.start HD.out B2x.out B3x.out B4x.out B8x.out HB10.out (wrap64 (a0_0 - 1)))
    have HV0 := Aside0.mk (R_two B8x.out HVx.out (.int .i64 (wrap64 (a0_0 - 1))) (.slice none 0 0))
    clear B2x B3x B4x B8x HVx HB10 z0 z1 z2 z3 z4
    go_loopg [9, 10, 43] l0_1.length (fun gg _ _ s43 wr => ∃ (kk : Nat) (u : Value), kk ≤ l0_1.length ∧ l0_1.length - kk ≤ gg ∧ s43 = .int .i64 kk ∧ Aside0 (FR w b2 b3 b4 b8 #[.int .i64 a0_0, .slice (some ad) l0_1.length c0_1] #[.int .i64 a1_0, .int .i64 (i : Int), .int .i64 a1_2, .slice A1_3 l1_3.length c1_3] (wrap64 (a0_0 - 1)) u (rmTo a1_2 by_ l0_1 i kk) wr) ∧ Aside0 (Kd.R (Kd.int .i64) 2 wr w.heap.size (fun _ => True) (.slice Ab by_.length cb) by_))
    case atStart => exact ⟨0, .slice none 0 0, Nat.zero_le _, by omega, rfl, ⟨by simpa [rmTo] using HF0.out⟩, HV0⟩
    case round =>
      clear HF0 HV0
      obtain ⟨kk, u, hkk, hg, rfl, HF, HV⟩ := hrel
      by_cases hlt : kk < l0_1.length
      · have hltz : (kk : Int) < (l0_1.length : Int) := by omega
        obtain ⟨ad2, A', c', e, hx0, hle, hcrow⟩ := at_rowC HR0.out kk hlt
        cases e
        have hx : wr.cell? (ad.add kk) = some (.slice A' l0_1[kk].length c') := (HF.out.b.cell (World.block_lt_of_cell? w _ hx0)).trans hx0
        have q31 : wr.cell? ⟨b3, 1, none⟩ = some (.int .i64 (i : Int)) := (blk_cell HF.out.m 1).trans rfl
        have HROW := Aside0.mk fun W (hW : Below w.heap.size w W) => Kd.C_below hcrow hW
        have HLE := Aside0.mk hle
        have HRL := Aside0.mk (HLEN.out.2 _ (List.getElem_mem hlt))
        clear hx0 hle hcrow
        by_cases ck : kk = i
        · subst ck
          have ckb : ((kk : Int) != (kk : Int)) = false := by simp
          have HF2 := Aside0.mk (show FR w b2 b3 b4 b8 #[.int .i64 a0_0, .slice (some ad) l0_1.length c0_1] #[.int .i64 a1_0, .int .i64 (kk : Int), .int .i64 a1_2, .slice A1_3 l1_3.length c1_3] (wrap64 (a0_0 - 1)) u (rmTo a1_2 by_ l0_1 kk (kk + 1)) wr by rw [rmTo_same _ _ _ _ hlt]; exact HF.out)
          clear HF HROW HLE HRL
          generalize l0_1[kk] = row2 at hx
          go_wp2
          go_roundg (l0_1.length - (kk + 1))
          case measure => omega
          case rel => exact ⟨kk + 1, u, by omega, by omega, (by first | rfl | exact congrArg (Value.int .i64) (show wrap64 ((kk : Int) + 1) = ((kk + 1 : Nat) : Int) by have := HLEN.out.1; unfold wrap64; omega)), HF2, HV⟩
        · have ckb : ((kk : Int) != (i : Int)) = true := by simp; omega
          have HN := Aside0.mk (rmTo_next a1_2 by_ l0_1 i kk hlt ck)
          have HRN := Aside0.mk (rmTo_len a1_2 by_ l0_1 i kk)
          clear ck
          generalize l0_1[kk] = row2 at hx HROW HLE HRL HN
          go_upto_region 11 with fail
          obtain ⟨Au, cu, eu⟩ := Kd.S_slice HF.out.s
          obtain ⟨mu, hmu⟩ : ∃ q, q = (rmTo a1_2 by_ l0_1 i kk).length := ⟨_, rfl⟩
          rw [← hmu] at eu
          have HMU := Aside0.mk hmu
          clear hmu
          subst eu
          have hb1 := below_drew1 (Below.refl wr.heap.size wr)
          have HF1 := Aside0.mk (HF.out.below hb1)
          have HV1 := Aside0.mk (Kd.R_below HV.out hb1)
          refine start_ (n := 11) (S := fun w' => w'.cell? ⟨b8, 1, none⟩ = some (.slice Au mu cu) ∧ w'.cell? ⟨b3, 2, none⟩ = some (.int .i64 a1_2)) (ds := [8, 10]) (kA_ 11 0) (by kernel_rfl) rfl (by kernel_rfl) ⟨(blk_cell HF1.out.o 1).trans rfl, (blk_cell HF1.out.m 2).trans rfl⟩ (fun hHeld => ?_)
          clear HF HV hb1 hx q31
          generalize wr.drew = w11 at HF1 HV1 hHeld ⊢
          refine kz_ 0 52 (kA_ 11 1) ?_
          refine kt_ 1 53 (kA_ 11 3) hHeld ?_
          refine kz_ 2 54 (kA_ 11 7) ?_
          refine kz_ 3 55 (kA_ 11 15) ?_
          refine kt_ 4 56 (kA_ 11 31) hHeld ?_
          refine kz_ 5 57 (kA_ 11 63) ?_
          obtain ⟨tn, htn⟩ : ∃ q, q = rmRow a1_2 by_ row2 := ⟨_, rfl⟩
          rw [← htn] at HN
          have HCALL := Aside0.mk (impl_replaced.calls A' c' row2 a1_2 Ab cb by_ tn w11 (HROW.out w11 HF1.out.b) HLE.out (Kd.R_reads' HV1.out).2.2 (Kd.R_reads' HV1.out).2.1 (by rw [htn]; exact if_pos ⟨HRL.out, HBYL.out⟩))
          clear htn
          refine oa_ 6 58 (kA_ 11 127) (fun K hK => ?_)
          go_simp
          go_at_call 127
          refine HCALL.out.mono ?_
          rintro e w12 ⟨v12, rfl, ho12, hb12⟩
          obtain ⟨An, cn, en⟩ := Kd.R_slice ho12
          subst en
          have HS2 := Aside0.mk (Kd.S_elder' HF1.out.s (Kd.R_base ho12) hb12)
          have HF2 := Aside0.mk (HF1.out.below hb12)
          have HV2 := Aside0.mk (Kd.R_below HV1.out hb12)
          have HN2 := Aside0.mk (Kd.R_lower ho12 HF1.out.b.size)
          clear ho12 hb12 HCALL HF1 HV1
          refine hK.out _ _ ⟨(blk_cell HF2.out.o 1).trans rfl, (blk_cell HF2.out.m 2).trans rfl⟩ (fun hHeld2 => ?_)
          clear hK K hHeld
          refine oa_ 7 59 (kA_ 11 255) (fun K hK => ?_)
          refine value_ (w1 := ?_) (v := ?_) (by rfl) rfl ?_ ?_
          rotate_left 2
          · go_simp
            constructor
            · rfl
            · rfl
          have hba := below_alloc (Below.refl w12.heap.size w12) (.cells #[.slice An tn.length cn] 39)
          have HF3 := Aside0.mk (HF2.out.below hba)
          clear hba
          refine hK.out _ _ ⟨(blk_cell HF3.out.o 1).trans rfl, (blk_cell HF3.out.m 2).trans rfl⟩ (fun hHeld => ?_)
          clear hK K hHeld2
          refine nm_ 59 ?_
          refine last_ (i := 8) (N := some 60) (kA_ 11 511) rfl rfl (by kernel_rfl) (by decide) (fun K hK => ?_)
          have hnap := Kd.R_apart' HN2.out (Kd.S_typed HF2.out.s) (by decide)
          refine Kd.S_append_step (Kd.slice 2 (Kd.int .i64)) (w0 := w) w.heap.size (by rfl) (.tmp 53) (.tmp 59) 22 39 (.slice none 0 0) 24 rfl Try.underlying22 info39 rfl (by decide) (by omega) (.slice Au mu cu) (rmTo a1_2 by_ l0_1 i kk) tn [.slice An tn.length cn] (fun _ => True) (fun k_ => some k_ = (.slice An tn.length cn : Value).ownBlock) rfl rfl (Kd.M_row (Kd.R_tight rfl HN2.out)) (fun k_ hk_ => ⟨trivial, (hnap.1 k_ hk_.symm).2⟩) (fun _ _ => trivial) (Kd.S_mono HS2.out (fun k_ hk => ⟨trivial, hk.2⟩)) HF2.out.b HF2.out.b.size (by have := HRN.out; have := HLEN.out.1; omega) ?_
          intro v13 w13 ho hb hgr hat
          rw [← HN.out] at ho
          obtain ⟨Av, cv, ev⟩ := Kd.S_slice ho
          obtain ⟨mv, hmv⟩ : ∃ q, q = (rmTo a1_2 by_ l0_1 i (kk + 1)).length := ⟨_, rfl⟩
          rw [← hmv] at ev
          clear hmv
          subst ev
          have k5 := blk_grown HF2.out.o hgr (Kd.S_ne HF2.out.s HF2.out.o (by decide))
          have y1 : w13.cell? ⟨b8, 1, none⟩ = some (.slice Au mu cu) := (blk_cell k5 1).trans rfl
          have y2 := blk_frozen k5 1
          have HF4 := Aside0.mk (show FR w b2 b3 b4 b8 #[.int .i64 a0_0, .slice (some ad) l0_1.length c0_1] #[.int .i64 a1_0, .int .i64 (i : Int), .int .i64 a1_2, .slice A1_3 l1_3.length c1_3] (wrap64 (a0_0 - 1)) (.slice Av mv cv) (rmTo a1_2 by_ l0_1 i (kk + 1)) (w13.setCell ⟨b8, 1, none⟩ (.slice Av mv cv)) by rw [HN.out]; exact FR.app HD.out HF2.out (by rw [← HN.out]; exact ho) hb hgr)
          have HV4 := Aside0.mk (FR.keep HF2.out HV2.out hgr (.slice Av mv cv))
          clear ho hb hgr hat k5 hnap HF3 HF2 HV2 HN2 HS2
          refine hK.out _ _ ?_
          clear hK K hHeld
          refine nm_ 60 ?_
          refine kz_ 9 61 (kA_ 11 1023) ?_
          refine last_ (i := 10) (N := none) (kA_ 11 2047) rfl rfl (by kernel_rfl) (by decide) (fun K hK => ?_)
          refine skip_ (w1 := ?_) (by rfl) rfl ?_ ?_
          rotate_left
          · go_simp
            rfl
          refine hK.out _ _ ?_
          clear hK K y1 y2
          refine done_ (by kernel_rfl) ?_
          generalize (w13.setCell ⟨b8, 1, none⟩ (.slice Av mv cv)) = w14 at HF4 HV4 ⊢
          go_wp2
          go_roundg (l0_1.length - (kk + 1))
          case measure => omega
          case rel => exact ⟨kk + 1, .slice Av mv cv, by omega, by omega, (by first | rfl | exact congrArg (Value.int .i64) (show wrap64 ((kk : Int) + 1) = ((kk + 1 : Nat) : Int) by have := HLEN.out.1; unfold wrap64; omega)), HF4, HV4⟩
      · have hltz : ¬ (kk : Int) < (l0_1.length : Int) := by omega
        have hk : kk = l0_1.length := by omega
        subst hk
        obtain ⟨Au, cu, eu⟩ := Kd.S_slice HF.out.s
        obtain ⟨mu, hmu⟩ : ∃ q, q = (rmTo a1_2 by_ l0_1 i l0_1.length).length := ⟨_, rfl⟩
        rw [← hmu] at eu
        clear hmu
        subst eu
        have y0 : wr.cell? ⟨b8, 0, none⟩ = some (.int .i64 (wrap64 (a0_0 - 1))) := (blk_cell HF.out.o 0).trans rfl
        have y1 : wr.cell? ⟨b8, 1, none⟩ = some (.slice Au mu cu) := (blk_cell HF.out.o 1).trans rfl
        have y2 : wr.cell? ⟨b4, 0, none⟩ = some (.int .i64 0) := (blk_cell HF.out.z 0).trans rfl
        have y3 : wr.cell? ⟨b4, 1, none⟩ = some (.slice none 0 0) := (blk_cell HF.out.z 1).trans rfl
        have y4 := blk_frozen HF.out.z 0
        have y5 := blk_frozen HF.out.z 1
        have y6 := HD.out.2.2.1
        have y7 := HD.out.2.2.1.symm
        go_wp2
        refine bodyPost_ret (results_cell_row rfl _ _ b4 28 #[.int .i64 (wrap64 (a0_0 - 1)), .slice Au mu cu] (0, 0) _ rfl (blk_put (blk_put HF.out.z 0 _ rfl) 1 _ rfl) Try.underlying28 rfl (by kernel_rfl)) rfl ?_
        exact ⟨_, rfl, Kd.S_set (Kd.S_set HF.out.s HF.out.z (by decide) 0 _) (blk_put HF.out.z 0 _ rfl) (by decide) 1 _, below_set (below_set HF.out.b HD.out.2.2.2.1) HD.out.2.2.2.1⟩

/-! ### impl_moved: function 68 -/
section
variable {w W W1 : World} {b2 b3 b4 b5 : Nat} {P M : Array Value} {g : Int} {u v : Value} {rows : List (List Int)}
/-- A new row is stored into a place of the list. -/
theorem FR.elem {go n c i : Nat} {t : List Int} {okn : Nat → Prop} (h : FR w b2 b3 b4 b5 P M g (.slice (some ⟨go, 0, none⟩) n c) rows W) (hs : Kd.S (Kd.slice 2 (Kd.int .i64)) 39 W w.heap.size (fun k => True ∧ some k ≠ v.ownBlock) (.slice (some ⟨go, 0, none⟩) n c) rows)
    (hi : i < rows.length) (ho : Kd.R (Kd.int .i64) 2 W w.heap.size okn v t) : FR w b2 b3 b4 b5 P M g (.slice (some ⟨go, 0, none⟩) n c) (rows.set i t) (W.setCell ⟨go, i, none⟩ v) := by
  have hn := (Kd.S_reads' hs).1
  have hgo : ∀ (q : Nat) (cs : Array Value), W.heap[q]? = some (.cells cs 28 (0, 0)) → q ≠ go := fun q cs hq he => Kd.S_ne hs hq (by decide) (by rw [he]; simp [Value.ownBlock])
  have hgm : ∀ (q : Nat) (cs : Array Value), W.heap[q]? = some (.cells cs 44 (0, 0)) → q ≠ go := fun q cs hq he => Kd.S_ne hs hq (by decide) (by rw [he]; simp [Value.ownBlock])
  have hs2 : Kd.S (Kd.slice 2 (Kd.int .i64)) 39 W w.heap.size (fun k => True ∧ ¬ some k = v.ownBlock) (.slice (some ⟨go, 0, none⟩) n c) rows := hs
  obtain ⟨oki, cc, hcl, hM, hcc, hfr, hoki, hH⟩ := Kd.S_elem hs2 [] (i : Int) (by omega) (by omega)
  have hap := Kd.R_apart' ho (Kd.S_typed hs) (by decide)
  have h1 := Kd.S_seg (ok := fun _ => True) (okg := fun k => some k = v.ownBlock) hH (by omega) (by omega) (seg := [v]) (j := 0) (Nat.le_refl 1) (x' := t) (okp := fun k => some k = v.ownBlock) (by
    have e : cc.drop 1 = [] := List.drop_of_length_le (by rw [hcl]; exact Nat.le_refl 1)
    rw [List.take_zero, List.nil_append, List.length_singleton, Nat.zero_add, e, List.append_nil]
    exact Kd.M_row (Kd.R_tight rfl ho)) (fun k hk => .inr hk) (fun k hk => ⟨trivial, fun he => (hap.1 k hk.symm).2 (by rw [he]; simp [Value.ownBlock])⟩)
  have e2 : W.setCells go ((i : Int).toNat * (Kd.slice 2 (Kd.int .i64)).sz + 0) [v] = W.setCell ⟨go, i, none⟩ v := by
    show W.setCells go (i * 1 + 0) [v] = _
    rw [Nat.mul_one, Nat.add_zero]
    rfl
  rw [e2] at h1
  refine ⟨blk_far h.p (hgo _ _ h.p) _, blk_far h.m (hgm _ _ h.m) _, blk_far h.z (hgo _ _ h.z) _, blk_far h.o (hgo _ _ h.o) _, h1.1, below_set h.b ?_⟩
  exact Kd.S_base hs go (by simp [Value.ownBlock])
theorem FR.setall {rows2 : List (List Int)} {u2 : Value} (hd : FD w b2 b3 b4 b5) (h : FR w b2 b3 b4 b5 P M g u rows W) (hs : Kd.S (Kd.slice 2 (Kd.int .i64)) 39 W w.heap.size (fun _ => True) u2 rows2) (g2 : Int) : FR w b2 b3 b4 b5 P M g2 u2 rows2 ((W.setCell ⟨b5, 0, none⟩ (.int .i64 g2)).setCell ⟨b5, 1, none⟩ u2) :=
  ⟨blk_far (blk_far h.p hd.1 _) hd.1 _, blk_far (blk_far h.m hd.2.1 _) hd.2.1 _, blk_far (blk_far h.z hd.2.2.1 _) hd.2.2.1 _, blk_put (blk_put h.o 0 _ rfl) 1 _ rfl, Kd.S_set (Kd.S_set hs h.o (by decide) 0 _) (blk_put h.o 0 _ rfl) (by decide) 1 _, below_set (below_set h.b hd.2.2.2.2) hd.2.2.2.2⟩
/-- The list has changed in its block, and the block of the result tells the new list. -/
theorem FR.swap {rows2 : List (List Int)} (hd : FD w b2 b3 b4 b5) (h : FR w b2 b3 b4 b5 P M g u rows W) (ho : Kd.S (Kd.slice 2 (Kd.int .i64)) 39 W1 w.heap.size (fun _ => True) v rows2) (hb : Below w.heap.size w W1) (hg : W.grownBy W1 u.ownBlock) :
    FR w b2 b3 b4 b5 P M g v rows2 (W1.setCell ⟨b5, 1, none⟩ v) := by
  have k2 := blk_grown h.p hg (Kd.S_ne h.s h.p (by decide))
  have k3 := blk_grown h.m hg (Kd.S_ne h.s h.m (by decide))
  have k4 := blk_grown h.z hg (Kd.S_ne h.s h.z (by decide))
  have k5 := blk_grown h.o hg (Kd.S_ne h.s h.o (by decide))
  exact ⟨blk_far k2 hd.1 _, blk_far k3 hd.2.1 _, blk_far k4 hd.2.2.1 _, blk_put k5 1 v rfl, Kd.S_set ho k5 (by decide) 1 v, below_set hb hd.2.2.2.2⟩
end
def FR0 (w : World) (b2 b3 b4 b5 : Nat) (P M : Array Value) (u : Value) (rows : List (List Int)) (W : World) : Prop :=
  W.heap[b2]? = some (.cells P 28 (0, 0)) ∧ W.heap[b3]? = some (.cells M 44 (0, 0)) ∧ W.heap[b4]? = some (.cells #[.int .i64 0, .slice none 0 0] 28 (0, 0)) ∧ W.heap[b5]? = some (.cells #[.int .i64 0, .slice none 0 0] 28 (0, 0)) ∧
    Kd.S (Kd.slice 2 (Kd.int .i64)) 39 W w.heap.size (fun _ => True) u rows ∧ Below w.heap.size w W ∧ FD w b2 b3 b4 b5
theorem FR0.put {w W : World} {b2 b3 b4 b5 : Nat} {P M : Array Value} {u : Value} {rows : List (List Int)} (h : FR0 w b2 b3 b4 b5 P M u rows W) (g : Int) : FR w b2 b3 b4 b5 P M g u rows ((W.setCell ⟨b5, 0, none⟩ (.int .i64 g)).setCell ⟨b5, 1, none⟩ u) := by
  obtain ⟨p, m, z, o, s, b, hd⟩ := h
  exact ⟨blk_far (blk_far p hd.1 _) hd.1 _, blk_far (blk_far m hd.2.1 _) hd.2.1 _, blk_far (blk_far z hd.2.2.1 _) hd.2.2.1 _, blk_put (blk_put o 0 _ rfl) 1 _ rfl, Kd.S_set (Kd.S_set s o (by decide) 0 _) (blk_put o 0 _ rfl) (by decide) 1 _, below_set (below_set b hd.2.2.2.2) hd.2.2.2.2⟩
def mapRed (k : Nat) : List (List Int) → Option (List (List Int))
  | [] => some []
  | x :: t => (impl_reduced.f k x).bind fun y => (mapRed k t).bind fun r => some (y :: r)
theorem mapRed_at (k : Nat) : ∀ (l r : List (List Int)), mapRed k l = some r → r.length = l.length ∧ ∀ (i : Nat) (h : i < l.length) (h2 : i < r.length), impl_reduced.f k l[i] = some r[i]
  | [], r, h => by
    obtain rfl := Option.some.inj h
    exact ⟨rfl, fun i h => by simp at h⟩
  | x :: t, r, h => by
    obtain ⟨y, h1, h⟩ := Option.bind_eq_some_iff.mp h
    obtain ⟨q, h2, h⟩ := Option.bind_eq_some_iff.mp h
    obtain rfl := Option.some.inj h
    obtain ⟨i1, i2⟩ := mapRed_at k t q h2
    refine ⟨by simp [i1], fun i a b => ?_⟩
    cases i with
    | zero => exact h1
    | succ i => exact i2 i (by simpa using a) (by simpa using b)
/-- The rows, the first n of them reduced. -/
def redTo (r l : List (List Int)) (n : Nat) : List (List Int) := r.take n ++ l.drop n
theorem redTo_len (r l : List (List Int)) (n : Nat) (h : r.length = l.length) (hn : n ≤ l.length) : (redTo r l n).length = l.length := by unfold redTo; simp; omega
theorem redTo_at (r l : List (List Int)) (n : Nat) (h : r.length = l.length) (hn : n < l.length) (h2 : n < (redTo r l n).length) : (redTo r l n)[n] = l[n] := by
  have hl : (r.take n).length = n := by rw [List.length_take]; omega
  have : (redTo r l n)[n]? = l[n]? := by
    unfold redTo
    rw [List.getElem?_append_right (by omega), hl, Nat.sub_self, List.getElem?_drop, Nat.add_zero]
  rw [List.getElem?_eq_getElem h2, List.getElem?_eq_getElem hn] at this
  exact Option.some.inj this
theorem redTo_set (r l : List (List Int)) (n : Nat) (h : r.length = l.length) (hn : n < l.length) (h2 : n < r.length) : (redTo r l n).set n r[n] = redTo r l (n + 1) := by
  have hl : (r.take n).length = n := by rw [List.length_take]; omega
  unfold redTo
  rw [List.set_append_right _ _ (by omega), hl, Nat.sub_self, List.drop_eq_getElem_cons hn, List.set_cons_zero, List.take_succ_eq_append_getElem h2, List.append_assoc]
  rfl
theorem S_at_ {W : World} {base go n c : Nat} {ok : Nat → Prop} {rows : List (List Int)} (h : Kd.S (Kd.slice 2 (Kd.int .i64)) 39 W base ok (.slice (some ⟨go, 0, none⟩) n c) rows) (i : Nat) (hi : i < rows.length) :
    ∃ A m c', W.cell? ⟨go, i, none⟩ = some (.slice A m c') ∧ W.frozen? ⟨go, i, none⟩ = false := by
  have hn := (Kd.S_reads' h).1
  obtain ⟨oki, cc, hcl, hM, hcc, hfr, _, _⟩ := Kd.S_elem h [] (i : Int) (by omega) (by omega)
  obtain ⟨v, rfl, hR⟩ := hM
  obtain ⟨A, c', rfl⟩ := Kd.R_slice hR
  have h1 := hcc 0 _ rfl
  have h2 := hfr 0
  refine ⟨A, (rows.getD (i : Int).toNat []).length, c', ?_, ?_⟩
  · have e : (⟨go, (i : Int).toNat * (Kd.slice 2 (Kd.int .i64)).sz + 0, none⟩ : Addr) = ⟨go, i, none⟩ := by
      show (⟨go, i * 1 + 0, none⟩ : Addr) = _
      rw [Nat.mul_one, Nat.add_zero]
    rw [e] at h1
    exact h1
  · have e : (⟨go, (i : Int).toNat * (Kd.slice 2 (Kd.int .i64)).sz + 0, none⟩ : Addr) = ⟨go, i, none⟩ := by
      show (⟨go, i * 1 + 0, none⟩ : Addr) = _
      rw [Nat.mul_one, Nat.add_zero]
    rw [e] at h2
    exact h2
def rotT (cp : List (List Int)) (i : Nat) (w : List Int) : List (List Int) := if 0 < w.length then cp.set i (w.drop 1 ++ [rd w 0]) else cp
section
variable {α : Type} {W : World} {base : Nat} {ok : Nat → Prop} {e g n c : Nat} {xs : List α}
/-- A cell of the block behind the row is written. -/
theorem R_past (d : Kd α) (HO : d.R e W base ok (.slice (some ⟨g, 0, none⟩) n c) xs) (j : Nat) (v : Value) (hj : n * d.sz ≤ j) (hjc : j < c * d.sz) :
    (W.cell? ⟨g, j, none⟩).isSome = true ∧ W.frozen? ⟨g, j, none⟩ = false ∧ d.R e (W.setCells g j [v]) base ok (.slice (some ⟨g, 0, none⟩) n c) xs ∧ W.grownBy (W.setCells g j [v]) (some g) := by
  obtain ⟨hn, hnc, _⟩ := Kd.R_reads' HO
  obtain ⟨hok, inner, hown, hr⟩ := HO
  rcases hown.2 with ⟨hv, _⟩ | ⟨g', cap', cur, hv, hb, hh, hx, hcm, hcs, htake⟩
  · cases hv
  injection hv with ha _ hc
  injection ha with ha
  injection ha with hg
  subst hg; subst hc
  have hjs : j < cur.size := by rw [hcs]; exact hjc
  obtain ⟨cur', h3, h4, h5⟩ := setCells_row [v] j W cur hh (by simp; omega)
  obtain ⟨s1, s2, s3, s4⟩ := setCells_same g [v] j W
  have hfar : ∀ k', k' ≠ g → (W.setCells g j [v]).heap[k']? = W.heap[k']? := fun k' hk' => setCells_far [v] _ k' hk'
  refine ⟨by rw [cell_of_row W g _ cur e (0, 0) hh]; simp [hjs], blk_frozen hh _, ⟨hok, inner, ⟨hown.1, .inr ⟨g, c, cur', by rw [← hn], hb, h3, hx, hcm, by rw [h4, hcs], ?_⟩⟩, ?_⟩, ⟨s1, s2, s3, by rw [s4]; exact Nat.le_refl _, fun k' _ hk' => hfar k' (fun he => hk' (by rw [he]))⟩⟩
  · rw [h5, ← hn, List.append_assoc, List.take_append_of_le_length (by rw [List.length_take, Array.length_toList]; omega), List.take_take, Nat.min_eq_left hj, hn]
    exact htake
  · exact hr.imp_ fun p q hp => d.M_move (fun k' hk' => hfar k' (fun he => hk'.2 (by simp [Value.ownBlock, he]))) hp
theorem S_past (d : Kd α) (HO : Kd.S d e W base ok (.slice (some ⟨g, 0, none⟩) n c) xs) (j : Nat) (v : Value) (hj : n * d.sz ≤ j) (hjc : j < c * d.sz) :
    (W.cell? ⟨g, j, none⟩).isSome = true ∧ W.frozen? ⟨g, j, none⟩ = false ∧ Kd.S d e (W.setCells g j [v]) base ok (.slice (some ⟨g, 0, none⟩) n c) xs ∧ W.grownBy (W.setCells g j [v]) (some g) := by
  obtain ⟨f, HR⟩ := HO
  obtain ⟨h1, h2, h3, h4⟩ := R_past (Kd.tag f d) HR j v hj hjc
  exact ⟨h1, h2, ⟨f, h3⟩, h4⟩
end
/-- slices.Delete(rows, i, i + 1). -/
theorem deleteRows (g c i n : Nat) (rows : List (List Int)) (w0 w : World) (ok : Nat → Prop) (HO : Kd.S (Kd.slice 2 (Kd.int .i64)) 39 w w0.heap.size ok (.slice (some ⟨g, 0, none⟩) n c) rows) (hi : i < n) (hl : n ≤ 1000) (HB : Below w0.heap.size w0 w) :
    Calls Try.prog 103 #[.slice (some ⟨g, 0, none⟩) n c, .int .i64 i, .int .i64 (wrap64 ((i : Int) + 1))] w fun e w' => e = .returned (.slice (some ⟨g, 0, none⟩) (n - 1) c) ∧ Kd.S (Kd.slice 2 (Kd.int .i64)) 39 w' w0.heap.size ok (.slice (some ⟨g, 0, none⟩) (n - 1) c) (rows.eraseIdx i) ∧ Below w0.heap.size w0 w' ∧ w.grownBy w' (some g) := by
  have hwr : wrap64 ((i : Int) + 1) = ((i + 1 : Nat) : Int) := by unfold wrap64; omega
  rw [hwr]
  obtain ⟨j, hjj⟩ : ∃ j, j = i + 1 := ⟨_, rfl⟩
  rw [← hjj]
  have hne : decide ((i : Int) = (j : Int)) = false := decide_eq_false (by omega)
  have hlt : i < j := by omega
  have hij : i ≤ j := by omega
  have hj : j ≤ n := by omega
  have hnc : n ≤ c := (Kd.S_reads' HO).2.1
  have hcm : c ≤ 9223372036854775807 := by
    obtain ⟨inner, _, ⟨hv, _⟩ | ⟨g', cap', cur, hv, _, _, _, hcm, _, _⟩⟩ := Kd.S_own HO
    · cases hv
    · injection hv with _ _ hc
      subst hc
      exact Nat.le_trans hcm (by decide)
  have hic : i ≤ c := by omega
  have hjc : j ≤ c := by omega
  have hbd := below_drew1 (Below.refl w.heap.size w)
  have HOD := Aside0.mk (Kd.S_below HO hbd)
  have HBD := Aside0.mk (below_drew1 HB)
  have HNC := Aside0.mk (And.intro hnc (And.intro hi (And.intro hl hjj)))
  have mixed : Try.prog.follows Departure.mixedOrders = true := by kernel_rfl
  have HRAW := Aside0.mk (Kd.S_reads' HO).1
  have hwgr : Aside0 (w.grownBy w.drew (some g)) := ⟨⟨rfl, rfl, rfl, Nat.le_refl _, fun _ _ _ => rfl⟩⟩
  clear HO HB hbd hwr hjj
  go_enter Try.func103, Try.ntmps103
  go_wp2_with fail
  go_region_law_o (refine Kd.S_delete_step (Kd.slice 2 (Kd.int .i64)) (w0 := w0) w0.heap.size (k := i) rfl (.tmp 22) (.tmp 25) 22 39 rfl Try.underlying22 (by kernel_rfl) (by simp [Act.eval, Act.put]; done) (by simp [Act.eval, Act.put]; exact ⟨rfl, rfl, rfl⟩) (by rw [HNC.out.2.2.2]; split <;> first | rfl | (show some (⟨g, i + 1, none⟩ : Addr) = some (Addr.add ⟨g, 0, none⟩ ((i + 1) * 1)); rw [Addr.add_lit, Nat.zero_add, Nat.mul_one])) (by rw [HNC.out.2.2.2]) HOD.out hi HBD.out HBD.out.size ?_; intro w1 ho hb hg)
  obtain ⟨hc1, hf1, hs1, hg1⟩ := S_past _ ho (n - 1) (.slice none 0 0) (by show (n - 1) * 1 ≤ n - 1; omega) (by show n - 1 < c * 1; omega)
  have hcl : ∀ ty, (Builtin.clear_ #[22] ty #[.slice (some ⟨g, n - 1, none⟩) (n - (n - 1)) (c - (n - 1))]).run Try.prog w1 = .ok (.tuple #[]) (w1.setCells g (n - 1) [.slice none 0 0]) := fun ty => by
    have e1 : n - (n - 1) = 1 := by omega
    rw [e1]
    exact Go.Lib.run_clear_slice w1 _ _ ty _ Try.underlying22 (fun w => Try.zeroValue39 w) rfl rfl g (n - 1) _ _ (by omega) (fun t ht => by rw [show t = 0 by omega, Nat.add_zero]; exact hc1) (fun t ht => by rw [show t = 0 by omega, Nat.add_zero]; exact hf1)
  have HE := Aside0.mk hs1
  have HE2 := Aside0.mk (And.intro (Below.grown hb hg1 hb.size (fun k hk => Kd.S_base hs1 k (by rw [← hk]; simp [Value.ownBlock]))) (World.grownBy.trans hwgr.out (World.grownBy.trans hg hg1)))
  clear hs1 hc1 hf1 ho hb hg hg1
  go_wp2
  all_goals go_ret
  all_goals first
    | exact ⟨rfl, HE.out, HE2.out⟩
    | (have hcj : c = j := by assumption
       rw [hcj] at HE
       exact ⟨rfl, HE.out, HE2.out⟩)
def mvRows (a0_0 : Int) (l0_1 : List (List Int)) (a1_0 a1_1 a1_2 : Int) (l1_3 : List Int) (cp : List (List Int)) : Option (Int × List (List Int)) :=
  if a1_0 = 1 then if 0 ≤ a1_1 ∧ a1_1 < (l0_1.length : Int) then some (a0_0, cp.set a1_1.toNat (invWord (rd_L1 l0_1 a1_1))) else none
  else if a1_0 = 2 then if 0 ≤ a1_1 ∧ a1_1 < (l0_1.length : Int) then some (a0_0, rotT cp a1_1.toNat (rd_L1 l0_1 a1_1)) else none
  else if a1_0 = 3 then if (0 ≤ a1_1 ∧ a1_1 < (l0_1.length : Int)) ∧ 0 ≤ a1_2 ∧ a1_2 < (l0_1.length : Int) then some (a0_0, cp.set a1_1.toNat (rd_L1 l0_1 a1_1 ++ rd_L1 l0_1 a1_2)) else none
  else if a1_0 = 4 then if 0 ≤ a1_1 ∧ a1_1 < (l0_1.length : Int) then some (a0_0, cp.eraseIdx a1_1.toNat) else none
  else if a1_0 = 5 then (impl_removed.f a0_0 l0_1 5 a1_1 a1_2 l1_3).bind fun q => if q.2.length ≤ 1001 then some q else none
  else if a1_0 = 6 then some (wrap64 (a0_0 + 1), cp ++ [wrap64 (-(wrap64 (a0_0 + 1))) :: l1_3])
  else none
def impl_moved.f (k : Nat) (a0_0 : Int) (l0_1 : List (List Int)) (a1_0 a1_1 a1_2 : Int) (l1_3 : List Int) : Option (Int × List (List Int)) :=
  if l0_1.length ≤ 1000 ∧ (∀ x ∈ l0_1, x.length ≤ 1000) ∧ l1_3.length ≤ 2000000 then (impl_copyLists.f k l0_1).bind fun cp =>
    if cp.length = l0_1.length then (mvRows a0_0 l0_1 a1_0 a1_1 a1_2 l1_3 cp).bind fun q => (mapRed k q.2).bind fun r => some (q.1, r) else none
  else none
end Go.Proofs.Ytbcdngjajjgmkaa.PFnExactSimplifyPresentation
