/- Program and reference read the same moves out of texts. No condition: for every input that the statement lets in. -/
import Derived.Test.YtgnbcbcjafkpcaaDoorStmtFnExactReadMove
namespace Go.Proofs.YtgnbcbcjafkpcaaDoor.Pure
open Go.RowKit Go.Proofs.YtgnbcbcjafkpcaaDoor.PFnExactReadMove Go.Proofs.YtgnbcbcjafkpcaaDoorW.PrintWords Go.Proofs.YtgnbcbcjafkpcaaDoorW.PrintLast

set_option linter.unusedSimpArgs false
set_option linter.unusedVariables false
set_option linter.unusedSectionVars false
theorem digit_tab : ∀ n : Fin 10, (⟨[UInt8.ofNat (48 + n.val)].toArray⟩ : ByteArray) = strOfNums [(wrap64 (48 + (n.val : Int))) % 256] := by decide +kernel
theorem dec_small (x : Int) (h0 : 0 ≤ x) (h1 : x < 10) : impl_decimal.f x = spec_l07Digit.f x := by
  obtain ⟨n, rfl⟩ : ∃ n : Nat, x = n := ⟨x.toNat, by omega⟩
  have hn : n < 10 := by omega
  unfold impl_decimal.f spec_l07Digit.f
  rw [if_pos (by omega), ← digit_tab ⟨n, hn⟩]
  have e : Lib.itoa (n : Int) = [UInt8.ofNat (48 + n)] := by
    unfold Lib.itoa
    rw [if_neg (by omega), Int.toNat_natCast, Lib.decDigits, dif_pos hn]
  rw [e]

theorem most_eq (k : Nat) (a : Int) : spec_l12Most.f (k + 1) a = some (if a = 1 then 3 else if a = 4 then 3 else if a = 2 then 5 else if a = 3 then 0 else -1) := by
  unfold spec_l12Most.f
  by_cases c1 : a = 1
  · subst c1; rfl
  · by_cases c4 : a = 4
    · subst c4; rfl
    · have e4 : (a == 4) = false := beq_eq_false_iff_ne.2 c4
      rw [if_neg c1, if_neg c1, e4]
      show (if false = true then some (3 : Int) else if a = 2 then some 5 else if a = 3 then some 0 else some (-1)) = _
      rw [if_neg (by simp), if_neg c4]
      by_cases c2 : a = 2
      · rw [if_pos c2, if_pos c2]
      · rw [if_neg c2, if_neg c2]
        by_cases c3 : a = 3
        · rw [if_pos c3, if_pos c3]
        · rw [if_neg c3, if_neg c3]
theorem indices_eq (k : Nat) (a : Int) : impl_indices.f (k + 1) a = some (if a = 1 then 4 else if a = 4 then 4 else if a = 2 then 6 else if a = 3 then 1 else 0) := by
  unfold impl_indices.f
  by_cases c1 : a = 1
  · subst c1; rfl
  · by_cases c4 : a = 4
    · subst c4; rfl
    · have e4 : (a == 4) = false := beq_eq_false_iff_ne.2 c4
      rw [if_neg c1, if_neg c1, e4]
      show (if false = true then some (4 : Int) else if a = 2 then some 6 else if a = 3 then some 1 else some (0)) = _
      rw [if_neg (by simp), if_neg c4]
      by_cases c2 : a = 2
      · rw [if_pos c2, if_pos c2]
      · rw [if_neg c2, if_neg c2]
        by_cases c3 : a = 3
        · rw [if_pos c3, if_pos c3]
        · rw [if_neg c3, if_neg c3]
/-- The program's text with the reference's digits. -/
def moveT (a b c : Int) : Option ByteArray := if 0 ≤ (wrap64 ((wrap64 (2 * a)) - 2)) then (if (wrap64 ((wrap64 (2 * a)) - 2)) ≤ (wrap64 (2 * a)) then (if (wrap64 (2 * a)) ≤ 8 then (if ((⟨#[50, 51, 51, 50, 49, 52, 52, 49]⟩ : ByteArray).extract ((wrap64 ((wrap64 (2 * a)) - 2)) : Int).toNat ((wrap64 (2 * a)) : Int).toNat).size + 1 ≤ 9223372036854775807 then ((spec_l07Digit.f b).bind fun t125 => (if (((⟨#[50, 51, 51, 50, 49, 52, 52, 49]⟩ : ByteArray).extract ((wrap64 ((wrap64 (2 * a)) - 2)) : Int).toNat ((wrap64 (2 * a)) : Int).toNat) ++ (⟨#[32]⟩ : ByteArray)).size + t125.size ≤ 9223372036854775807 then (if ((((⟨#[50, 51, 51, 50, 49, 52, 52, 49]⟩ : ByteArray).extract ((wrap64 ((wrap64 (2 * a)) - 2)) : Int).toNat ((wrap64 (2 * a)) : Int).toNat) ++ (⟨#[32]⟩ : ByteArray)) ++ t125).size + 1 ≤ 9223372036854775807 then ((spec_l07Digit.f c).bind fun t126 => (if (((((⟨#[50, 51, 51, 50, 49, 52, 52, 49]⟩ : ByteArray).extract ((wrap64 ((wrap64 (2 * a)) - 2)) : Int).toNat ((wrap64 (2 * a)) : Int).toNat) ++ (⟨#[32]⟩ : ByteArray)) ++ t125) ++ (⟨#[32]⟩ : ByteArray)).size + t126.size ≤ 9223372036854775807 then (some ((((((⟨#[50, 51, 51, 50, 49, 52, 52, 49]⟩ : ByteArray).extract ((wrap64 ((wrap64 (2 * a)) - 2)) : Int).toNat ((wrap64 (2 * a)) : Int).toNat) ++ (⟨#[32]⟩ : ByteArray)) ++ t125) ++ (⟨#[32]⟩ : ByteArray)) ++ t126)) else (none))) else (none)) else (none))) else (none)) else (none)) else (none)) else (none)
theorem moveT_eq (k : Nat) (a b c : Int) (hb : 0 ≤ b ∧ b < 10) (hc : 0 ≤ c ∧ c < 10) : impl_MoveText.j0 (k + 1) false a b c = moveT a b c := by
  rw [impl_MoveText.j0, if_neg (by simp), dec_small b hb.1 hb.2, dec_small c hc.1 hc.2]
  unfold moveT
  rfl
theorem move_tab : ∀ a : Fin 4, ∀ b : Fin 8, ∀ c : Fin 6, spec_MoveText.j0 1 false ((a.val : Int) + 1) (b.val : Int) (c.val : Int) = moveT ((a.val : Int) + 1) (b.val : Int) (c.val : Int) ∧ (moveT ((a.val : Int) + 1) (b.val : Int) (c.val : Int)).isSome = true := by decide +kernel
theorem idx_most (x : Int) : wrap64 ((if x = 1 then 4 else if x = 4 then 4 else if x = 2 then 6 else if x = 3 then 1 else 0) - 1) = (if x = 1 then 3 else if x = 4 then 3 else if x = 2 then 5 else if x = 3 then 0 else -1) := by
  split
  · decide +kernel
  · split
    · decide +kernel
    · split
      · decide +kernel
      · split <;> decide +kernel
theorem moveText_bad (a b c : Int) (hv : ¬ ((1 ≤ a ∧ a ≤ 4) ∧ (0 ≤ b ∧ b ≤ 7) ∧ 0 ≤ c ∧ c ≤ (if a = 1 then 3 else if a = 4 then 3 else if a = 2 then 5 else if a = 3 then 0 else -1))) (k : Nat) : spec_MoveText.f (k + 1) a b c = some ⟨#[]⟩ ∧ impl_MoveText.f (k + 1) a b c = some ⟨#[]⟩ := by
  refine ⟨?_, ?_⟩
  · unfold spec_MoveText.f
    rw [most_eq, Option.bind_some]
    by_cases c1 : (if a = 1 then 3 else if a = 4 then 3 else if a = 2 then 5 else if a = 3 then (0 : Int) else -1) < 0
    · rw [if_pos c1]
      rfl
    · rw [if_neg c1]
      unfold spec_l07In.f
      by_cases c2 : 0 ≤ b ∧ b ≤ 7
      · rw [if_pos (show b ≥ 0 from c2.1), Option.bind_some, decide_eq_true c2.2, if_pos rfl, Option.bind_some]
        have ha : 1 ≤ a ∧ a ≤ 4 := by
          revert c1
          split <;> try split <;> try split <;> try split
          all_goals omega
        by_cases c3 : c ≥ 0
        · rw [if_pos c3, Option.bind_some, decide_eq_false (fun h => hv ⟨ha, c2, c3, h⟩), Bool.not_false]
          rfl
        · rw [if_neg c3, Option.bind_some, Bool.not_false]
          rfl
      · by_cases c3 : b ≥ 0
        · rw [if_pos c3, Option.bind_some, decide_eq_false (by omega), if_neg (by simp)]
          rfl
        · rw [if_neg c3, Option.bind_some, if_neg (by simp)]
          rfl
  · unfold impl_MoveText.f impl_inRange.f
    by_cases c2 : 0 ≤ b ∧ b ≤ 7
    · rw [if_pos c2.1, Option.bind_some, decide_eq_true c2.2, if_pos rfl, indices_eq, Option.bind_some]
      have e2 := idx_most
      rw [e2]
      by_cases c3 : 0 ≤ c
      · rw [if_pos c3, Option.bind_some, decide_eq_false (fun h => hv ⟨by
          revert h
          split <;> try split <;> try split <;> try split
          all_goals omega, c2, c3, h⟩), Bool.not_false]
        rfl
      · rw [if_neg c3, Option.bind_some, Bool.not_false]
        rfl
    · by_cases c3 : 0 ≤ b
      · rw [if_pos c3, Option.bind_some, decide_eq_false (by omega), if_neg (by simp)]
        rfl
      · rw [if_neg c3, Option.bind_some, if_neg (by simp)]
        rfl
/-- Program and reference write the same text of a move. -/
theorem moveText_both (a b c : Int) : ∃ s, ∀ k, spec_MoveText.f (k + 1) a b c = some s ∧ impl_MoveText.f (k + 1) a b c = some s := by
  by_cases hv : (1 ≤ a ∧ a ≤ 4) ∧ (0 ≤ b ∧ b ≤ 7) ∧ 0 ≤ c ∧ c ≤ (if a = 1 then 3 else if a = 4 then 3 else if a = 2 then 5 else if a = 3 then 0 else -1)
  · obtain ⟨ha, hb, hc0, hc⟩ := hv
    have hc5 : c < 6 := by
      revert hc
      split <;> try split <;> try split <;> try split
      all_goals omega
    obtain ⟨n, rfl⟩ : ∃ n : Nat, a = (n : Int) + 1 := ⟨(a - 1).toNat, by omega⟩
    obtain ⟨m, rfl⟩ : ∃ m : Nat, b = m := ⟨b.toNat, by omega⟩
    obtain ⟨l, rfl⟩ : ∃ l : Nat, c = l := ⟨c.toNat, by omega⟩
    have T := move_tab ⟨n, by omega⟩ ⟨m, by omega⟩ ⟨l, by omega⟩
    simp only at T
    obtain ⟨s, hs⟩ := Option.isSome_iff_exists.1 T.2
    refine ⟨s, fun k => ⟨?_, ?_⟩⟩
    · have hmono : spec_MoveText.j0 (k + 1) false ((n : Int) + 1) m l = some s := by
        have e : spec_MoveText.j0 (k + 1) false ((n : Int) + 1) m l = spec_MoveText.j0 1 false ((n : Int) + 1) m l := rfl
        rw [e, T.1, hs]
      unfold spec_MoveText.f
      rw [most_eq, Option.bind_some, if_neg (by revert hc; split <;> try split <;> try split <;> try split
                                                all_goals omega)]
      unfold spec_l07In.f
      rw [if_pos (by omega), Option.bind_some, decide_eq_true (by omega : (m : Int) ≤ 7), if_pos rfl, Option.bind_some, if_pos (by omega), Option.bind_some, decide_eq_true hc, Bool.not_true]
      exact hmono
    · unfold impl_MoveText.f impl_inRange.f
      have e2 := idx_most
      rw [if_pos (by omega), Option.bind_some, decide_eq_true (by omega : (m : Int) ≤ 7), if_pos rfl, indices_eq, Option.bind_some, e2, if_pos (by omega), Option.bind_some, decide_eq_true hc, Bool.not_true, moveT_eq _ _ _ _ (by omega) (by omega), hs]
  · exact ⟨⟨#[]⟩, moveText_bad a b c hv⟩

/-- With enough rounds, the answer is r. -/
def Evt {α : Type} (f : Nat → Option α) (r : α) : Prop := ∃ c, ∀ K, c ≤ K → f K = some r
theorem Evt.step {α : Type} {f g : Nat → Option α} {r : α} (h : Evt g r) (e : ∀ K, f (K + 1) = g K) : Evt f r := by
  obtain ⟨c, hc⟩ := h
  refine ⟨c + 1, fun K hK => ?_⟩
  obtain ⟨K, rfl⟩ : ∃ m, K = m + 1 := ⟨K - 1, by omega⟩
  rw [e K]
  exact hc K (by omega)
theorem Evt.same {α : Type} {f g : Nat → Option α} {r : α} (h : Evt g r) (e : ∀ K, f K = g K) : Evt f r := by
  obtain ⟨c, hc⟩ := h
  exact ⟨c, fun K hK => by rw [e K]; exact hc K hK⟩
theorem Evt.now {α : Type} {f : Nat → Option α} {r : α} (e : ∀ K, f (K + 1) = some r) : Evt f r := by
  refine ⟨1, fun K hK => ?_⟩
  obtain ⟨K, rfl⟩ : ∃ m, K = m + 1 := ⟨K - 1, by omega⟩
  exact e K
theorem Evt.const {α : Type} {f : Nat → Option α} {r : α} (e : ∀ K, f K = some r) : Evt f r := ⟨0, fun K _ => e K⟩
theorem Evt.bind {α β : Type} {f : Nat → Option β} {g : Nat → Option α} {h : Nat → α → Option β} {x : α} {r : β} (hg : Evt g x) (hh : Evt (fun K => h K x) r) (e : ∀ K, f K = (g K).bind (h K)) : Evt f r := by
  obtain ⟨c, hc⟩ := hg
  obtain ⟨d, hd⟩ := hh
  exact ⟨c + d, fun K hK => by rw [e K, hc K (by omega)]; exact hd K (by omega)⟩
theorem Evt.bind1 {α β : Type} {f : Nat → Option β} {g : Nat → Option α} {h : Nat → α → Option β} {x : α} {r : β} (hg : Evt g x) (hh : Evt (fun K => h K x) r) (e : ∀ K, f (K + 1) = (g K).bind (h K)) : Evt f r :=
  Evt.step (g := fun K => (g K).bind (h K)) (Evt.bind hg hh fun _ => rfl) e
theorem Evt.get {α : Type} {f : Nat → Option α} {r : α} (h : Evt f r) : ∃ c, ∀ K, c ≤ K → f K = some r := h

theorem w64 (x : Int) (h0 : -9223372036854775808 ≤ x) (h1 : x ≤ 9223372036854775807) : wrap64 x = x := by
  unfold wrap64
  omega
theorem w64n (n : Nat) (h : n ≤ 9223372036854775807) : wrap64 (n : Int) = (n : Int) := w64 _ (by omega) (by omega)
theorem rd_nat (l : List Int) (i : Nat) (h : i < l.length) : rd l (i : Int) = l[i] := by
  simp [rd, List.getD, List.getElem?_eq_getElem h]
theorem succ_k {k n : Nat} (h : n < k) : ∃ m, k = m + 1 := ⟨k - 1, by omega⟩
theorem cast_succ (i : Nat) : ((i : Int) + 1) = ((i + 1 : Nat) : Int) := by omega
theorem drop_rd (l : List Int) (k : Nat) (h : k < l.length) : l.drop k = rd l (k : Int) :: l.drop (k + 1) := by
  rw [List.drop_eq_getElem_cons h, rd_nat l k h]


/-- A text of these bytes. -/
def bs (l : List UInt8) : ByteArray := ⟨l.toArray⟩
theorem bs_append (x y : List UInt8) : bs x ++ bs y = bs (x ++ y) := by
  apply ByteArray.ext
  rw [ByteArray.data_append]
  show x.toArray ++ y.toArray = (x ++ y).toArray
  simp
theorem bs_size (x : List UInt8) : (bs x).size = x.length := by
  show x.toArray.size = _
  simp
theorem nDigits_le : ∀ (k u : Nat), 1 ≤ k → u < 10 ^ k → Lib.nDigits u ≤ k
  | 0, _, h, _ => absurd h (by omega)
  | k + 1, u, _, hu => by
    by_cases c : u < 10
    · rw [Lib.nDigits_small c]
      omega
    · rw [Lib.nDigits_big c]
      have hk : 1 ≤ k := by
        rcases k with _ | k
        · simp at hu; omega
        · omega
      have := nDigits_le k (u / 10) hk (by rw [Nat.pow_succ] at hu; omega)
      omega
theorem itoa_len (a : Int) (h0 : -1000000000000 ≤ a) (h1 : a ≤ 1000000000000) : (Lib.itoa a).length ≤ 14 := by
  unfold Lib.itoa
  by_cases c : a < 0
  · rw [if_pos c, List.length_cons, Lib.decDigits_length]
    have := nDigits_le 13 a.natAbs (by decide) (by omega)
    omega
  · rw [if_neg c, Lib.decDigits_length]
    have := nDigits_le 13 a.toNat (by decide) (by omega)
    omega
theorem itoa_ne (a : Int) : Lib.itoa a ≠ [] := by
  unfold Lib.itoa
  by_cases c : a < 0
  · rw [if_pos c]
    exact List.cons_ne_nil _ _
  · rw [if_neg c]
    intro h
    have h2 := Lib.decDigits_length a.toNat
    have h3 := Lib.nDigits_pos a.toNat
    rw [h, List.length_nil] at h2
    omega
theorem decimal_eq (a : Int) (h0 : -1000000000000 ≤ a) (h1 : a ≤ 1000000000000) : impl_decimal.f a = some (bs (Lib.itoa a)) := by
  unfold impl_decimal.f
  rw [if_pos ⟨by omega, by omega⟩]
  rfl

theorem readNum_total (s : ByteArray) (d : Int) (hs : s.size ≤ 1048576) : ∃ r, impl_readNumber.f s d = some r := by
  unfold impl_readNumber.f
  rw [if_pos hs]
  cases hp : Lib.parseIntB 64 s.data.toList with
  | ok v =>
    have hb := Lib.parseIntB_bounds hp
    simp only
    unfold impl_decimal.f
    rw [if_pos ⟨by omega, by omega⟩, Option.bind_some]
    by_cases h1 : (⟨(Lib.itoa v).toArray⟩ : ByteArray).toList = s.toList
    · rw [if_pos h1]
      by_cases h2 : ((readTrim s).size : Int) > d
      · rw [if_pos h2]; exact ⟨_, rfl⟩
      · rw [if_neg h2]; exact ⟨_, rfl⟩
    · rw [if_neg h1]; exact ⟨_, rfl⟩
  | _ => exact ⟨_, rfl⟩

theorem up_ {α : Type} {f : Nat → Option α} (hm : ∀ k, LeO (f k) (f (k + 1))) {k : Nat} {r : α} (h : f k = some r) : Evt f r := by
  refine ⟨k, fun K hK => ?_⟩
  obtain ⟨d, rfl⟩ : ∃ d, K = k + d := ⟨K - k, by omega⟩
  clear hK
  induction d with
  | zero => exact h
  | succ d ih => exact hm (k + d) r ih
def okMove (a b c : Int) : Prop := (1 ≤ a ∧ a ≤ 4) ∧ (0 ≤ b ∧ b ≤ 7) ∧ 0 ≤ c ∧ c ≤ (if a = 1 then 3 else if a = 4 then 3 else if a = 2 then 5 else if a = 3 then 0 else -1)
/-- A move's text. -/
def mt (a b c : Int) : ByteArray := (impl_MoveText.f 1 a b c).getD ⟨#[]⟩
theorem mt_impl (a b c : Int) (k : Nat) : impl_MoveText.f (k + 1) a b c = some (mt a b c) := by
  obtain ⟨s, h⟩ := moveText_both a b c
  unfold mt
  rw [(h 0).2, (h k).2]
  rfl
theorem mt_spec (a b c : Int) (k : Nat) : spec_MoveText.f (k + 1) a b c = some (mt a b c) := by
  obtain ⟨s, h⟩ := moveText_both a b c
  unfold mt
  rw [(h 0).2, (h k).1]
  rfl
theorem mt_ok (a b c : Int) (h : mt a b c ≠ ⟨#[]⟩) : okMove a b c := by
  by_cases hv : okMove a b c
  · exact hv
  · refine absurd ?_ h
    unfold mt
    rw [(moveText_bad a b c hv 0).2]
    rfl
def moveChk (a b c : Int) : Bool := match impl_MoveText.f 1 a b c with
  | some s => decide (spec_ReadMove.f 12 s = some (a, b, c, true)) && decide (impl_ReadMove.f 12 s = some (a, b, c, true))
  | none => false
theorem move_chk : ∀ a : Fin 4, ∀ b : Fin 8, ∀ c : Fin 6, decide ((c.val : Int) ≤ (if (a.val : Int) + 1 = 1 then 3 else if (a.val : Int) + 1 = 4 then 3 else if (a.val : Int) + 1 = 2 then 5 else if (a.val : Int) + 1 = 3 then 0 else -1)) = true → moveChk ((a.val : Int) + 1) (b.val : Int) (c.val : Int) = true := by decide +kernel
theorem move_read (a b c : Int) (hv : okMove a b c) : Evt (fun K => spec_ReadMove.f K (mt a b c)) (a, b, c, true) ∧ Evt (fun K => impl_ReadMove.f K (mt a b c)) (a, b, c, true) := by
  obtain ⟨ha, hb, hc0, hc⟩ := hv
  have hc5 : c < 6 := by
    revert hc
    split <;> try split <;> try split <;> try split
    all_goals omega
  obtain ⟨n, rfl⟩ : ∃ n : Nat, a = (n : Int) + 1 := ⟨(a - 1).toNat, by omega⟩
  obtain ⟨m, rfl⟩ : ∃ m : Nat, b = m := ⟨b.toNat, by omega⟩
  obtain ⟨l, rfl⟩ : ∃ l : Nat, c = l := ⟨c.toNat, by omega⟩
  have T := move_chk ⟨n, by omega⟩ ⟨m, by omega⟩ ⟨l, by omega⟩ (decide_eq_true hc)
  simp only at T
  unfold moveChk at T
  rw [mt_impl _ _ _ 0] at T
  simp only [Bool.and_eq_true, decide_eq_true_eq] at T
  exact ⟨up_ (fun k => spec_ReadMove.mono _ k) T.1, up_ (fun k => impl_ReadMove.mono _ k) T.2⟩
theorem specRM_l0 (s : ByteArray) (hs : s.size = 6) (b c : Int) : ∀ (d i : Nat) (a : Int), i + d = 4 → ∃ a', Evt (fun K => spec_ReadMove.l0 K s (i : Int) a b c) (if (mt a' b c).toList = s.toList then (a', b, c, true) else (0, 0, 0, false))
  | 0, i, a, hd => by
    refine ⟨a, ?_⟩
    refine Evt.step (g := fun K => (spec_MoveText.f K a b c).bind fun t => if t.toList = s.toList then some (a, b, c, true) else some (0, 0, 0, false)) ?_ fun K => by rw [spec_ReadMove.l0, if_neg (by omega)]
    refine Evt.bind (g := fun K => spec_MoveText.f K a b c) (x := mt a b c) ⟨1, fun K hK => by
      obtain ⟨k, rfl⟩ : ∃ k, K = k + 1 := ⟨K - 1, by omega⟩
      exact mt_spec a b c k⟩ (h := fun _ t => if t.toList = s.toList then some (a, b, c, true) else some (0, 0, 0, false)) (Evt.const fun _ => ?_) fun _ => rfl
    by_cases h : (mt a b c).toList = s.toList
    · rw [if_pos h, if_pos h]
    · rw [if_neg h, if_neg h]
  | d + 1, i, a, hd => by
    have ei : wrap64 ((i : Int) + 1) = ((i + 1 : Nat) : Int) := w64n (i + 1) (by omega)
    have f1 : (i : Int) < 4 := by clear ei; omega
    have f4 : (i : Int) < (([(⟨#[50, 51]⟩ : ByteArray), (⟨#[51, 50]⟩ : ByteArray), (⟨#[49, 52]⟩ : ByteArray), (⟨#[52, 49]⟩ : ByteArray)] : List ByteArray).length : Int) := f1
    have f2 : (2 : Int) ≤ (s.size : Int) := by rw [hs]; decide
    by_cases h : (rdOf ByteArray.empty [(⟨#[50, 51]⟩ : ByteArray), (⟨#[51, 50]⟩ : ByteArray), (⟨#[49, 52]⟩ : ByteArray), (⟨#[52, 49]⟩ : ByteArray)] (i : Int)).toList = (s.extract 0 2).toList
    · obtain ⟨a', ha⟩ := specRM_l0 s hs b c d (i + 1) ((i + 1 : Nat) : Int) (by clear ei; omega)
      exact ⟨a', Evt.step ha fun K => by rw [spec_ReadMove.l0, if_pos f1, spec_l12Names.f, Option.bind_some, if_pos (Int.natCast_nonneg i), if_pos f4, if_pos (by decide), if_pos f2, if_pos h, ei]⟩
    · obtain ⟨a', ha⟩ := specRM_l0 s hs b c d (i + 1) a (by clear ei; omega)
      exact ⟨a', Evt.step ha fun K => by rw [spec_ReadMove.l0, if_pos f1, spec_l12Names.f, Option.bind_some, if_pos (Int.natCast_nonneg i), if_pos f4, if_pos (by decide), if_pos f2, if_neg h, ei]⟩
theorem toList_inj {a b : ByteArray} (h : a.toList = b.toList) : a = b := by
  rw [ByteArray.toList_eq, ByteArray.toList_eq] at h
  apply ByteArray.ext
  apply Array.ext'
  exact h
/-- What the reference reads: nothing, or a move that this is the text of. -/
theorem specRM (s : ByteArray) : ∃ r, Evt (fun K => spec_ReadMove.f K s) r ∧ (r = (0, 0, 0, false) ∨ ∃ a b c, r = (a, b, c, true) ∧ okMove a b c ∧ mt a b c = s) := by
  by_cases hs : s.size = 6
  · obtain ⟨a, ha⟩ := specRM_l0 s hs (wrap64 ((wrap64 (bt s 3)) - 48)) (wrap64 ((wrap64 (bt s 5)) - 48)) 4 0 0 rfl
    refine ⟨_, Evt.same ha fun K => ?_, ?_⟩
    · unfold spec_ReadMove.f
      rw [if_pos (by rw [hs]; rfl), if_pos (by rw [hs]; decide), if_pos (by rw [hs]; decide)]
      rfl
    · by_cases h : (mt a (wrap64 ((wrap64 (bt s 3)) - 48)) (wrap64 ((wrap64 (bt s 5)) - 48))).toList = s.toList
      · rw [if_pos h]
        have e := toList_inj h
        refine .inr ⟨_, _, _, rfl, mt_ok _ _ _ ?_, e⟩
        rw [e]
        intro h0
        rw [h0] at hs
        cases hs
      · rw [if_neg h]
        exact .inl rfl
  · refine ⟨(0, 0, 0, false), Evt.const fun K => ?_, .inl rfl⟩
    unfold spec_ReadMove.f
    rw [if_neg (by omega)]
theorem readNums_ev (L : List ByteArray) (d : Int) (hl : L.length ≤ 1048577) (hL : ∀ p ∈ L, p.size ≤ 1048576) : ∀ (e i : Nat) (acc : List Int), i + e = L.length → acc.length = i → ∃ r : List Int × Bool, Evt (fun K => impl_readNumbers.l0 K d acc L (L.length : Int) (i : Int)) r ∧ (r.2 = true → r.1.length = L.length)
  | 0, i, acc, he, ha => ⟨(acc, true), Evt.now fun K => by rw [impl_readNumbers.l0, if_neg (by omega)], fun _ => by simp only; omega⟩
  | e + 1, i, acc, he, ha => by
    have hi : i < L.length := by omega
    have er : rdOf ByteArray.empty L (i : Int) = L[i] := by
      unfold rdOf
      rw [Int.toNat_natCast, List.getD_eq_getElem?_getD, List.getElem?_eq_getElem hi]
      rfl
    obtain ⟨⟨v, b⟩, hv⟩ := readNum_total L[i] d (hL _ (List.getElem_mem hi))
    have f1 : (i : Int) < (L.length : Int) := Int.ofNat_lt.2 hi
    have ei : wrap64 ((i : Int) + 1) = ((i + 1 : Nat) : Int) := w64n (i + 1) (by omega)
    cases b with
    | true =>
      obtain ⟨r, h1, h2⟩ := readNums_ev L d hl hL e (i + 1) (acc ++ [v]) (by clear ei; omega) (by rw [List.length_append, List.length_singleton, ha])
      refine ⟨r, Evt.step h1 fun K => ?_, h2⟩
      rw [impl_readNumbers.l0, if_pos f1, if_pos (Int.natCast_nonneg i), if_pos f1, er, hv, Option.bind_some, if_pos rfl, if_pos (by rw [ha]; clear ei; omega), ei]
    | false =>
      refine ⟨([], false), Evt.now fun K => ?_, fun h => by cases h⟩
      rw [impl_readNumbers.l0, if_pos f1, if_pos (Int.natCast_nonneg i), if_pos f1, er, hv, Option.bind_some, if_neg (by simp)]
theorem extract_le (s : ByteArray) (i j : Nat) : (s.extract i j).size ≤ s.size := by
  rw [ByteArray.size_extract]
  omega
theorem split_sizes (sep : ByteArray) : ∀ (k : Nat) (s : ByteArray), ∀ p ∈ Lib.splitB sep 0 k s, p.size ≤ s.size
  | 0, s, p, hp => by
    have : p = s := by simpa [Lib.splitB] using hp
    rw [this]
    exact Nat.le_refl _
  | k + 1, s, p, hp => by
    unfold Lib.splitB at hp
    split at hp
    · have : p = s := by simpa using hp
      rw [this]
      exact Nat.le_refl _
    · rcases List.mem_cons.1 hp with rfl | hp
      · exact extract_le _ _ _
      · exact Nat.le_trans (split_sizes sep k _ p hp) (extract_le _ _ _)
theorem implRM_l0 (s : ByteArray) (x : List Int) (hx : x.length = 2) : ∀ (d i : Nat), i + d = 5 → ∃ r, Evt (fun K => impl_ReadMove.l0 K s x (i : Int)) r ∧ (r = (0, 0, 0, false) ∨ ∃ a b c, r = (a, b, c, true) ∧ okMove a b c ∧ mt a b c = s)
  | 0, i, hd => ⟨(0, 0, 0, false), Evt.now fun K => by rw [impl_ReadMove.l0, if_neg (by omega)], .inl rfl⟩
  | d + 1, i, hd => by
    obtain ⟨r, h1, h2⟩ := implRM_l0 s x hx d (i + 1) (by omega)
    have ei : wrap64 ((i : Int) + 1) = ((i + 1 : Nat) : Int) := w64n (i + 1) (by omega)
    have f1 : (i : Int) ≤ 4 := by clear ei; omega
    have f2 : (0 : Int) < (x.length : Int) := by rw [hx]; decide
    have f3 : (1 : Int) < (x.length : Int) := by rw [hx]; decide
    have hm : Evt (fun K => impl_MoveText.f K (i : Int) (rd x 0) (rd x 1)) (mt (i : Int) (rd x 0) (rd x 1)) := ⟨1, fun K hK => by
      obtain ⟨k, rfl⟩ : ∃ k, K = k + 1 := ⟨K - 1, by omega⟩
      exact mt_impl _ _ _ k⟩
    have key : ∀ r', Evt (fun K => if (mt (i : Int) (rd x 0) (rd x 1)).toList = s.toList then (if s.toList = ([] : List UInt8) then (impl_ReadMove.l0 K s x (wrap64 ((i : Int) + 1))) else (some ((i : Int), rd x 0, rd x 1, true))) else (impl_ReadMove.l0 K s x (wrap64 ((i : Int) + 1)))) r' → Evt (fun K => impl_ReadMove.l0 K s x (i : Int)) r' := fun r' h =>
      Evt.bind1 hm (h := fun K t152 => (if t152.toList = s.toList then (if s.toList = ([] : List UInt8) then (impl_ReadMove.l0 K s x (wrap64 ((i : Int) + 1))) else (some ((i : Int), rd x 0, rd x 1, true))) else (impl_ReadMove.l0 K s x (wrap64 ((i : Int) + 1))))) h fun K => by rw [impl_ReadMove.l0, if_pos f1, if_pos f2, if_pos f3]
    by_cases c1 : (mt (i : Int) (rd x 0) (rd x 1)).toList = s.toList
    · by_cases c2 : s.toList = []
      · exact ⟨r, key r (Evt.same h1 fun K => by rw [if_pos c1, if_pos c2, ei]), h2⟩
      · have e := toList_inj c1
        refine ⟨((i : Int), rd x 0, rd x 1, true), key _ (Evt.const fun K => by rw [if_pos c1, if_neg c2]), .inr ⟨_, _, _, rfl, mt_ok _ _ _ ?_, e⟩⟩
        rw [e]
        intro h0
        rw [h0] at c2
        exact c2 (by rw [ByteArray.toList_eq])
    · exact ⟨r, key r (Evt.same h1 fun K => by rw [if_neg c1, ei]), h2⟩
/-- What the program reads: nothing, or a move that this is the text of. -/
theorem implRM (s : ByteArray) (hs : s.size ≤ 1048576) : ∃ r, Evt (fun K => impl_ReadMove.f K s) r ∧ (r = (0, 0, 0, false) ∨ ∃ a b c, r = (a, b, c, true) ∧ okMove a b c ∧ mt a b c = s) := by
  have hsp : strings_Split.f s (⟨#[32]⟩ : ByteArray) = some (Lib.splitB (⟨#[32]⟩ : ByteArray) 0 (Lib.countB s (⟨#[32]⟩ : ByteArray)) s) := by
    unfold strings_Split.f
    rw [if_pos ⟨by omega, by decide⟩]
  obtain ⟨P, hP⟩ : ∃ P, P = Lib.splitB (⟨#[32]⟩ : ByteArray) 0 (Lib.countB s (⟨#[32]⟩ : ByteArray)) s := ⟨_, rfl⟩
  have hz : ∀ p ∈ P, p.size ≤ 1048576 := fun p hp => Nat.le_trans (split_sizes _ _ _ p (by rw [← hP]; exact hp)) hs
  rw [← hP] at hsp
  by_cases c : (P.length : Int) = 3
  · have hd : (P.drop 1).length = 2 := by rw [List.length_drop]; omega
    obtain ⟨⟨x, b⟩, h1, h2⟩ := readNums_ev (P.drop 1) 1 (by omega) (fun p hp => hz p (List.mem_of_mem_drop hp)) (P.drop 1).length 0 [] (Nat.zero_add _) rfl
    have key : ∀ r', Evt (fun K => if b = true then impl_ReadMove.l0 K s x 1 else some (0, 0, 0, false)) r' → Evt (fun K => impl_ReadMove.f K s) r' := fun r' h =>
      Evt.bind h1 (h := fun K bt145 => (if bt145.2 = true then (impl_ReadMove.l0 K s bt145.1 1) else (some (0, 0, 0, false)))) h fun K => by
        unfold impl_ReadMove.f
        rw [hsp, Option.bind_some, if_pos c, if_pos (by omega)]
        rfl
    cases b with
    | true =>
      obtain ⟨r, h3, h4⟩ := implRM_l0 s x ((h2 rfl).trans hd) 4 1 rfl
      exact ⟨r, key r (Evt.same h3 fun K => if_pos rfl), h4⟩
    | false => exact ⟨_, key _ (Evt.const fun K => if_neg (by simp)), .inl rfl⟩
  · refine ⟨(0, 0, 0, false), Evt.const fun K => ?_, .inl rfl⟩
    unfold impl_ReadMove.f
    rw [hsp, Option.bind_some, if_neg c]
theorem evt_unique {α : Type} {f : Nat → Option α} {a b : α} (h1 : Evt f a) (h2 : Evt f b) : a = b := by
  obtain ⟨c1, h1⟩ := h1
  obtain ⟨c2, h2⟩ := h2
  exact Option.some.inj ((h1 (c1 + c2) (by omega)).symm.trans (h2 (c1 + c2) (by omega)))
theorem readMove_both (s : ByteArray) (hs : s.size ≤ 1048576) : ∃ r, Evt (fun K => spec_ReadMove.f K s) r ∧ Evt (fun K => impl_ReadMove.f K s) r := by
  obtain ⟨r1, h1, k1⟩ := specRM s
  obtain ⟨r2, h2, k2⟩ := implRM s hs
  have key : ∀ a b c, okMove a b c → mt a b c = s → ∃ r, Evt (fun K => spec_ReadMove.f K s) r ∧ Evt (fun K => impl_ReadMove.f K s) r := fun a b c hv e => by
    obtain ⟨x, y⟩ := move_read a b c hv
    rw [e] at x y
    exact ⟨_, x, y⟩
  rcases k1 with k1 | ⟨a, b, c, _, hv, e⟩
  · rcases k2 with k2 | ⟨a, b, c, _, hv, e⟩
    · rw [k1] at h1
      rw [k2] at h2
      exact ⟨_, h1, h2⟩
    · exact key a b c hv e
  · exact key a b c hv e

theorem FnExactReadMove : laws_FnExactReadMove.PureD := by
  intro s _
  by_cases h : (s.size : Int) > 1048576
  · refine ⟨0, ?_⟩
    unfold laws_FnExactReadMove.f
    rw [if_pos h]
  · obtain ⟨r, ⟨k1, h1⟩, ⟨k2, h2⟩⟩ := readMove_both s (by omega)
    refine ⟨k1 + k2, ?_⟩
    have g1 := h1 (k1 + k2) (by omega)
    have g2 := h2 (k1 + k2) (by omega)
    simp only at g1 g2
    unfold laws_FnExactReadMove.f laws_eqMove.f
    rw [if_neg h, g1, Option.bind_some, g2, Option.bind_some, if_pos rfl, if_pos rfl, if_pos rfl, Option.bind_some, if_pos rfl, if_neg (by simp)]

end Go.Proofs.YtgnbcbcjafkpcaaDoor.Pure
