/- Program and reference write the same text of an abelian group, and leave it. No condition: for every input that the statement lets in. -/
import Derived.Test.YtgnbcbcjafkpcaaDoorStmtFnExactFormatGroup
namespace Go.Proofs.YtgnbcbcjafkpcaaDoor.Pure
open Go.RowKit Go.Proofs.YtgnbcbcjafkpcaaDoor.PFnExactFormatGroup Go.Proofs.YtgnbcbcjafkpcaaDoorW.PrintWords Go.Proofs.YtgnbcbcjafkpcaaDoorW.PrintLast

set_option linter.unusedSimpArgs false
set_option linter.unusedVariables false
set_option linter.unusedSectionVars false
theorem w64 (x : Int) (h0 : -9223372036854775808 ≤ x) (h1 : x ≤ 9223372036854775807) : wrap64 x = x := by
  unfold wrap64
  omega
theorem w64n (n : Nat) (h : n ≤ 9223372036854775807) : wrap64 (n : Int) = (n : Int) := w64 _ (by omega) (by omega)
theorem rd_nat (l : List Int) (i : Nat) (h : i < l.length) : rd l (i : Int) = l[i] := by
  simp [rd, List.getD, List.getElem?_eq_getElem h]
theorem succ_k {k n : Nat} (h : n < k) : ∃ m, k = m + 1 := ⟨k - 1, by omega⟩
theorem cast_succ (i : Nat) : ((i : Int) + 1) = ((i + 1 : Nat) : Int) := by omega
theorem drop_rd (l : List Int) (k : Nat) (h : k < l.length) : l.drop k = rd l (k : Int) :: l.drop (k + 1) := by
  rw [List.drop_eq_getElem_cons h, rd_nat l k h]


theorem szInt64S_eq (l : List Int) (a : Int) (h0 : 0 ≤ a) (h1 : a ≤ 1048576) (hl : l.length ≤ maxLen) : laws_szInt64S.f l a = some (if a < l.length then -1 else a - l.length) := by
  unfold maxLen at hl
  unfold laws_szInt64S.f
  rw [w64 _ (by omega) (by omega)]
  by_cases h : a < l.length
  · rw [if_pos (by omega), if_pos h]
  · rw [if_neg (by omega), if_neg h]


theorem toInt64S_l0 (l : List Int) (hl : l.length ≤ 4611686018427387904) : ∀ (d i : Nat) (x3 : List Int) (k : Nat), x3.length = l.length → i + d = l.length → x3.take i = l.take i → d < k → laws_toInt64S.l0 k l x3 (i : Int) = some l := by
  intro d
  induction d with
  | zero =>
    intro i x3 k h3 hd ht hk
    obtain ⟨k, rfl⟩ := succ_k hk
    simp only [laws_toInt64S.l0]
    rw [if_neg (by omega)]
    have e : i = l.length := by omega
    subst e
    rw [List.take_length, List.take_of_length_le (by omega)] at ht
    rw [ht]
  | succ d ih =>
    intro i x3 k h3 hd ht hk
    obtain ⟨k, rfl⟩ := succ_k hk
    simp only [laws_toInt64S.l0]
    rw [if_pos (by omega), if_pos (by omega), if_pos (by omega), w64 _ (by omega) (by omega), cast_succ]
    refine ih (i + 1) _ k (by simp [h3]) (by omega) ?_ (by omega)
    rw [Int.toNat_natCast, rd_nat l i (by omega)]
    rw [List.take_succ_eq_append_getElem (by simp; omega), List.take_succ_eq_append_getElem (by omega), List.take_set_of_le (by omega), ht]
    simp
theorem toInt64S_eq (l : List Int) (k : Nat) (hl : l.length ≤ 1048576) (hk : l.length < k) : laws_toInt64S.f k l = some l := by
  unfold laws_toInt64S.f
  rw [if_pos (by omega), if_pos (by omega)]
  exact toInt64S_l0 l (by omega) l.length 0 _ k (by simp) (by omega) (by simp) hk


theorem eqInt64S_l0 (l r : List Int) (hr : r.length = l.length) (hl : l.length ≤ 4611686018427387904) : ∀ (d i k : Nat), i + d = l.length → d < k → laws_eqInt64S.l0 k l r (i : Int) = some (decide (l.drop i = r.drop i)) := by
  intro d
  induction d with
  | zero =>
    intro i k hd hk
    obtain ⟨k, rfl⟩ := succ_k hk
    simp only [laws_eqInt64S.l0]
    rw [if_neg (by omega), List.drop_of_length_le (by omega), List.drop_of_length_le (by omega)]
    simp
  | succ d ih =>
    intro i k hd hk
    obtain ⟨k, rfl⟩ := succ_k hk
    simp only [laws_eqInt64S.l0]
    rw [if_pos (by omega), if_pos (by omega), if_pos (by omega), w64 _ (by omega) (by omega), cast_succ, ih (i + 1) k (by omega) (by omega), drop_rd l i (by omega), drop_rd r i (by omega)]
    by_cases h : rd l (i : Int) = rd r (i : Int)
    · simp [h]
    · simp [h]
theorem eqInt64S_eq (l r : List Int) (k : Nat) (hl : l.length ≤ 4611686018427387904) (hk : l.length < k) : laws_eqInt64S.f k l r = some (decide (l = r)) := by
  unfold laws_eqInt64S.f
  by_cases h : l.length = r.length
  · rw [if_pos (by omega)]
    have := eqInt64S_l0 l r h.symm hl l.length 0 k (by omega) hk
    simpa using this
  · rw [if_neg (by omega)]
    have : ¬ l = r := fun e => h (by rw [e])
    simp [this]
theorem eqInt64S_self (l : List Int) (k : Nat) (hl : l.length ≤ 4611686018427387904) (hk : l.length < k) : laws_eqInt64S.f k l l = some true := by
  rw [eqInt64S_eq l l k hl hk]
  simp


def grpB (l : List Int) : Nat → List Int → Bool
  | _, [] => true
  | i, x :: r => (decide (2 ≤ x) && decide (x ≤ 1000000000000)) && ((if 0 < i then decide (Int.tmod x (rd l ((i - 1 : Nat) : Int)) = 0) else true) && grpB l (i + 1) r)
def okG (l : List Int) (i : Nat) : Prop := 0 < i → rd l ((i - 1 : Nat) : Int) ≠ 0
theorem spec_loop (g : Int) (l : List Int) (hl : l.length ≤ 1048576) : ∀ (d i k : Nat), i + d = l.length → d < k → okG l i →
    spec_IsAbelianGroup.l0 k (i : Int) g l = some (grpB l i (l.drop i) && (decide (0 ≤ g) && decide (g ≤ 48)) && decide (l.length ≤ 48)) := by
  intro d
  induction d with
  | zero =>
    intro i k hd hk hg
    obtain ⟨k, rfl⟩ := succ_k hk
    simp only [spec_IsAbelianGroup.l0]
    rw [if_neg (by omega), List.drop_of_length_le (by omega)]
    unfold spec_l01In.f
    have e : decide ((l.length : Int) ≤ 48) = decide (l.length ≤ 48) := decide_eq_decide.mpr (by omega)
    rw [e]
    by_cases h1 : 0 ≤ g <;> by_cases h2 : g ≤ 48 <;> simp [h1, h2, grpB]
  | succ d ih =>
    intro i k hd hk hg
    obtain ⟨k, rfl⟩ := succ_k hk
    simp only [spec_IsAbelianGroup.l0]
    rw [if_pos (by omega), if_pos (by omega), drop_rd l i (by omega), w64 ((i : Int) + 1) (by omega) (by omega), cast_succ]
    unfold spec_l01In.f
    have ih' := ih (i + 1) k (by omega) (by omega)
    simp only [grpB]
    by_cases h1 : 2 ≤ rd l (i : Int)
    · by_cases h2 : rd l (i : Int) ≤ 1000000000000
      · have hok : okG l (i + 1) := fun _ => by rw [Nat.add_sub_cancel]; omega
        rw [ih' hok]
        by_cases hi : 0 < i
        · have e1 : wrap64 ((i : Int) - 1) = ((i - 1 : Nat) : Int) := by rw [w64 _ (by omega) (by omega)]; omega
          have hz := hg hi
          have hi3 : (i : Int) > 0 := by omega
          have hi1 : (0 : Int) ≤ ((i - 1 : Nat) : Int) := by omega
          have hi2 : ((i - 1 : Nat) : Int) < (l.length : Int) := by omega
          rw [e1]
          generalize rd l ((i - 1 : Nat) : Int) = z at hz
          generalize ((i - 1 : Nat) : Int) = m at hi1 hi2
          by_cases h3 : Int.tmod (rd l (i : Int)) z = 0 <;> simp [h1, h2, hi, hi1, hi2, hz, h3]
        · have hi0 : i = 0 := by omega
          subst hi0
          simp at h1 h2
          simp [h1, h2]
      · simp [h1, h2]
    · simp [h1]
theorem impl_loop (g : Int) (l : List Int) (hl : l.length ≤ 1048576) : ∀ (d i k : Nat), i + d = l.length → d < k → okG l i →
    impl_isAbelianGroup.l0 k l (l.length : Int) (i : Int) g l = some (grpB l i (l.drop i) && (decide (0 ≤ g) && decide (g ≤ 48)) && decide (l.length ≤ 48)) := by
  intro d
  induction d with
  | zero =>
    intro i k hd hk hg
    obtain ⟨k, rfl⟩ := succ_k hk
    simp only [impl_isAbelianGroup.l0]
    rw [if_neg (by omega), List.drop_of_length_le (by omega)]
    unfold impl_inRange.f
    have e : decide ((l.length : Int) ≤ 48) = decide (l.length ≤ 48) := decide_eq_decide.mpr (by omega)
    rw [e]
    by_cases h1 : 0 ≤ g <;> by_cases h2 : g ≤ 48 <;> simp [h1, h2, grpB]
  | succ d ih =>
    intro i k hd hk hg
    obtain ⟨k, rfl⟩ := succ_k hk
    simp only [impl_isAbelianGroup.l0]
    rw [if_pos (by omega), if_pos (by omega), if_pos (by omega), drop_rd l i (by omega), w64 ((i : Int) + 1) (by omega) (by omega), cast_succ]
    unfold impl_inRange.f
    have ih' := ih (i + 1) k (by omega) (by omega)
    simp only [grpB]
    by_cases h1 : 2 ≤ rd l (i : Int)
    · by_cases h2 : rd l (i : Int) ≤ 1000000000000
      · have hok : okG l (i + 1) := fun _ => by rw [Nat.add_sub_cancel]; omega
        rw [ih' hok]
        by_cases hi : 0 < i
        · have e1 : wrap64 ((i : Int) - 1) = ((i - 1 : Nat) : Int) := by rw [w64 _ (by omega) (by omega)]; omega
          have hz := hg hi
          have hi3 : (i : Int) > 0 := by omega
          have hi1 : (0 : Int) ≤ ((i - 1 : Nat) : Int) := by omega
          have hi2 : ((i - 1 : Nat) : Int) < (l.length : Int) := by omega
          rw [e1]
          generalize rd l ((i - 1 : Nat) : Int) = z at hz
          generalize ((i - 1 : Nat) : Int) = m at hi1 hi2
          by_cases h3 : Int.tmod (rd l (i : Int)) z = 0 <;> simp [h1, h2, hi, hi1, hi2, hz, h3]
        · have hi0 : i = 0 := by omega
          subst hi0
          simp at h1 h2
          simp [h1, h2]
      · simp [h1, h2]
    · simp [h1]

/-- With enough rounds, the answer is r. -/
def Evt {α : Type} (f : Nat → Option α) (r : α) : Prop := ∃ c, ∀ K, c ≤ K → f K = some r
theorem Evt.step {α : Type} {f g : Nat → Option α} {r : α} (h : Evt g r) (e : ∀ K, f (K + 1) = g K) : Evt f r := by
  obtain ⟨c, hc⟩ := h
  refine ⟨c + 1, fun K hK => ?_⟩
  obtain ⟨K, rfl⟩ : ∃ m, K = m + 1 := ⟨K - 1, by omega⟩
  rw [e K]
  exact hc K (by omega)
theorem Evt.same {α : Type} {f g : Nat → Option α} {r : α} (h : Evt g r) (e : ∀ K, f K = g K) : Evt f r := by
  obtain ⟨c, hc⟩ := h
  exact ⟨c, fun K hK => by rw [e K]; exact hc K hK⟩
theorem Evt.now {α : Type} {f : Nat → Option α} {r : α} (e : ∀ K, f (K + 1) = some r) : Evt f r := by
  refine ⟨1, fun K hK => ?_⟩
  obtain ⟨K, rfl⟩ : ∃ m, K = m + 1 := ⟨K - 1, by omega⟩
  exact e K
theorem Evt.const {α : Type} {f : Nat → Option α} {r : α} (e : ∀ K, f K = some r) : Evt f r := ⟨0, fun K _ => e K⟩
theorem Evt.bind {α β : Type} {f : Nat → Option β} {g : Nat → Option α} {h : Nat → α → Option β} {x : α} {r : β} (hg : Evt g x) (hh : Evt (fun K => h K x) r) (e : ∀ K, f K = (g K).bind (h K)) : Evt f r := by
  obtain ⟨c, hc⟩ := hg
  obtain ⟨d, hd⟩ := hh
  exact ⟨c + d, fun K hK => by rw [e K, hc K (by omega)]; exact hd K (by omega)⟩
theorem Evt.bind1 {α β : Type} {f : Nat → Option β} {g : Nat → Option α} {h : Nat → α → Option β} {x : α} {r : β} (hg : Evt g x) (hh : Evt (fun K => h K x) r) (e : ∀ K, f (K + 1) = (g K).bind (h K)) : Evt f r :=
  Evt.step (g := fun K => (g K).bind (h K)) (Evt.bind hg hh fun _ => rfl) e
theorem Evt.get {α : Type} {f : Nat → Option α} {r : α} (h : Evt f r) : ∃ c, ∀ K, c ≤ K → f K = some r := h

/-- A text of these bytes. -/
def bs (l : List UInt8) : ByteArray := ⟨l.toArray⟩
theorem bs_append (x y : List UInt8) : bs x ++ bs y = bs (x ++ y) := by
  apply ByteArray.ext
  rw [ByteArray.data_append]
  show x.toArray ++ y.toArray = (x ++ y).toArray
  simp
theorem bs_size (x : List UInt8) : (bs x).size = x.length := by
  show x.toArray.size = _
  simp
theorem nDigits_le : ∀ (k u : Nat), 1 ≤ k → u < 10 ^ k → Lib.nDigits u ≤ k
  | 0, _, h, _ => absurd h (by omega)
  | k + 1, u, _, hu => by
    by_cases c : u < 10
    · rw [Lib.nDigits_small c]
      omega
    · rw [Lib.nDigits_big c]
      have hk : 1 ≤ k := by
        rcases k with _ | k
        · simp at hu; omega
        · omega
      have := nDigits_le k (u / 10) hk (by rw [Nat.pow_succ] at hu; omega)
      omega
theorem itoa_len (a : Int) (h0 : -1000000000000 ≤ a) (h1 : a ≤ 1000000000000) : (Lib.itoa a).length ≤ 14 := by
  unfold Lib.itoa
  by_cases c : a < 0
  · rw [if_pos c, List.length_cons, Lib.decDigits_length]
    have := nDigits_le 13 a.natAbs (by decide) (by omega)
    omega
  · rw [if_neg c, Lib.decDigits_length]
    have := nDigits_le 13 a.toNat (by decide) (by omega)
    omega
theorem itoa_ne (a : Int) : Lib.itoa a ≠ [] := by
  unfold Lib.itoa
  by_cases c : a < 0
  · rw [if_pos c]
    exact List.cons_ne_nil _ _
  · rw [if_neg c]
    intro h
    have h2 := Lib.decDigits_length a.toNat
    have h3 := Lib.nDigits_pos a.toNat
    rw [h, List.length_nil] at h2
    omega
theorem decimal_eq (a : Int) (h0 : -1000000000000 ≤ a) (h1 : a ≤ 1000000000000) : impl_decimal.f a = some (bs (Lib.itoa a)) := by
  unfold impl_decimal.f
  rw [if_pos ⟨by omega, by omega⟩]
  rfl

theorem digit_num : ∀ n : Fin 10, strOfNums [(wrap64 (48 + (n.val : Int))) % 256] = bs [UInt8.ofNat (48 + n.val)] := by decide +kernel
theorem number_nat : ∀ (d n : Nat), n ≤ d → n ≤ 1000000000000 → Evt (fun K => spec_l01Number.f K (n : Int)) (bs (Lib.decDigits n))
  | d, n, hd, hn => by
    by_cases c : n < 10
    · refine Evt.now fun K => ?_
      rw [spec_l01Number.f, if_neg (by omega), if_pos (by omega), digit_num ⟨n, c⟩, Lib.decDigits_one c]
    · rcases d with _ | d
      · omega
      have ih := number_nat d (n / 10) (by omega) (by omega)
      have e1 : wrap64 (Int.tdiv (n : Int) 10) = ((n / 10 : Nat) : Int) := by
        rw [Int.tdiv_eq_ediv_of_nonneg (by omega)]
        exact w64 _ (by omega) (by omega)
      have e2 : Int.tmod (n : Int) 10 = ((n % 10 : Nat) : Int) := by
        rw [Int.tmod_eq_emod_of_nonneg (by omega)]
        omega
      have e3 : strOfNums [(wrap64 (48 + Int.tmod (n : Int) 10)) % 256] = bs [UInt8.ofNat (48 + n % 10)] := by
        rw [e2]
        exact digit_num ⟨n % 10, Nat.mod_lt _ (by decide)⟩
      have e4 : Lib.decDigits n = Lib.decDigits (n / 10) ++ [UInt8.ofNat (48 + n % 10)] := by
        rw [Lib.decDigits, dif_neg c]
      have l1 := nDigits_le 13 (n / 10) (by decide) (by omega)
      have l2 : (bs (Lib.decDigits (n / 10))).size + (bs [UInt8.ofNat (48 + n % 10)]).size ≤ 9223372036854775807 := by
        rw [bs_size, bs_size, Lib.decDigits_length, List.length_singleton]
        clear e1 e2 e3 e4 ih
        omega
      refine Evt.bind1 ih (h := fun K t => (some ([(wrap64 (48 + (Int.tmod (n : Int) 10))) % 256] : List Int)).bind fun y => if t.size + (strOfNums y).size ≤ 9223372036854775807 then some (t ++ strOfNums y) else none) (Evt.const fun K => ?_) fun K => ?_
      · rw [Option.bind_some, e3, if_pos l2, bs_append, e4]
      · rw [spec_l01Number.f, if_neg (by clear e1 e2 e3 e4 ih; omega), if_neg (by clear e1 e2 e3 e4 ih; omega), e1]
theorem number_ev (a : Int) (h0 : -1000000000000 ≤ a) (h1 : a ≤ 1000000000000) : Evt (fun K => spec_l01Number.f K a) (bs (Lib.itoa a)) := by
  by_cases c : a < 0
  · have e1 : wrap64 (-a) = ((a.natAbs : Nat) : Int) := by
      rw [w64 _ (by omega) (by omega)]
      omega
    have hn := number_nat a.natAbs a.natAbs (Nat.le_refl _) (by clear e1; omega)
    have l1 := nDigits_le 13 a.natAbs (by decide) (by clear e1; omega)
    refine Evt.bind1 hn (h := fun K t => if 1 + t.size ≤ 9223372036854775807 then some ((⟨#[45]⟩ : ByteArray) ++ t) else none) (Evt.const fun K => ?_) fun K => ?_
    · rw [if_pos (by rw [bs_size, Lib.decDigits_length]; clear e1 hn; omega)]
      show some (bs [45] ++ bs _) = _
      rw [bs_append]
      unfold Lib.itoa
      rw [if_pos c]
      rfl
    · rw [spec_l01Number.f, if_pos c, e1]
  · obtain ⟨n, rfl⟩ : ∃ n : Nat, a = n := ⟨a.toNat, by omega⟩
    have hn := number_nat n n (Nat.le_refl _) (by omega)
    have e : Lib.itoa (n : Int) = Lib.decDigits n := by
      unfold Lib.itoa
      rw [if_neg c, Int.toNat_natCast]
    rw [e]
    exact hn

theorem joinTail_cons (sep x : List UInt8) (r : List (List UInt8)) : Lib.joinTail sep (x :: r) = sep ++ x ++ Lib.joinTail sep r := by
  unfold Lib.joinTail
  rw [List.map_cons, List.flatten_cons]
theorem tail_len (sep : List UInt8) (hs : sep.length ≤ 5) : ∀ l : List Int, (∀ x ∈ l, -1000000000000 ≤ x ∧ x ≤ 1000000000000) → (Lib.joinTail sep (l.map Lib.itoa)).length ≤ 20 * l.length
  | [], _ => Nat.le_refl _
  | x :: l, h => by
    have h1 := itoa_len x (h x List.mem_cons_self).1 (h x List.mem_cons_self).2
    have h2 := tail_len sep hs l fun y hy => h y (List.mem_cons_of_mem _ hy)
    rw [List.map_cons, joinTail_cons, List.length_append, List.length_append, List.length_cons]
    omega

theorem bs_toList (x : List UInt8) : (bs x).toList = x := by
  rw [ByteArray.toList_eq]
  show x.toArray.toList = x
  simp
def PLUS : List UInt8 := [32, 43, 32]
theorem joinTail_append (sep : List UInt8) (x y : List (List UInt8)) : Lib.joinTail sep (x ++ y) = Lib.joinTail sep x ++ Lib.joinTail sep y := by
  unfold Lib.joinTail
  rw [List.map_append, List.flatten_append]
theorem join_snoc (sep p : List UInt8) : ∀ P : List (List UInt8), P ≠ [] → Lib.join (P ++ [p]) sep = Lib.join P sep ++ (sep ++ p)
  | [], h => absurd rfl h
  | x :: P, _ => by
    rw [List.cons_append, Lib.join_cons, Lib.join_cons, joinTail_append, List.append_assoc]
    congr 2
    show Lib.joinTail sep [p] = _
    rw [joinTail_cons]
    show sep ++ p ++ [] = _
    rw [List.append_nil]
theorem join_ne (sep : List UInt8) : ∀ P : List (List UInt8), P ≠ [] → (∀ p ∈ P, p ≠ []) → Lib.join P sep ≠ []
  | [], h, _ => absurd rfl h
  | x :: P, _, hp => by
    rw [Lib.join_cons]
    intro h
    exact hp x List.mem_cons_self (List.append_eq_nil_iff.1 h).1
/-- A summand's text. -/
def grpP (n : Int) : List UInt8 := [90, 95] ++ Lib.itoa n
/-- The text of the summands. -/
def grpT (P : List (List UInt8)) : ByteArray := if P = [] then bs [48] else bs (Lib.join P PLUS)
theorem join_len_snoc (P : List (List UInt8)) (p : List UInt8) : (Lib.join (P ++ [p]) PLUS).length ≤ (Lib.join P PLUS).length + 3 + p.length := by
  by_cases h : P = []
  · subst h
    rw [List.nil_append, Lib.join_one]
    omega
  · rw [join_snoc _ _ _ h, List.length_append, List.length_append]
    show _ + (3 + _) ≤ _
    omega
theorem specGrp_l0 (a : Int) (l : List Int) (hl : l.length ≤ 48) (hw : ∀ x ∈ l, 2 ≤ x ∧ x ≤ 1000000000000) : ∀ (d i : Nat) (P : List (List UInt8)), i + d = l.length → (∀ p ∈ P, p ≠ []) → (Lib.join P PLUS).length ≤ 100 + 30 * i →
    Evt (fun K => spec_FormatGroup.l0 K (bs (Lib.join P PLUS)) (i : Int) a l) (grpT (P ++ (l.drop i).map grpP))
  | 0, i, P, hd, hp, _ => by
    rw [List.drop_of_length_le (by omega), List.map_nil, List.append_nil]
    refine Evt.now fun K => ?_
    rw [spec_FormatGroup.l0, if_neg (by omega), bs_toList]
    unfold grpT
    by_cases h : P = []
    · subst h
      rfl
    · rw [if_neg (join_ne _ _ h hp), if_neg h]
  | d + 1, i, P, hd, hp, ha => by
    have hi : i < l.length := by omega
    have hx := hw _ (List.getElem_mem hi)
    have er : rd l (i : Int) = l[i] := rd_nat l i hi
    have hn := number_ev l[i] (by omega) hx.2
    have hlen := itoa_len l[i] (by omega) hx.2
    have ei : wrap64 ((i : Int) + 1) = ((i + 1 : Nat) : Int) := w64n (i + 1) (by omega)
    have hpl : (grpP l[i]).length ≤ 16 := by
      unfold grpP
      rw [List.length_append]
      show 2 + _ ≤ _
      omega
    have hj := join_len_snoc P (grpP l[i])
    have ih := specGrp_l0 a l hl hw d (i + 1) (P ++ [grpP l[i]]) (by clear ei; omega) (fun p h => by
      rcases List.mem_append.1 h with h | h
      · exact hp p h
      · rw [List.mem_singleton.1 h]
        exact List.cons_ne_nil _ _) (by clear ei; omega)
    rw [List.append_assoc, List.singleton_append] at ih
    have f1 : (i : Int) < (l.length : Int) := Int.ofNat_lt.2 hi
    rw [List.drop_eq_getElem_cons hi, List.map_cons]
    have z0 : (bs (Lib.join P PLUS)).size ≤ 10000 := by rw [bs_size]; clear ei; omega
    have z1 : (bs (Lib.itoa l[i])).size ≤ 14 := by rw [bs_size]; exact hlen
    by_cases h : P = []
    · subst h
      have e0 : bs (Lib.join [] PLUS) = bs [] := rfl
      have e1 : Lib.join ([] ++ [grpP l[i]]) PLUS = grpP l[i] := Lib.join_one _ _
      rw [e1] at ih
      rw [e0]
      refine Evt.bind1 hn (h := fun K t => if (bs [] ++ (⟨#[90, 95]⟩ : ByteArray)).size + t.size ≤ 9223372036854775807 then spec_FormatGroup.l0 K ((bs [] ++ (⟨#[90, 95]⟩ : ByteArray)) ++ t) (wrap64 ((i : Int) + 1)) a l else none) ?_ fun K => ?_
      · refine Evt.same ih fun K => ?_
        show (if (bs [] ++ bs [90, 95]).size + _ ≤ _ then spec_FormatGroup.l0 K ((bs [] ++ bs [90, 95]) ++ _) _ a l else none) = _
        rw [bs_append, bs_append, if_pos (by rw [bs_size [] |> fun _ => bs_size ([] ++ [90, 95])]; show 2 + _ ≤ _; omega), ei]
        rfl
      · rw [spec_FormatGroup.l0, if_pos f1, bs_toList, if_pos rfl, if_pos (by rw [bs_size]; show 0 + 2 ≤ _; omega), if_pos (Int.natCast_nonneg i), er]
    · have hne := join_ne PLUS P h hp
      rw [join_snoc _ _ _ h] at ih
      refine Evt.bind1 hn (h := fun K t => if ((bs (Lib.join P PLUS) ++ (⟨#[32, 43, 32]⟩ : ByteArray)) ++ (⟨#[90, 95]⟩ : ByteArray)).size + t.size ≤ 9223372036854775807 then spec_FormatGroup.l0 K (((bs (Lib.join P PLUS) ++ (⟨#[32, 43, 32]⟩ : ByteArray)) ++ (⟨#[90, 95]⟩ : ByteArray)) ++ t) (wrap64 ((i : Int) + 1)) a l else none) ?_ fun K => ?_
      · refine Evt.same ih fun K => ?_
        show (if ((bs (Lib.join P PLUS) ++ bs PLUS) ++ bs [90, 95]).size + _ ≤ _ then spec_FormatGroup.l0 K (((bs (Lib.join P PLUS) ++ bs PLUS) ++ bs [90, 95]) ++ _) _ a l else none) = _
        have z2 : (bs (Lib.join P PLUS ++ PLUS ++ [90, 95])).size ≤ 10005 := by
          rw [bs_size] at z0
          rw [bs_size, List.length_append, List.length_append]
          show _ + 3 + 2 ≤ _
          omega
        rw [bs_append, bs_append, bs_append, if_pos (by omega), ei]
        congr 2
        unfold grpP
        rw [List.append_assoc, List.append_assoc]
      · rw [spec_FormatGroup.l0, if_pos f1, bs_toList, if_neg hne, if_pos (by omega), if_pos (by
          show (bs (Lib.join P PLUS) ++ bs PLUS).size + 2 ≤ _
          rw [bs_append, bs_size, List.length_append]
          rw [bs_size] at z0
          show _ + 3 + 2 ≤ _
          omega), if_pos (Int.natCast_nonneg i), er]
theorem join_len_all : ∀ (l : List Int) (P : List (List UInt8)), (∀ x ∈ l, 2 ≤ x ∧ x ≤ 1000000000000) → (Lib.join (P ++ l.map grpP) PLUS).length ≤ (Lib.join P PLUS).length + 30 * l.length
  | [], P, _ => by
    rw [List.map_nil, List.append_nil]
    exact Nat.le_refl _
  | x :: l, P, h => by
    have h1 := itoa_len x (by have := h x List.mem_cons_self; omega) (h x List.mem_cons_self).2
    have h2 := join_len_all l (P ++ [grpP x]) fun y hy => h y (List.mem_cons_of_mem _ hy)
    have h3 := join_len_snoc P (grpP x)
    have h4 : (grpP x).length = 2 + (Lib.itoa x).length := by
      unfold grpP
      rw [List.length_append]
      rfl
    rw [List.append_assoc, List.singleton_append] at h2
    rw [List.map_cons, List.length_cons]
    omega
theorem implGrp_l0 (l : List Int) (hl : l.length ≤ 48) (hw : ∀ x ∈ l, 2 ≤ x ∧ x ≤ 1000000000000) (P0 : List (List UInt8)) (h0 : P0.length ≤ 1) (hj : (Lib.join P0 PLUS).length ≤ 100) : ∀ (d i : Nat), i + d = l.length →
    Evt (fun K => impl_FormatGroup.l0 K ((P0 ++ (l.take i).map grpP).map bs) l (l.length : Int) (i : Int)) (grpT (P0 ++ l.map grpP))
  | 0, i, hd => by
    refine Evt.now fun K => ?_
    rw [impl_FormatGroup.l0, if_neg (by omega), List.take_of_length_le (by omega), List.length_map]
    unfold grpT
    by_cases h : P0 ++ l.map grpP = []
    · rw [h, if_pos (by rfl), if_pos rfl]
      rfl
    · have hl2 : ¬ ((P0 ++ l.map grpP).length : Int) = 0 := by
        intro e
        exact h (List.length_eq_zero_iff.1 (by omega))
      have e1 : ((P0 ++ l.map grpP).map bs).map (·.data.toList) = P0 ++ l.map grpP := by
        rw [List.map_map]
        conv => rhs; rw [← List.map_id (P0 ++ l.map grpP)]
        exact List.map_congr_left fun x _ => by show x.toArray.toList = _; simp
      have hlen := join_len_all l P0 hw
      rw [if_neg hl2, if_neg h]
      unfold strings_Join.f
      have e2 : (⟨#[32, 43, 32]⟩ : ByteArray).data.toList = PLUS := rfl
      rw [e1, e2, if_pos ⟨by omega, by rw [List.length_map, List.length_append, List.length_map]; omega⟩]
      rfl
  | d + 1, i, hd => by
    have hi : i < l.length := by omega
    have hx := hw _ (List.getElem_mem hi)
    have er : rd l (i : Int) = l[i] := rd_nat l i hi
    have hlen := itoa_len l[i] (by omega) hx.2
    have ei : wrap64 ((i : Int) + 1) = ((i + 1 : Nat) : Int) := w64n (i + 1) (by omega)
    have ih := implGrp_l0 l hl hw P0 h0 hj d (i + 1) (by clear ei; omega)
    have f1 : (i : Int) < (l.length : Int) := Int.ofNat_lt.2 hi
    have f2 : ((P0 ++ (l.take i).map grpP).map bs).length < 8796093022208 := by rw [List.length_map, List.length_append, List.length_map, List.length_take]; clear ei; omega
    have f3 : 2 + (bs (Lib.itoa l[i])).size ≤ 9223372036854775807 := by rw [bs_size]; clear ei; omega
    have e3 : (⟨#[90, 95]⟩ : ByteArray) ++ bs (Lib.itoa l[i]) = bs (grpP l[i]) := bs_append [90, 95] _
    have eL : (P0 ++ (l.take (i + 1)).map grpP).map bs = (P0 ++ (l.take i).map grpP).map bs ++ [bs (grpP l[i])] := by
      rw [List.take_succ_eq_append_getElem hi]
      simp only [List.map_append, List.map_cons, List.map_nil, List.append_assoc]
    rw [eL] at ih
    exact Evt.step ih fun K => by rw [impl_FormatGroup.l0, if_pos f1, if_pos (Int.natCast_nonneg i), if_pos f1, er, decimal_eq _ (by clear ei; omega) hx.2, Option.bind_some, if_pos f3, if_pos f2, ei, e3]
theorem grpB_in (l : List Int) : ∀ (r : List Int) (i : Nat), grpB l i r = true → ∀ x ∈ r, 2 ≤ x ∧ x ≤ 1000000000000
  | [], _, _, x, hx => by cases hx
  | y :: r, i, h, x, hx => by
    unfold grpB at h
    simp only [Bool.and_eq_true, decide_eq_true_eq] at h
    rcases List.mem_cons.1 hx with rfl | hx
    · exact h.1
    · exact grpB_in l r (i + 1) h.2.2 x hx
theorem formatGroup_both (a : Int) (l : List Int) (hl0 : l.length ≤ 1048576) : ∃ s, Evt (fun K => spec_FormatGroup.f K a l) s ∧ Evt (fun K => impl_FormatGroup.f K a l) s := by
  have hs : Evt (fun K => spec_IsAbelianGroup.f K a l) (grpB l 0 l && (decide (0 ≤ a) && decide (a ≤ 48)) && decide (l.length ≤ 48)) := ⟨l.length + 2, fun K hK => spec_loop a l hl0 l.length 0 K (by omega) (by omega) (fun h => by omega)⟩
  have hi : Evt (fun K => impl_isAbelianGroup.f K a l) (grpB l 0 l && (decide (0 ≤ a) && decide (a ≤ 48)) && decide (l.length ≤ 48)) := ⟨l.length + 2, fun K hK => impl_loop a l hl0 l.length 0 K (by omega) (by omega) (fun h => by omega)⟩
  by_cases hb : (grpB l 0 l && (decide (0 ≤ a) && decide (a ≤ 48)) && decide (l.length ≤ 48)) = true
  · rw [hb] at hs hi
    simp only [Bool.and_eq_true, decide_eq_true_eq] at hb
    obtain ⟨⟨hg, ha0, ha1⟩, hl⟩ := hb
    have hw := grpB_in l l 0 hg
    have key : ∀ P0 : List (List UInt8), P0.length ≤ 1 → (∀ p ∈ P0, p ≠ []) → (Lib.join P0 PLUS).length ≤ 100 →
        Evt (fun K => spec_FormatGroup.j1 K (bs (Lib.join P0 PLUS)) a l) (grpT (P0 ++ l.map grpP)) ∧ Evt (fun K => impl_FormatGroup.j0 K (P0.map bs) a l) (grpT (P0 ++ l.map grpP)) := by
      intro P0 h1 h2 h3
      have A := specGrp_l0 a l hl hw l.length 0 P0 (by omega) h2 (by omega)
      have B := implGrp_l0 l hl hw P0 h1 h3 l.length 0 (by omega)
      rw [List.drop_zero] at A
      rw [List.take_zero, List.map_nil, List.append_nil] at B
      exact ⟨Evt.step A fun K => by rw [spec_FormatGroup.j1]; rfl, Evt.step B fun K => by rw [impl_FormatGroup.j0]; rfl⟩
    have specA : ∀ r, Evt (fun K => if a = 1 then spec_FormatGroup.j0 K (⟨#[90]⟩ : ByteArray) a l else spec_FormatGroup.j0 K (⟨#[]⟩ : ByteArray) a l) r → Evt (fun K => spec_FormatGroup.f K a l) r := fun r h =>
      Evt.bind hs (h := fun K t118 => (if t118 = true then (if a = 1 then (spec_FormatGroup.j0 K (⟨#[90]⟩ : ByteArray) a l) else (spec_FormatGroup.j0 K (⟨#[]⟩ : ByteArray) a l)) else (some (⟨#[]⟩ : ByteArray)))) (Evt.same h fun K => if_pos rfl) fun K => rfl
    have implA : ∀ r, Evt (fun K => (if a = 1 then (if ([] : List ByteArray).length < 8796093022208 then (impl_FormatGroup.j0 K (([] : List ByteArray) ++ [(⟨#[90]⟩ : ByteArray)]) a l) else (none)) else (if a > 1 then ((impl_decimal.f a).bind fun t145 => (if 2 + t145.size ≤ 9223372036854775807 then (if ([] : List ByteArray).length < 8796093022208 then (impl_FormatGroup.j0 K (([] : List ByteArray) ++ [(⟨#[90, 94]⟩ : ByteArray) ++ t145]) a l) else (none)) else (none))) else (impl_FormatGroup.j0 K ([] : List ByteArray) a l)))) r → Evt (fun K => impl_FormatGroup.f K a l) r := fun r h =>
      Evt.bind hi (h := fun K t141 => (if t141 = true then (if a = 1 then (if ([] : List ByteArray).length < 8796093022208 then (impl_FormatGroup.j0 K (([] : List ByteArray) ++ [(⟨#[90]⟩ : ByteArray)]) a l) else (none)) else (if a > 1 then ((impl_decimal.f a).bind fun t145 => (if 2 + t145.size ≤ 9223372036854775807 then (if ([] : List ByteArray).length < 8796093022208 then (impl_FormatGroup.j0 K (([] : List ByteArray) ++ [(⟨#[90, 94]⟩ : ByteArray) ++ t145]) a l) else (none)) else (none))) else (impl_FormatGroup.j0 K ([] : List ByteArray) a l))) else (some (⟨#[]⟩ : ByteArray)))) (Evt.same h fun K => if_pos rfl) fun K => rfl
    have hnil : ([] : List ByteArray).length < 8796093022208 := by decide
    by_cases c1 : a = 1
    · obtain ⟨A, B⟩ := key [[90]] (Nat.le_refl _) (by simp) (by decide)
      refine ⟨_, specA _ (Evt.step A fun K => ?_), implA _ (Evt.same B fun K => ?_)⟩
      · rw [if_pos c1, spec_FormatGroup.j0, if_neg (by omega)]
        rfl
      · rw [if_pos c1, if_pos hnil]
        rfl
    · by_cases c2 : a > 1
      · have hn := number_ev a (by omega) (by omega)
        have hlen := itoa_len a (by omega) (by omega)
        obtain ⟨A, B⟩ := key [[90, 94] ++ Lib.itoa a] (Nat.le_refl _) (by simp) (by rw [Lib.join_one, List.length_append]; show 2 + _ ≤ _; omega)
        have f3 : 2 + (bs (Lib.itoa a)).size ≤ 9223372036854775807 := by rw [bs_size]; omega
        have e3 : (⟨#[90, 94]⟩ : ByteArray) ++ bs (Lib.itoa a) = bs ([90, 94] ++ Lib.itoa a) := bs_append [90, 94] _
        rw [Lib.join_one] at A
        refine ⟨_, specA _ (Evt.bind1 hn (h := fun K t => if 2 + t.size ≤ 9223372036854775807 then spec_FormatGroup.j1 K ((⟨#[90, 94]⟩ : ByteArray) ++ t) a l else none) (Evt.same A fun K => ?_) fun K => ?_), implA _ (Evt.same B fun K => ?_)⟩
        · rw [if_pos f3, e3]
        · rw [if_neg c1, spec_FormatGroup.j0, if_pos c2]
        · rw [if_neg c1, if_pos c2, decimal_eq a (by omega) (by omega), Option.bind_some, if_pos f3, if_pos hnil, e3]
          rfl
      · obtain ⟨A, B⟩ := key [] (Nat.zero_le _) (by simp) (by decide)
        refine ⟨_, specA _ (Evt.step A fun K => ?_), implA _ (Evt.same B fun K => ?_)⟩
        · rw [if_neg c1, spec_FormatGroup.j0, if_neg c2]
          rfl
        · rw [if_neg c1, if_neg c2]
          rfl
  · refine ⟨⟨#[]⟩, ?_, ?_⟩
    · exact Evt.bind hs (h := fun K t118 => (if t118 = true then (if a = 1 then (spec_FormatGroup.j0 K (⟨#[90]⟩ : ByteArray) a l) else (spec_FormatGroup.j0 K (⟨#[]⟩ : ByteArray) a l)) else (some (⟨#[]⟩ : ByteArray)))) (Evt.const fun K => if_neg hb) fun K => rfl
    · exact Evt.bind hi (h := fun K t141 => (if t141 = true then (if a = 1 then (if ([] : List ByteArray).length < 8796093022208 then (impl_FormatGroup.j0 K (([] : List ByteArray) ++ [(⟨#[90]⟩ : ByteArray)]) a l) else (none)) else (if a > 1 then ((impl_decimal.f a).bind fun t145 => (if 2 + t145.size ≤ 9223372036854775807 then (if ([] : List ByteArray).length < 8796093022208 then (impl_FormatGroup.j0 K (([] : List ByteArray) ++ [(⟨#[90, 94]⟩ : ByteArray) ++ t145]) a l) else (none)) else (none))) else (impl_FormatGroup.j0 K ([] : List ByteArray) a l))) else (some (⟨#[]⟩ : ByteArray)))) (Evt.const fun K => if_neg hb) fun K => rfl

theorem FnExactFormatGroup : laws_FnExactFormatGroup.Pure := by
  intro a l _ hl _
  by_cases h : (1048576 : Int) < l.length
  · refine ⟨0, ?_⟩
    unfold laws_FnExactFormatGroup.f laws_szAbelianGroup.f
    rw [szInt64S_eq l 1048576 (by omega) (by omega) hl, Option.bind_some, if_pos h, if_pos (by omega), Option.bind_some, if_pos (by omega)]
  · have hl2 : l.length ≤ 1048576 := by omega
    obtain ⟨s, ⟨k1, h1⟩, ⟨k2, h2⟩⟩ := formatGroup_both a l hl2
    obtain ⟨K, hK⟩ : ∃ K : Nat, K = k1 + k2 + 1048600 := ⟨_, rfl⟩
    have g1 := h1 K (by omega)
    have g2 := h2 K (by omega)
    simp only at g1 g2
    refine ⟨K, ?_⟩
    unfold laws_FnExactFormatGroup.f laws_szAbelianGroup.f laws_toAbelianGroup.f laws_eqAbelianGroup.f
    rw [szInt64S_eq l 1048576 (by omega) (by omega) hl, Option.bind_some, if_neg h, if_neg (by omega), Option.bind_some, if_neg (by omega), toInt64S_eq l K hl2 (by omega), Option.bind_some, Option.bind_some]
    simp only
    rw [g1, Option.bind_some, Option.bind_some]
    simp only
    rw [g2, Option.bind_some, if_pos rfl, Option.bind_some]
    simp only
    rw [if_pos trivial, eqInt64S_self l K (by omega) (by omega), Option.bind_some, if_pos rfl, Option.bind_some, if_pos rfl]

end Go.Proofs.YtgnbcbcjafkpcaaDoor.Pure
