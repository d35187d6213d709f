/- Program and reference write the same text of a matrix, and leave it. No condition: for every input that the statement lets in. -/
import Derived.Test.YtgnbcbcjafkpcaaDoorStmtFnExactFormatMatrix
namespace Go.Proofs.YtgnbcbcjafkpcaaDoor.Pure
open Go.RowKit Go.Proofs.YtgnbcbcjafkpcaaDoor.PFnExactFormatMatrix Go.Proofs.YtgnbcbcjafkpcaaDoorW.PrintWords Go.Proofs.YtgnbcbcjafkpcaaDoorW.PrintLast

set_option linter.unusedSimpArgs false
set_option linter.unusedVariables false
set_option linter.unusedSectionVars false
theorem w64 (x : Int) (h0 : -9223372036854775808 ≤ x) (h1 : x ≤ 9223372036854775807) : wrap64 x = x := by
  unfold wrap64
  omega
theorem w64n (n : Nat) (h : n ≤ 9223372036854775807) : wrap64 (n : Int) = (n : Int) := w64 _ (by omega) (by omega)
theorem rd_nat (l : List Int) (i : Nat) (h : i < l.length) : rd l (i : Int) = l[i] := by
  simp [rd, List.getD, List.getElem?_eq_getElem h]
theorem succ_k {k n : Nat} (h : n < k) : ∃ m, k = m + 1 := ⟨k - 1, by omega⟩
theorem cast_succ (i : Nat) : ((i : Int) + 1) = ((i + 1 : Nat) : Int) := by omega
theorem drop_rd (l : List Int) (k : Nat) (h : k < l.length) : l.drop k = rd l (k : Int) :: l.drop (k + 1) := by
  rw [List.drop_eq_getElem_cons h, rd_nat l k h]


theorem szInt64S_eq (l : List Int) (a : Int) (h0 : 0 ≤ a) (h1 : a ≤ 1048576) (hl : l.length ≤ maxLen) : laws_szInt64S.f l a = some (if a < l.length then -1 else a - l.length) := by
  unfold maxLen at hl
  unfold laws_szInt64S.f
  rw [w64 _ (by omega) (by omega)]
  by_cases h : a < l.length
  · rw [if_pos (by omega), if_pos h]
  · rw [if_neg (by omega), if_neg h]


theorem szMatrix_eq (a b : Int) (l : List Int) (m : Int) (h0 : 0 ≤ m) (h1 : m ≤ 1048576) (hl : l.length ≤ maxLen) : laws_szMatrix.f a b l m = some (if m < l.length then -1 else m - l.length) := by
  unfold laws_szMatrix.f
  rw [szInt64S_eq l m h0 h1 hl]
  simp only [Option.bind_some]
  by_cases h : m < l.length
  · rw [if_pos h, if_pos (by omega)]
  · rw [if_neg h, if_neg (by omega)]


theorem toInt64S_l0 (l : List Int) (hl : l.length ≤ 4611686018427387904) : ∀ (d i : Nat) (x3 : List Int) (k : Nat), x3.length = l.length → i + d = l.length → x3.take i = l.take i → d < k → laws_toInt64S.l0 k l x3 (i : Int) = some l := by
  intro d
  induction d with
  | zero =>
    intro i x3 k h3 hd ht hk
    obtain ⟨k, rfl⟩ := succ_k hk
    simp only [laws_toInt64S.l0]
    rw [if_neg (by omega)]
    have e : i = l.length := by omega
    subst e
    rw [List.take_length, List.take_of_length_le (by omega)] at ht
    rw [ht]
  | succ d ih =>
    intro i x3 k h3 hd ht hk
    obtain ⟨k, rfl⟩ := succ_k hk
    simp only [laws_toInt64S.l0]
    rw [if_pos (by omega), if_pos (by omega), if_pos (by omega), w64 _ (by omega) (by omega), cast_succ]
    refine ih (i + 1) _ k (by simp [h3]) (by omega) ?_ (by omega)
    rw [Int.toNat_natCast, rd_nat l i (by omega)]
    rw [List.take_succ_eq_append_getElem (by simp; omega), List.take_succ_eq_append_getElem (by omega), List.take_set_of_le (by omega), ht]
    simp
theorem toInt64S_eq (l : List Int) (k : Nat) (hl : l.length ≤ 1048576) (hk : l.length < k) : laws_toInt64S.f k l = some l := by
  unfold laws_toInt64S.f
  rw [if_pos (by omega), if_pos (by omega)]
  exact toInt64S_l0 l (by omega) l.length 0 _ k (by simp) (by omega) (by simp) hk


theorem toMatrix_eq (a b : Int) (l : List Int) (k : Nat) (hl : l.length ≤ 1048576) (hk : l.length < k) : laws_toMatrix.f k a b l = some (a, b, l) := by
  unfold laws_toMatrix.f
  rw [toInt64S_eq l k hl hk]
  rfl


theorem eqInt64S_l0 (l r : List Int) (hr : r.length = l.length) (hl : l.length ≤ 4611686018427387904) : ∀ (d i k : Nat), i + d = l.length → d < k → laws_eqInt64S.l0 k l r (i : Int) = some (decide (l.drop i = r.drop i)) := by
  intro d
  induction d with
  | zero =>
    intro i k hd hk
    obtain ⟨k, rfl⟩ := succ_k hk
    simp only [laws_eqInt64S.l0]
    rw [if_neg (by omega), List.drop_of_length_le (by omega), List.drop_of_length_le (by omega)]
    simp
  | succ d ih =>
    intro i k hd hk
    obtain ⟨k, rfl⟩ := succ_k hk
    simp only [laws_eqInt64S.l0]
    rw [if_pos (by omega), if_pos (by omega), if_pos (by omega), w64 _ (by omega) (by omega), cast_succ, ih (i + 1) k (by omega) (by omega), drop_rd l i (by omega), drop_rd r i (by omega)]
    by_cases h : rd l (i : Int) = rd r (i : Int)
    · simp [h]
    · simp [h]
theorem eqInt64S_eq (l r : List Int) (k : Nat) (hl : l.length ≤ 4611686018427387904) (hk : l.length < k) : laws_eqInt64S.f k l r = some (decide (l = r)) := by
  unfold laws_eqInt64S.f
  by_cases h : l.length = r.length
  · rw [if_pos (by omega)]
    have := eqInt64S_l0 l r h.symm hl l.length 0 k (by omega) hk
    simpa using this
  · rw [if_neg (by omega)]
    have : ¬ l = r := fun e => h (by rw [e])
    simp [this]
theorem eqInt64S_self (l : List Int) (k : Nat) (hl : l.length ≤ 4611686018427387904) (hk : l.length < k) : laws_eqInt64S.f k l l = some true := by
  rw [eqInt64S_eq l l k hl hk]
  simp


theorem eqMatrix_self (a b : Int) (l : List Int) (k : Nat) (hl : l.length ≤ 4611686018427387904) (hk : l.length < k) : laws_eqMatrix.f k a b l a b l = some true := by
  unfold laws_eqMatrix.f
  rw [if_pos rfl, if_pos rfl, eqInt64S_self l k hl hk]
  rfl


/-- With enough rounds, the answer is r. -/
def Evt {α : Type} (f : Nat → Option α) (r : α) : Prop := ∃ c, ∀ K, c ≤ K → f K = some r
theorem Evt.step {α : Type} {f g : Nat → Option α} {r : α} (h : Evt g r) (e : ∀ K, f (K + 1) = g K) : Evt f r := by
  obtain ⟨c, hc⟩ := h
  refine ⟨c + 1, fun K hK => ?_⟩
  obtain ⟨K, rfl⟩ : ∃ m, K = m + 1 := ⟨K - 1, by omega⟩
  rw [e K]
  exact hc K (by omega)
theorem Evt.same {α : Type} {f g : Nat → Option α} {r : α} (h : Evt g r) (e : ∀ K, f K = g K) : Evt f r := by
  obtain ⟨c, hc⟩ := h
  exact ⟨c, fun K hK => by rw [e K]; exact hc K hK⟩
theorem Evt.now {α : Type} {f : Nat → Option α} {r : α} (e : ∀ K, f (K + 1) = some r) : Evt f r := by
  refine ⟨1, fun K hK => ?_⟩
  obtain ⟨K, rfl⟩ : ∃ m, K = m + 1 := ⟨K - 1, by omega⟩
  exact e K
theorem Evt.const {α : Type} {f : Nat → Option α} {r : α} (e : ∀ K, f K = some r) : Evt f r := ⟨0, fun K _ => e K⟩
theorem Evt.bind {α β : Type} {f : Nat → Option β} {g : Nat → Option α} {h : Nat → α → Option β} {x : α} {r : β} (hg : Evt g x) (hh : Evt (fun K => h K x) r) (e : ∀ K, f K = (g K).bind (h K)) : Evt f r := by
  obtain ⟨c, hc⟩ := hg
  obtain ⟨d, hd⟩ := hh
  exact ⟨c + d, fun K hK => by rw [e K, hc K (by omega)]; exact hd K (by omega)⟩
theorem Evt.bind1 {α β : Type} {f : Nat → Option β} {g : Nat → Option α} {h : Nat → α → Option β} {x : α} {r : β} (hg : Evt g x) (hh : Evt (fun K => h K x) r) (e : ∀ K, f (K + 1) = (g K).bind (h K)) : Evt f r :=
  Evt.step (g := fun K => (g K).bind (h K)) (Evt.bind hg hh fun _ => rfl) e
theorem Evt.get {α : Type} {f : Nat → Option α} {r : α} (h : Evt f r) : ∃ c, ∀ K, c ≤ K → f K = some r := h

/-- A text of these bytes. -/
def bs (l : List UInt8) : ByteArray := ⟨l.toArray⟩
theorem bs_append (x y : List UInt8) : bs x ++ bs y = bs (x ++ y) := by
  apply ByteArray.ext
  rw [ByteArray.data_append]
  show x.toArray ++ y.toArray = (x ++ y).toArray
  simp
theorem bs_size (x : List UInt8) : (bs x).size = x.length := by
  show x.toArray.size = _
  simp
theorem nDigits_le : ∀ (k u : Nat), 1 ≤ k → u < 10 ^ k → Lib.nDigits u ≤ k
  | 0, _, h, _ => absurd h (by omega)
  | k + 1, u, _, hu => by
    by_cases c : u < 10
    · rw [Lib.nDigits_small c]
      omega
    · rw [Lib.nDigits_big c]
      have hk : 1 ≤ k := by
        rcases k with _ | k
        · simp at hu; omega
        · omega
      have := nDigits_le k (u / 10) hk (by rw [Nat.pow_succ] at hu; omega)
      omega
theorem itoa_len (a : Int) (h0 : -1000000000000 ≤ a) (h1 : a ≤ 1000000000000) : (Lib.itoa a).length ≤ 14 := by
  unfold Lib.itoa
  by_cases c : a < 0
  · rw [if_pos c, List.length_cons, Lib.decDigits_length]
    have := nDigits_le 13 a.natAbs (by decide) (by omega)
    omega
  · rw [if_neg c, Lib.decDigits_length]
    have := nDigits_le 13 a.toNat (by decide) (by omega)
    omega
theorem itoa_ne (a : Int) : Lib.itoa a ≠ [] := by
  unfold Lib.itoa
  by_cases c : a < 0
  · rw [if_pos c]
    exact List.cons_ne_nil _ _
  · rw [if_neg c]
    intro h
    have h2 := Lib.decDigits_length a.toNat
    have h3 := Lib.nDigits_pos a.toNat
    rw [h, List.length_nil] at h2
    omega
theorem decimal_eq (a : Int) (h0 : -1000000000000 ≤ a) (h1 : a ≤ 1000000000000) : impl_decimal.f a = some (bs (Lib.itoa a)) := by
  unfold impl_decimal.f
  rw [if_pos ⟨by omega, by omega⟩]
  rfl

theorem digit_num : ∀ n : Fin 10, strOfNums [(wrap64 (48 + (n.val : Int))) % 256] = bs [UInt8.ofNat (48 + n.val)] := by decide +kernel
theorem number_nat : ∀ (d n : Nat), n ≤ d → n ≤ 1000000000000 → Evt (fun K => spec_l01Number.f K (n : Int)) (bs (Lib.decDigits n))
  | d, n, hd, hn => by
    by_cases c : n < 10
    · refine Evt.now fun K => ?_
      rw [spec_l01Number.f, if_neg (by omega), if_pos (by omega), digit_num ⟨n, c⟩, Lib.decDigits_one c]
    · rcases d with _ | d
      · omega
      have ih := number_nat d (n / 10) (by omega) (by omega)
      have e1 : wrap64 (Int.tdiv (n : Int) 10) = ((n / 10 : Nat) : Int) := by
        rw [Int.tdiv_eq_ediv_of_nonneg (by omega)]
        exact w64 _ (by omega) (by omega)
      have e2 : Int.tmod (n : Int) 10 = ((n % 10 : Nat) : Int) := by
        rw [Int.tmod_eq_emod_of_nonneg (by omega)]
        omega
      have e3 : strOfNums [(wrap64 (48 + Int.tmod (n : Int) 10)) % 256] = bs [UInt8.ofNat (48 + n % 10)] := by
        rw [e2]
        exact digit_num ⟨n % 10, Nat.mod_lt _ (by decide)⟩
      have e4 : Lib.decDigits n = Lib.decDigits (n / 10) ++ [UInt8.ofNat (48 + n % 10)] := by
        rw [Lib.decDigits, dif_neg c]
      have l1 := nDigits_le 13 (n / 10) (by decide) (by omega)
      have l2 : (bs (Lib.decDigits (n / 10))).size + (bs [UInt8.ofNat (48 + n % 10)]).size ≤ 9223372036854775807 := by
        rw [bs_size, bs_size, Lib.decDigits_length, List.length_singleton]
        clear e1 e2 e3 e4 ih
        omega
      refine Evt.bind1 ih (h := fun K t => (some ([(wrap64 (48 + (Int.tmod (n : Int) 10))) % 256] : List Int)).bind fun y => if t.size + (strOfNums y).size ≤ 9223372036854775807 then some (t ++ strOfNums y) else none) (Evt.const fun K => ?_) fun K => ?_
      · rw [Option.bind_some, e3, if_pos l2, bs_append, e4]
      · rw [spec_l01Number.f, if_neg (by clear e1 e2 e3 e4 ih; omega), if_neg (by clear e1 e2 e3 e4 ih; omega), e1]
theorem number_ev (a : Int) (h0 : -1000000000000 ≤ a) (h1 : a ≤ 1000000000000) : Evt (fun K => spec_l01Number.f K a) (bs (Lib.itoa a)) := by
  by_cases c : a < 0
  · have e1 : wrap64 (-a) = ((a.natAbs : Nat) : Int) := by
      rw [w64 _ (by omega) (by omega)]
      omega
    have hn := number_nat a.natAbs a.natAbs (Nat.le_refl _) (by clear e1; omega)
    have l1 := nDigits_le 13 a.natAbs (by decide) (by clear e1; omega)
    refine Evt.bind1 hn (h := fun K t => if 1 + t.size ≤ 9223372036854775807 then some ((⟨#[45]⟩ : ByteArray) ++ t) else none) (Evt.const fun K => ?_) fun K => ?_
    · rw [if_pos (by rw [bs_size, Lib.decDigits_length]; clear e1 hn; omega)]
      show some (bs [45] ++ bs _) = _
      rw [bs_append]
      unfold Lib.itoa
      rw [if_pos c]
      rfl
    · rw [spec_l01Number.f, if_pos c, e1]
  · obtain ⟨n, rfl⟩ : ∃ n : Nat, a = n := ⟨a.toNat, by omega⟩
    have hn := number_nat n n (Nat.le_refl _) (by omega)
    have e : Lib.itoa (n : Int) = Lib.decDigits n := by
      unfold Lib.itoa
      rw [if_neg c, Int.toNat_natCast]
    rw [e]
    exact hn

theorem specIsMatrix_l0 (a b : Int) (l : List Int) (hl : l.length ≤ 1048576) : ∀ (d i k : Nat), i + d = l.length → d < k →
    spec_IsMatrix.l0 k (i : Int) a b l = some (!((l.drop i).any matBad)) := by
  intro d
  induction d with
  | zero =>
    intro i k hd hk
    obtain ⟨k, rfl⟩ := succ_k hk
    simp only [spec_IsMatrix.l0]
    rw [if_neg (by omega), List.drop_of_length_le (by omega)]
    rfl
  | succ d ih =>
    intro i k hd hk
    obtain ⟨k, rfl⟩ := succ_k hk
    simp only [spec_IsMatrix.l0]
    rw [if_pos (by omega), if_pos (by omega), w64 _ (by omega) (by omega), cast_succ, ih (i + 1) k (by omega) (by omega), drop_rd l i (by omega)]
    unfold spec_l01In.f
    rw [List.any_cons]
    unfold matBad
    generalize rd l (i : Int) = y
    by_cases h1 : -1000000000000 ≤ y <;> by_cases h2 : y ≤ 1000000000000 <;> simp [h1, h2]
theorem prod48 (a b : Int) (h1 : 0 ≤ a) (h2 : a ≤ 48) (h3 : 0 ≤ b) (h4 : b ≤ 48) : 0 ≤ a * b ∧ a * b ≤ 2304 :=
  ⟨Int.mul_nonneg h1 h3, Int.le_trans (Int.mul_le_mul h2 h4 h3 (by omega)) (by omega)⟩
theorem specIsMatrix_eq (a b : Int) (l : List Int) (k : Nat) (hl : l.length ≤ 1048576) (hk : l.length + 1 < k) : spec_IsMatrix.f k a b l = some (isMatB a b l) := by
  obtain ⟨k, rfl⟩ := succ_k hk
  have hs := specIsMatrix_l0 a b l hl l.length 0 k (by omega) (by omega)
  unfold spec_IsMatrix.f spec_l01In.f isMatB
  simp only [spec_IsMatrix.j0]
  by_cases h1 : 0 ≤ a <;> by_cases h2 : a ≤ 48 <;> by_cases h3 : 0 ≤ b <;> by_cases h4 : b ≤ 48
  case pos =>
    have hp := prod48 a b h1 h2 h3 h4
    rw [w64 (a * b) (by omega) (by omega)]
    rw [Int.natCast_zero] at hs
    by_cases h5 : (l.length : Int) = a * b
    · have h5' : ((l.length : Int) != a * b) = false := by simp [h5]
      simp [h1, h2, h3, h4, h5, h5', hs]
    · have h5' : ((l.length : Int) != a * b) = true := by simp [h5]
      simp [h1, h2, h3, h4, h5, h5']
  all_goals simp [h1, h2, h3, h4]


theorem isMatB_len {a b : Int} {l : List Int} (h : isMatB a b l = true) : (0 ≤ a ∧ a ≤ 48) ∧ (0 ≤ b ∧ b ≤ 48) ∧ (l.length : Int) = a * b := by
  unfold isMatB at h
  simp only [Bool.and_eq_true, decide_eq_true_eq] at h
  exact ⟨h.1, h.2.1, h.2.2.1⟩


theorem joinTail_cons (sep x : List UInt8) (r : List (List UInt8)) : Lib.joinTail sep (x :: r) = sep ++ x ++ Lib.joinTail sep r := by
  unfold Lib.joinTail
  rw [List.map_cons, List.flatten_cons]
theorem tail_len (sep : List UInt8) (hs : sep.length ≤ 5) : ∀ l : List Int, (∀ x ∈ l, -1000000000000 ≤ x ∧ x ≤ 1000000000000) → (Lib.joinTail sep (l.map Lib.itoa)).length ≤ 20 * l.length
  | [], _ => Nat.le_refl _
  | x :: l, h => by
    have h1 := itoa_len x (h x List.mem_cons_self).1 (h x List.mem_cons_self).2
    have h2 := tail_len sep hs l fun y hy => h y (List.mem_cons_of_mem _ hy)
    rw [List.map_cons, joinTail_cons, List.length_append, List.length_append, List.length_cons]
    omega
theorem specMat_l0 (a b : Int) (l : List Int) (hl : l.length ≤ 2304) (hw : ∀ x ∈ l, -1000000000000 ≤ x ∧ x ≤ 1000000000000) : ∀ (d i : Nat) (acc : List UInt8), i + d = l.length → acc.length ≤ 100 + 20 * i →
    Evt (fun K => spec_FormatMatrix.l0 K (bs acc) (i : Int) a b l) (bs (acc ++ Lib.joinTail [32] ((l.drop i).map Lib.itoa)))
  | 0, i, acc, hd, _ => by
    rw [List.drop_of_length_le (by omega), List.map_nil, show Lib.joinTail [32] ([] : List (List UInt8)) = [] from rfl, List.append_nil]
    exact Evt.now fun K => by rw [spec_FormatMatrix.l0, if_neg (by omega)]
  | d + 1, i, acc, hd, ha => by
    have hi : i < l.length := by omega
    have hx := hw _ (List.getElem_mem hi)
    have er : rd l (i : Int) = l[i] := rd_nat l i hi
    have hn := number_ev l[i] hx.1 hx.2
    have hlen := itoa_len l[i] hx.1 hx.2
    have ei : wrap64 ((i : Int) + 1) = ((i + 1 : Nat) : Int) := w64n (i + 1) (by omega)
    have ih := specMat_l0 a b l hl hw d (i + 1) (acc ++ [32] ++ Lib.itoa l[i]) (by clear ei; omega) (by rw [List.length_append, List.length_append, List.length_singleton]; clear ei; omega)
    have s1 : (bs acc).size + 1 ≤ 9223372036854775807 := by rw [bs_size]; clear ei; omega
    have s2 : (bs (acc ++ [32])).size + (bs (Lib.itoa l[i])).size ≤ 9223372036854775807 := by rw [bs_size, bs_size, List.length_append, List.length_singleton]; clear ei; omega
    have f1 : (i : Int) < (l.length : Int) := Int.ofNat_lt.2 hi
    rw [List.drop_eq_getElem_cons hi, List.map_cons, joinTail_cons, ← List.append_assoc, ← List.append_assoc]
    refine Evt.bind1 hn (h := fun K t => if (bs acc ++ (⟨#[32]⟩ : ByteArray)).size + t.size ≤ 9223372036854775807 then spec_FormatMatrix.l0 K ((bs acc ++ (⟨#[32]⟩ : ByteArray)) ++ t) (wrap64 ((i : Int) + 1)) a b l else none) ?_ fun K => ?_
    · refine Evt.same ih fun K => ?_
      show (if (bs acc ++ bs [32]).size + _ ≤ _ then spec_FormatMatrix.l0 K ((bs acc ++ bs [32]) ++ _) _ a b l else none) = _
      rw [bs_append, if_pos s2, bs_append, ei]
    · rw [spec_FormatMatrix.l0, if_pos f1, if_pos s1, if_pos (Int.natCast_nonneg i), er]
theorem matB_in {a b : Int} {l : List Int} (h : isMatB a b l = true) : ((0 ≤ a ∧ a ≤ 48) ∧ (0 ≤ b ∧ b ≤ 48) ∧ l.length ≤ 2304) ∧ ∀ x ∈ l, -1000000000000 ≤ x ∧ x ≤ 1000000000000 := by
  obtain ⟨h1, h2, h3⟩ := isMatB_len h
  refine ⟨⟨h1, h2, by have := prod48 a b h1.1 h1.2 h2.1 h2.2; omega⟩, fun x hx => ?_⟩
  unfold isMatB at h
  simp only [Bool.and_eq_true] at h
  have h4 : l.any matBad = false := by simpa using h.2.2.2
  have h5 := List.any_eq_false.1 h4 x hx
  unfold matBad at h5
  simp only [Bool.not_eq_true, Bool.not_eq_false', Bool.and_eq_true, decide_eq_true_eq] at h5
  exact h5
theorem implDec_l0 (l : List Int) (sep : List UInt8) (hs : sep.length ≤ 5) (hl : l.length ≤ 2304) (hw : ∀ x ∈ l, -1000000000000 ≤ x ∧ x ≤ 1000000000000) : ∀ (d i : Nat), i + d = l.length →
    Evt (fun K => impl_decimals.l0 K (bs sep) ((l.take i).map fun x => bs (Lib.itoa x)) l (l.length : Int) (i : Int)) (bs (Lib.join (l.map Lib.itoa) sep))
  | 0, i, hd => by
    have e0 : (bs sep).data.toList = sep := by show sep.toArray.toList = sep; simp
    have e1 : (l.map fun x => bs (Lib.itoa x)).map (·.data.toList) = l.map Lib.itoa := by
      rw [List.map_map]
      exact List.map_congr_left fun x _ => by show (Lib.itoa x).toArray.toList = _; simp
    have hlen : (Lib.join (l.map Lib.itoa) sep).length ≤ 140737488355328 := by
      rcases l with _ | ⟨x, l⟩
      · rw [List.map_nil, Lib.join_nil]
        exact Nat.zero_le _
      · rw [List.map_cons, Lib.join_cons, List.length_append]
        have h1 := itoa_len x (hw x List.mem_cons_self).1 (hw x List.mem_cons_self).2
        have h2 := tail_len sep hs l fun y hy => hw y (List.mem_cons_of_mem _ hy)
        rw [List.length_cons] at hl
        omega
    refine Evt.now fun K => ?_
    rw [impl_decimals.l0, if_neg (by omega), List.take_of_length_le (by omega)]
    unfold strings_Join.f
    rw [e0, e1, if_pos ⟨hlen, by rw [List.length_map]; omega⟩]
    rfl
  | d + 1, i, hd => by
    have hi : i < l.length := by omega
    have hx := hw _ (List.getElem_mem hi)
    have er : rd l (i : Int) = l[i] := rd_nat l i hi
    have ei : wrap64 ((i : Int) + 1) = ((i + 1 : Nat) : Int) := w64n (i + 1) (by omega)
    have ih := implDec_l0 l sep hs hl hw d (i + 1) (by clear ei; omega)
    have f1 : (i : Int) < (l.length : Int) := Int.ofNat_lt.2 hi
    have f2 : ((l.take i).map fun x => bs (Lib.itoa x)).length < 8796093022208 := by rw [List.length_map, List.length_take]; clear ei; omega
    rw [List.take_succ_eq_append_getElem hi, List.map_append, List.map_cons, List.map_nil] at ih
    exact Evt.step ih fun K => by rw [impl_decimals.l0, if_pos f1, if_pos (Int.natCast_nonneg i), if_pos f1, er, decimal_eq _ hx.1 hx.2, Option.bind_some, if_pos f2, ei]
theorem formatMatrix_both (a b : Int) (l : List Int) (hl0 : l.length ≤ 1048576) (hi : impl_isMatrix.f a b l = some (isMatB a b l)) : ∃ s, Evt (fun K => spec_FormatMatrix.f K a b l) s ∧ Evt (fun K => impl_FormatMatrix.f K a b l) s := by
  have hsp : Evt (fun K => spec_IsMatrix.f K a b l) (isMatB a b l) := ⟨l.length + 2, fun K hK => specIsMatrix_eq a b l K hl0 (by omega)⟩
  by_cases hm : isMatB a b l = true
  · obtain ⟨⟨ha, hb, hl⟩, hw⟩ := matB_in hm
    have na := number_ev a (by omega) (by omega)
    have nb := number_ev b (by omega) (by omega)
    have la := itoa_len a (by omega) (by omega)
    have lb := itoa_len b (by omega) (by omega)
    have l0 := specMat_l0 a b l hl hw l.length 0 (Lib.itoa a ++ [120] ++ Lib.itoa b ++ [58]) (by omega) (by simp only [List.length_append, List.length_singleton]; omega)
    have s1 : (bs (Lib.itoa a)).size + 1 ≤ 9223372036854775807 := by rw [bs_size]; omega
    have s2 : (bs (Lib.itoa a ++ [120])).size + (bs (Lib.itoa b)).size ≤ 9223372036854775807 := by rw [bs_size, bs_size, List.length_append, List.length_singleton]; omega
    have s3 : (bs (Lib.itoa a ++ [120] ++ Lib.itoa b)).size + 1 ≤ 9223372036854775807 := by rw [bs_size, List.length_append, List.length_append, List.length_singleton]; omega
    have e0 : (bs (Lib.itoa a) ++ (⟨#[120]⟩ : ByteArray)) = bs (Lib.itoa a ++ [120]) := bs_append _ [120]
    have e1 : (bs (Lib.itoa a ++ [120] ++ Lib.itoa b) ++ (⟨#[58]⟩ : ByteArray)) = bs (Lib.itoa a ++ [120] ++ Lib.itoa b ++ [58]) := bs_append _ [58]
    rw [List.drop_zero] at l0
    refine ⟨bs (Lib.itoa a ++ [120] ++ Lib.itoa b ++ [58] ++ Lib.joinTail [32] (l.map Lib.itoa)), ?_, ?_⟩
    · refine Evt.bind hsp (h := fun K t117 => (if t117 = true then ((spec_l01Number.f K a).bind fun t118 => (if t118.size + 1 ≤ 9223372036854775807 then ((spec_l01Number.f K b).bind fun t119 => (if (t118 ++ (⟨#[120]⟩ : ByteArray)).size + t119.size ≤ 9223372036854775807 then (if ((t118 ++ (⟨#[120]⟩ : ByteArray)) ++ t119).size + 1 ≤ 9223372036854775807 then (spec_FormatMatrix.l0 K (((t118 ++ (⟨#[120]⟩ : ByteArray)) ++ t119) ++ (⟨#[58]⟩ : ByteArray)) 0 a b l) else (none)) else (none))) else (none))) else (some (⟨#[]⟩ : ByteArray)))) ?_ fun K => rfl
      rw [hm]
      refine Evt.bind na (h := fun K t118 => (if t118.size + 1 ≤ 9223372036854775807 then ((spec_l01Number.f K b).bind fun t119 => (if (t118 ++ (⟨#[120]⟩ : ByteArray)).size + t119.size ≤ 9223372036854775807 then (if ((t118 ++ (⟨#[120]⟩ : ByteArray)) ++ t119).size + 1 ≤ 9223372036854775807 then (spec_FormatMatrix.l0 K (((t118 ++ (⟨#[120]⟩ : ByteArray)) ++ t119) ++ (⟨#[58]⟩ : ByteArray)) 0 a b l) else (none)) else (none))) else (none))) ?_ fun K => if_pos rfl
      refine Evt.bind nb (h := fun K t119 => (if (bs (Lib.itoa a) ++ (⟨#[120]⟩ : ByteArray)).size + t119.size ≤ 9223372036854775807 then (if ((bs (Lib.itoa a) ++ (⟨#[120]⟩ : ByteArray)) ++ t119).size + 1 ≤ 9223372036854775807 then (spec_FormatMatrix.l0 K (((bs (Lib.itoa a) ++ (⟨#[120]⟩ : ByteArray)) ++ t119) ++ (⟨#[58]⟩ : ByteArray)) 0 a b l) else (none)) else (none))) ?_ fun K => if_pos s1
      exact Evt.same l0 fun K => by rw [e0, if_pos s2, bs_append, if_pos s3, e1]; rfl
    · rcases l with _ | ⟨x, l⟩
      · refine Evt.const fun K => ?_
        unfold impl_FormatMatrix.f
        rw [hi, Option.bind_some, if_pos hm, decimal_eq a (by omega) (by omega), Option.bind_some, if_pos s1, decimal_eq b (by omega) (by omega), Option.bind_some, e0, if_pos s2, bs_append, if_pos s3, if_neg (by simp), e1]
        rw [List.map_nil, show Lib.joinTail [32] ([] : List (List UInt8)) = [] from rfl, List.append_nil]
      · have hd := implDec_l0 (x :: l) [32] (by decide) hl hw (x :: l).length 0 (Nat.zero_add _)
        have ht := tail_len [32] (by decide) (x :: l) hw
        have hj : [32] ++ Lib.join ((x :: l).map Lib.itoa) [32] = Lib.joinTail [32] ((x :: l).map Lib.itoa) := by rw [List.map_cons, Lib.join_cons, joinTail_cons, List.append_assoc]
        have s4 : 1 + (bs (Lib.join ((x :: l).map Lib.itoa) [32])).size ≤ 9223372036854775807 := by
          have := congrArg List.length hj
          rw [List.length_append, List.length_singleton] at this
          rw [bs_size, this]
          omega
        have e5 : (⟨#[32]⟩ : ByteArray) ++ bs (Lib.join ((x :: l).map Lib.itoa) [32]) = bs (Lib.joinTail [32] ((x :: l).map Lib.itoa)) := by rw [← hj]; exact bs_append [32] _
        have s5 : (bs (Lib.itoa a ++ [120] ++ Lib.itoa b ++ [58])).size + (bs (Lib.joinTail [32] ((x :: l).map Lib.itoa))).size ≤ 9223372036854775807 := by
          rw [bs_size, bs_size]
          simp only [List.length_append, List.length_singleton]
          omega
        refine Evt.bind hd (h := fun K t143 => (if 1 + t143.size ≤ 9223372036854775807 then (if (((bs (Lib.itoa a) ++ (⟨#[120]⟩ : ByteArray)) ++ bs (Lib.itoa b)) ++ (⟨#[58]⟩ : ByteArray)).size + ((⟨#[32]⟩ : ByteArray) ++ t143).size ≤ 9223372036854775807 then (some ((((bs (Lib.itoa a) ++ (⟨#[120]⟩ : ByteArray)) ++ bs (Lib.itoa b)) ++ (⟨#[58]⟩ : ByteArray)) ++ ((⟨#[32]⟩ : ByteArray) ++ t143))) else (none)) else (none))) (Evt.const fun K => ?_) fun K => ?_
        · rw [if_pos s4, e0, bs_append, e1, e5, if_pos s5, bs_append]
        · unfold impl_FormatMatrix.f
          rw [hi, Option.bind_some, if_pos hm, decimal_eq a (by omega) (by omega), Option.bind_some, if_pos s1, decimal_eq b (by omega) (by omega), Option.bind_some, e0, if_pos s2, bs_append, if_pos s3, if_pos (by rw [List.length_cons]; omega)]
          unfold impl_decimals.f
          rw [List.take_zero, List.map_nil]
          rfl
  · refine ⟨⟨#[]⟩, ?_, ?_⟩
    · refine Evt.bind hsp (h := fun K t117 => (if t117 = true then ((spec_l01Number.f K a).bind fun t118 => (if t118.size + 1 ≤ 9223372036854775807 then ((spec_l01Number.f K b).bind fun t119 => (if (t118 ++ (⟨#[120]⟩ : ByteArray)).size + t119.size ≤ 9223372036854775807 then (if ((t118 ++ (⟨#[120]⟩ : ByteArray)) ++ t119).size + 1 ≤ 9223372036854775807 then (spec_FormatMatrix.l0 K (((t118 ++ (⟨#[120]⟩ : ByteArray)) ++ t119) ++ (⟨#[58]⟩ : ByteArray)) 0 a b l) else (none)) else (none))) else (none))) else (some (⟨#[]⟩ : ByteArray)))) (Evt.const fun K => if_neg hm) fun K => rfl
    · refine Evt.const fun K => ?_
      unfold impl_FormatMatrix.f
      rw [hi, Option.bind_some, if_neg hm]

theorem FnExactFormatMatrix : laws_FnExactFormatMatrix.Pure := by
  intro a b l _ _ hl _
  by_cases h : (1048576 : Int) < l.length
  · refine ⟨0, ?_⟩
    unfold laws_FnExactFormatMatrix.f
    rw [szMatrix_eq a b l 1048576 (by omega) (by omega) hl, Option.bind_some, if_pos h, if_pos (by omega)]
  · have hl2 : l.length ≤ 1048576 := by omega
    obtain ⟨s, ⟨k1, h1⟩, ⟨k2, h2⟩⟩ := formatMatrix_both a b l hl2 rfl
    obtain ⟨K, hK⟩ : ∃ K : Nat, K = k1 + k2 + 1048600 := ⟨_, rfl⟩
    have g1 := h1 K (by omega)
    have g2 := h2 K (by omega)
    simp only at g1 g2
    refine ⟨K, ?_⟩
    unfold laws_FnExactFormatMatrix.f
    rw [szMatrix_eq a b l 1048576 (by omega) (by omega) hl, Option.bind_some, if_neg h, if_neg (by omega), toMatrix_eq a b l K hl2 (by omega), Option.bind_some]
    simp only
    rw [g1, Option.bind_some, Option.bind_some]
    simp only
    rw [g2, Option.bind_some, if_pos rfl, Option.bind_some]
    simp only
    rw [eqMatrix_self a b l K (by omega) (by omega)]
    rfl

end Go.Proofs.YtgnbcbcjafkpcaaDoor.Pure
