/- Program and reference write the same text of a polynomial, and leave it. No condition: for every input that the statement lets in. -/
import Derived.Test.YtgnbcbcjafkpcaaDoorStmtFnExactFormatLaurent
namespace Go.Proofs.YtgnbcbcjafkpcaaDoor.Pure
open Go.RowKit Go.Proofs.YtgnbcbcjafkpcaaDoor.PFnExactFormatLaurent Go.Proofs.YtgnbcbcjafkpcaaDoorW.PrintWords Go.Proofs.YtgnbcbcjafkpcaaDoorW.PrintLast

set_option linter.unusedSimpArgs false
set_option linter.unusedVariables false
set_option linter.unusedSectionVars false
theorem w64 (x : Int) (h0 : -9223372036854775808 ≤ x) (h1 : x ≤ 9223372036854775807) : wrap64 x = x := by
  unfold wrap64
  omega
theorem w64n (n : Nat) (h : n ≤ 9223372036854775807) : wrap64 (n : Int) = (n : Int) := w64 _ (by omega) (by omega)
theorem rd_nat (l : List Int) (i : Nat) (h : i < l.length) : rd l (i : Int) = l[i] := by
  simp [rd, List.getD, List.getElem?_eq_getElem h]
theorem succ_k {k n : Nat} (h : n < k) : ∃ m, k = m + 1 := ⟨k - 1, by omega⟩
theorem cast_succ (i : Nat) : ((i : Int) + 1) = ((i + 1 : Nat) : Int) := by omega
theorem drop_rd (l : List Int) (k : Nat) (h : k < l.length) : l.drop k = rd l (k : Int) :: l.drop (k + 1) := by
  rw [List.drop_eq_getElem_cons h, rd_nat l k h]


theorem szInt64S_eq (l : List Int) (a : Int) (h0 : 0 ≤ a) (h1 : a ≤ 1048576) (hl : l.length ≤ maxLen) : laws_szInt64S.f l a = some (if a < l.length then -1 else a - l.length) := by
  unfold maxLen at hl
  unfold laws_szInt64S.f
  rw [w64 _ (by omega) (by omega)]
  by_cases h : a < l.length
  · rw [if_pos (by omega), if_pos h]
  · rw [if_neg (by omega), if_neg h]


theorem szLaurent_eq (a : Int) (l : List Int) (m : Int) (h0 : 0 ≤ m) (h1 : m ≤ 1048576) (hl : l.length ≤ maxLen) : laws_szLaurent.f a l m = some (if m < l.length then -1 else m - l.length) := by
  unfold laws_szLaurent.f
  rw [szInt64S_eq l m h0 h1 hl]
  simp only [Option.bind_some]
  by_cases h : m < l.length
  · rw [if_pos h, if_pos (by omega)]
  · rw [if_neg h, if_neg (by omega)]


theorem toInt64S_l0 (l : List Int) (hl : l.length ≤ 4611686018427387904) : ∀ (d i : Nat) (x3 : List Int) (k : Nat), x3.length = l.length → i + d = l.length → x3.take i = l.take i → d < k → laws_toInt64S.l0 k l x3 (i : Int) = some l := by
  intro d
  induction d with
  | zero =>
    intro i x3 k h3 hd ht hk
    obtain ⟨k, rfl⟩ := succ_k hk
    simp only [laws_toInt64S.l0]
    rw [if_neg (by omega)]
    have e : i = l.length := by omega
    subst e
    rw [List.take_length, List.take_of_length_le (by omega)] at ht
    rw [ht]
  | succ d ih =>
    intro i x3 k h3 hd ht hk
    obtain ⟨k, rfl⟩ := succ_k hk
    simp only [laws_toInt64S.l0]
    rw [if_pos (by omega), if_pos (by omega), if_pos (by omega), w64 _ (by omega) (by omega), cast_succ]
    refine ih (i + 1) _ k (by simp [h3]) (by omega) ?_ (by omega)
    rw [Int.toNat_natCast, rd_nat l i (by omega)]
    rw [List.take_succ_eq_append_getElem (by simp; omega), List.take_succ_eq_append_getElem (by omega), List.take_set_of_le (by omega), ht]
    simp
theorem toInt64S_eq (l : List Int) (k : Nat) (hl : l.length ≤ 1048576) (hk : l.length < k) : laws_toInt64S.f k l = some l := by
  unfold laws_toInt64S.f
  rw [if_pos (by omega), if_pos (by omega)]
  exact toInt64S_l0 l (by omega) l.length 0 _ k (by simp) (by omega) (by simp) hk


theorem toLaurent_eq (a : Int) (l : List Int) (k : Nat) (hl : l.length ≤ 1048576) (hk : l.length < k) : laws_toLaurent.f k a l = some (a, l) := by
  unfold laws_toLaurent.f
  rw [toInt64S_eq l k hl hk]
  rfl


theorem eqInt64S_l0 (l r : List Int) (hr : r.length = l.length) (hl : l.length ≤ 4611686018427387904) : ∀ (d i k : Nat), i + d = l.length → d < k → laws_eqInt64S.l0 k l r (i : Int) = some (decide (l.drop i = r.drop i)) := by
  intro d
  induction d with
  | zero =>
    intro i k hd hk
    obtain ⟨k, rfl⟩ := succ_k hk
    simp only [laws_eqInt64S.l0]
    rw [if_neg (by omega), List.drop_of_length_le (by omega), List.drop_of_length_le (by omega)]
    simp
  | succ d ih =>
    intro i k hd hk
    obtain ⟨k, rfl⟩ := succ_k hk
    simp only [laws_eqInt64S.l0]
    rw [if_pos (by omega), if_pos (by omega), if_pos (by omega), w64 _ (by omega) (by omega), cast_succ, ih (i + 1) k (by omega) (by omega), drop_rd l i (by omega), drop_rd r i (by omega)]
    by_cases h : rd l (i : Int) = rd r (i : Int)
    · simp [h]
    · simp [h]
theorem eqInt64S_eq (l r : List Int) (k : Nat) (hl : l.length ≤ 4611686018427387904) (hk : l.length < k) : laws_eqInt64S.f k l r = some (decide (l = r)) := by
  unfold laws_eqInt64S.f
  by_cases h : l.length = r.length
  · rw [if_pos (by omega)]
    have := eqInt64S_l0 l r h.symm hl l.length 0 k (by omega) hk
    simpa using this
  · rw [if_neg (by omega)]
    have : ¬ l = r := fun e => h (by rw [e])
    simp [this]
theorem eqInt64S_self (l : List Int) (k : Nat) (hl : l.length ≤ 4611686018427387904) (hk : l.length < k) : laws_eqInt64S.f k l l = some true := by
  rw [eqInt64S_eq l l k hl hk]
  simp


theorem eqLaurent_self (a : Int) (l : List Int) (k : Nat) (hl : l.length ≤ 4611686018427387904) (hk : l.length < k) : laws_eqLaurent.f k a l a l = some true := by
  unfold laws_eqLaurent.f
  rw [if_pos rfl, eqInt64S_self l k hl hk]
  rfl


/-- With enough rounds, the answer is r. -/
def Evt {α : Type} (f : Nat → Option α) (r : α) : Prop := ∃ c, ∀ K, c ≤ K → f K = some r
theorem Evt.step {α : Type} {f g : Nat → Option α} {r : α} (h : Evt g r) (e : ∀ K, f (K + 1) = g K) : Evt f r := by
  obtain ⟨c, hc⟩ := h
  refine ⟨c + 1, fun K hK => ?_⟩
  obtain ⟨K, rfl⟩ : ∃ m, K = m + 1 := ⟨K - 1, by omega⟩
  rw [e K]
  exact hc K (by omega)
theorem Evt.same {α : Type} {f g : Nat → Option α} {r : α} (h : Evt g r) (e : ∀ K, f K = g K) : Evt f r := by
  obtain ⟨c, hc⟩ := h
  exact ⟨c, fun K hK => by rw [e K]; exact hc K hK⟩
theorem Evt.now {α : Type} {f : Nat → Option α} {r : α} (e : ∀ K, f (K + 1) = some r) : Evt f r := by
  refine ⟨1, fun K hK => ?_⟩
  obtain ⟨K, rfl⟩ : ∃ m, K = m + 1 := ⟨K - 1, by omega⟩
  exact e K
theorem Evt.const {α : Type} {f : Nat → Option α} {r : α} (e : ∀ K, f K = some r) : Evt f r := ⟨0, fun K _ => e K⟩
theorem Evt.bind {α β : Type} {f : Nat → Option β} {g : Nat → Option α} {h : Nat → α → Option β} {x : α} {r : β} (hg : Evt g x) (hh : Evt (fun K => h K x) r) (e : ∀ K, f K = (g K).bind (h K)) : Evt f r := by
  obtain ⟨c, hc⟩ := hg
  obtain ⟨d, hd⟩ := hh
  exact ⟨c + d, fun K hK => by rw [e K, hc K (by omega)]; exact hd K (by omega)⟩
theorem Evt.bind1 {α β : Type} {f : Nat → Option β} {g : Nat → Option α} {h : Nat → α → Option β} {x : α} {r : β} (hg : Evt g x) (hh : Evt (fun K => h K x) r) (e : ∀ K, f (K + 1) = (g K).bind (h K)) : Evt f r :=
  Evt.step (g := fun K => (g K).bind (h K)) (Evt.bind hg hh fun _ => rfl) e
theorem Evt.get {α : Type} {f : Nat → Option α} {r : α} (h : Evt f r) : ∃ c, ∀ K, c ≤ K → f K = some r := h

/-- A text of these bytes. -/
def bs (l : List UInt8) : ByteArray := ⟨l.toArray⟩
theorem bs_append (x y : List UInt8) : bs x ++ bs y = bs (x ++ y) := by
  apply ByteArray.ext
  rw [ByteArray.data_append]
  show x.toArray ++ y.toArray = (x ++ y).toArray
  simp
theorem bs_size (x : List UInt8) : (bs x).size = x.length := by
  show x.toArray.size = _
  simp
theorem nDigits_le : ∀ (k u : Nat), 1 ≤ k → u < 10 ^ k → Lib.nDigits u ≤ k
  | 0, _, h, _ => absurd h (by omega)
  | k + 1, u, _, hu => by
    by_cases c : u < 10
    · rw [Lib.nDigits_small c]
      omega
    · rw [Lib.nDigits_big c]
      have hk : 1 ≤ k := by
        rcases k with _ | k
        · simp at hu; omega
        · omega
      have := nDigits_le k (u / 10) hk (by rw [Nat.pow_succ] at hu; omega)
      omega
theorem itoa_len (a : Int) (h0 : -1000000000000 ≤ a) (h1 : a ≤ 1000000000000) : (Lib.itoa a).length ≤ 14 := by
  unfold Lib.itoa
  by_cases c : a < 0
  · rw [if_pos c, List.length_cons, Lib.decDigits_length]
    have := nDigits_le 13 a.natAbs (by decide) (by omega)
    omega
  · rw [if_neg c, Lib.decDigits_length]
    have := nDigits_le 13 a.toNat (by decide) (by omega)
    omega
theorem itoa_ne (a : Int) : Lib.itoa a ≠ [] := by
  unfold Lib.itoa
  by_cases c : a < 0
  · rw [if_pos c]
    exact List.cons_ne_nil _ _
  · rw [if_neg c]
    intro h
    have h2 := Lib.decDigits_length a.toNat
    have h3 := Lib.nDigits_pos a.toNat
    rw [h, List.length_nil] at h2
    omega
theorem decimal_eq (a : Int) (h0 : -1000000000000 ≤ a) (h1 : a ≤ 1000000000000) : impl_decimal.f a = some (bs (Lib.itoa a)) := by
  unfold impl_decimal.f
  rw [if_pos ⟨by omega, by omega⟩]
  rfl

theorem digit_num : ∀ n : Fin 10, strOfNums [(wrap64 (48 + (n.val : Int))) % 256] = bs [UInt8.ofNat (48 + n.val)] := by decide +kernel
theorem number_nat : ∀ (d n : Nat), n ≤ d → n ≤ 100000000000000000 → Evt (fun K => spec_l01Number.f K (n : Int)) (bs (Lib.decDigits n))
  | d, n, hd, hn => by
    by_cases c : n < 10
    · refine Evt.now fun K => ?_
      rw [spec_l01Number.f, if_neg (by omega), if_pos (by omega), digit_num ⟨n, c⟩, Lib.decDigits_one c]
    · rcases d with _ | d
      · omega
      have ih := number_nat d (n / 10) (by omega) (by omega)
      have e1 : wrap64 (Int.tdiv (n : Int) 10) = ((n / 10 : Nat) : Int) := by
        rw [Int.tdiv_eq_ediv_of_nonneg (by omega)]
        exact w64 _ (by omega) (by omega)
      have e2 : Int.tmod (n : Int) 10 = ((n % 10 : Nat) : Int) := by
        rw [Int.tmod_eq_emod_of_nonneg (by omega)]
        omega
      have e3 : strOfNums [(wrap64 (48 + Int.tmod (n : Int) 10)) % 256] = bs [UInt8.ofNat (48 + n % 10)] := by
        rw [e2]
        exact digit_num ⟨n % 10, Nat.mod_lt _ (by decide)⟩
      have e4 : Lib.decDigits n = Lib.decDigits (n / 10) ++ [UInt8.ofNat (48 + n % 10)] := by
        rw [Lib.decDigits, dif_neg c]
      have l1 := nDigits_le 18 (n / 10) (by decide) (by omega)
      have l2 : (bs (Lib.decDigits (n / 10))).size + (bs [UInt8.ofNat (48 + n % 10)]).size ≤ 9223372036854775807 := by
        rw [bs_size, bs_size, Lib.decDigits_length, List.length_singleton]
        clear e1 e2 e3 e4 ih
        omega
      refine Evt.bind1 ih (h := fun K t => (some ([(wrap64 (48 + (Int.tmod (n : Int) 10))) % 256] : List Int)).bind fun y => if t.size + (strOfNums y).size ≤ 9223372036854775807 then some (t ++ strOfNums y) else none) (Evt.const fun K => ?_) fun K => ?_
      · rw [Option.bind_some, e3, if_pos l2, bs_append, e4]
      · rw [spec_l01Number.f, if_neg (by clear e1 e2 e3 e4 ih; omega), if_neg (by clear e1 e2 e3 e4 ih; omega), e1]
theorem number_big (a : Int) (h0 : -100000000000000000 ≤ a) (h1 : a ≤ 100000000000000000) : Evt (fun K => spec_l01Number.f K a) (bs (Lib.itoa a)) := by
  by_cases c : a < 0
  · have e1 : wrap64 (-a) = ((a.natAbs : Nat) : Int) := by
      rw [w64 _ (by omega) (by omega)]
      omega
    have hn := number_nat a.natAbs a.natAbs (Nat.le_refl _) (by clear e1; omega)
    have l1 := nDigits_le 18 a.natAbs (by decide) (by clear e1; omega)
    refine Evt.bind1 hn (h := fun K t => if 1 + t.size ≤ 9223372036854775807 then some ((⟨#[45]⟩ : ByteArray) ++ t) else none) (Evt.const fun K => ?_) fun K => ?_
    · rw [if_pos (by rw [bs_size, Lib.decDigits_length]; clear e1 hn; omega)]
      show some (bs [45] ++ bs _) = _
      rw [bs_append]
      unfold Lib.itoa
      rw [if_pos c]
      rfl
    · rw [spec_l01Number.f, if_pos c, e1]
  · obtain ⟨n, rfl⟩ : ∃ n : Nat, a = n := ⟨a.toNat, by omega⟩
    have hn := number_nat n n (Nat.le_refl _) (by omega)
    have e : Lib.itoa (n : Int) = Lib.decDigits n := by
      unfold Lib.itoa
      rw [if_neg c, Int.toNat_natCast]
    rw [e]
    exact hn
theorem number_ev (a : Int) (h0 : -1000000000000 ≤ a) (h1 : a ≤ 1000000000000) : Evt (fun K => spec_l01Number.f K a) (bs (Lib.itoa a)) := number_big a (by omega) (by omega)

def inR (x : Int) : Bool := decide (-1000000000000 ≤ x) && decide (x ≤ 1000000000000)
def lauC (a : Int) (l : List Int) : Prop := l.length ≤ 160 ∧ rd l 0 ≠ 0 ∧ rd l ((l.length - 1 : Nat) : Int) ≠ 0 ∧ -240 ≤ a ∧ a ≤ 240 ∧ a + l.length - 1 ≤ 240
instance (a : Int) (l : List Int) : Decidable (lauC a l) := by unfold lauC; infer_instance
/-- Is it a Laurent polynomial in its normal form? -/
def isLauB (a : Int) (l : List Int) : Bool := if l.length = 0 then a == 0 else decide (lauC a l) && l.all inR
theorem last_idx (l : List Int) (h : ¬ l.length = 0) (hl : l.length ≤ 4611686018427387904) : wrap64 ((l.length : Int) - 1) = ((l.length - 1 : Nat) : Int) := by
  rw [w64 _ (by omega) (by omega)]
  omega


theorem specIsLaurent_l0 (a : Int) (l : List Int) (hl : l.length ≤ 4611686018427387904) : ∀ (d i k : Nat), i + d = l.length → d < k →
    spec_IsLaurent.l0 k (i : Int) a l = some ((l.drop i).all inR) := by
  intro d
  induction d with
  | zero =>
    intro i k hd hk
    obtain ⟨k, rfl⟩ := succ_k hk
    simp only [spec_IsLaurent.l0]
    rw [if_neg (by omega), List.drop_of_length_le (by omega)]
    rfl
  | succ d ih =>
    intro i k hd hk
    obtain ⟨k, rfl⟩ := succ_k hk
    simp only [spec_IsLaurent.l0]
    rw [if_pos (by omega), if_pos (by omega), w64 _ (by omega) (by omega), cast_succ, ih (i + 1) k (by omega) (by omega), drop_rd l i (by omega), List.all_cons]
    unfold spec_l01In.f inR
    generalize rd l (i : Int) = y
    by_cases h1 : -1000000000000 ≤ y <;> by_cases h2 : y ≤ 1000000000000 <;> simp [h1, h2]
theorem specIsLaurent_eq (a : Int) (l : List Int) (k : Nat) (hl : l.length ≤ 1048576) (hk : l.length + 1 < k) : spec_IsLaurent.f k a l = some (isLauB a l) := by
  obtain ⟨k, rfl⟩ := succ_k hk
  have hs := specIsLaurent_l0 a l (by omega) l.length 0 k (by omega) (by omega)
  rw [Int.natCast_zero, List.drop_zero] at hs
  unfold spec_IsLaurent.f spec_l01In.f isLauB
  by_cases h0 : l.length = 0
  · rw [if_pos (by omega), if_pos h0]
  rw [if_neg (by omega), if_neg h0, last_idx l h0 (by omega)]
  simp only [spec_IsLaurent.j0]
  by_cases h1 : l.length ≤ 160
  case neg => rw [if_pos (by omega), decide_eq_false (fun h => h1 h.1)]; rfl
  rw [if_neg (by omega)]
  by_cases h2 : a ≥ -240
  case neg => rw [if_neg h2, decide_eq_false (fun h => h2 h.2.2.2.1)]; rfl
  rw [if_pos h2]
  by_cases h3 : a ≤ 240
  case neg => rw [decide_eq_false h3, decide_eq_false (fun h => h3 h.2.2.2.2.1)]; rfl
  rw [decide_eq_true h3]
  simp only [Option.bind_some, if_true]
  rw [w64 (a + l.length) (by omega) (by omega), w64 (a + l.length - 1) (by omega) (by omega)]
  by_cases h4 : a + l.length - 1 > 240
  · rw [if_pos h4, decide_eq_false (fun h => by have := h.2.2.2.2.2; omega)]; rfl
  rw [if_neg h4, if_pos (by omega)]
  by_cases h5 : rd l 0 = 0
  · rw [if_pos h5, decide_eq_false (fun h => h.2.1 h5)]; rfl
  rw [if_neg h5, if_pos (by omega), if_pos (by omega)]
  by_cases h6 : rd l ((l.length - 1 : Nat) : Int) = 0
  · rw [beq_iff_eq.2 h6, if_pos rfl, decide_eq_false (fun h => h.2.2.1 h6)]; rfl
  rw [if_neg (by simpa using h6), hs, decide_eq_true (show lauC a l from ⟨h1, h5, h6, h2, h3, by omega⟩)]
  rfl


theorem any_lauBad (l : List Int) : (!(l.any lauBad)) = l.all inR := by
  induction l with
  | nil => rfl
  | cons x r ih =>
    rw [List.any_cons, List.all_cons, Bool.not_or, ih]
    unfold lauBad inR
    simp
theorem implisLaurent_eq (a : Int) (l : List Int) (ha : (Lit.int .i64 a).wf = true) (hl : l.length ≤ 1048576) : impl_isLaurent.f a l = some (isLauB a l) := by
  have hw : -9223372036854775808 ≤ a ∧ a ≤ 9223372036854775807 := by simpa [Lit.wf, IntKind.min, IntKind.max, IntKind.signed, IntKind.bits] using ha
  unfold impl_isLaurent.f impl_Laurent_high.f impl_size_int64.f anyLaurentBad.f isLauB
  by_cases h0 : l.length = 0
  · rw [if_pos (by omega), if_pos h0]
  rw [if_neg (by omega), if_neg h0, last_idx l h0 (by omega)]
  by_cases h1 : l.length ≤ 160
  case neg => rw [if_neg (by omega), decide_eq_false (fun h => h1 h.1)]; rfl
  rw [if_pos (by omega), if_pos (by omega)]
  by_cases h5 : rd l 0 = 0
  · rw [if_pos h5, decide_eq_false (fun h => h.2.1 h5)]; rfl
  rw [if_neg h5, if_pos (by omega), if_pos (by omega)]
  by_cases h6 : rd l ((l.length - 1 : Nat) : Int) = 0
  · rw [if_pos h6, decide_eq_false (fun h => h.2.2.1 h6)]; rfl
  rw [if_neg h6]
  by_cases h2 : a ≥ -240
  case neg => rw [if_neg h2, decide_eq_false (fun h => h2 h.2.2.2.1)]; rfl
  rw [if_pos h2]
  simp only [Option.bind_some]
  by_cases h3 : a ≤ 240
  case neg => rw [if_neg h3, decide_eq_false (fun h => h3 h.2.2.2.2.1)]; simp
  rw [if_pos h3, w64 (a + l.length) (by omega) (by omega), w64 (a + l.length - 1) (by omega) (by omega)]
  by_cases h4 : a + l.length - 1 ≤ 240
  case neg => rw [if_neg h4, decide_eq_false (fun h => by have := h.2.2.2.2.2; omega)]; rfl
  rw [if_pos h4, any_lauBad, decide_eq_true (show lauC a l from ⟨h1, h5, h6, h2, h3, by omega⟩)]
  rfl
theorem isLauB_len {a : Int} {l : List Int} (h : isLauB a l = true) : l.length ≤ 160 ∧ -240 ≤ a ∧ a ≤ 240 ∧ (l.length = 0 → a = 0) ∧ (¬ l.length = 0 → a + l.length - 1 ≤ 240) := by
  unfold isLauB at h
  by_cases h0 : l.length = 0
  · rw [if_pos h0] at h
    have : a = 0 := by simpa using h
    omega
  · rw [if_neg h0] at h
    simp only [Bool.and_eq_true, decide_eq_true_eq] at h
    obtain ⟨⟨h1, h2, h3, h4, h5, h6⟩, _⟩ := h
    omega


theorem bs_tl (x : List UInt8) : (bs x).toList = x := by
  rw [ByteArray.toList_eq]
  show x.toArray.toList = x
  simp
theorem termB_len (c e : Int) (hc : -1000000000000 ≤ c ∧ c ≤ 1000000000000) (he : -1000 ≤ e ∧ e ≤ 1000) : (termB c e).length ≤ 31 := by
  unfold termB
  have h1 := itoa_len c hc.1 hc.2
  have h2 := itoa_len e (by omega) (by omega)
  by_cases h : c = 0
  · rw [if_pos h]
    exact Nat.zero_le _
  · rw [if_neg h, List.length_append, List.length_append]
    have z1 : (if 0 < c then [43] else [] : List UInt8).length ≤ 1 := by split <;> simp
    have z2 : (if e = 0 then [] else [116, 94] ++ Lib.itoa e : List UInt8).length ≤ 16 := by
      split
      · simp
      · rw [List.length_append]
        show 2 + _ ≤ _
        omega
    omega
theorem termsB_len (a : Int) (l : List Int) (ha : -240 ≤ a ∧ a ≤ 240) (hl : l.length ≤ 160) (hw : ∀ x ∈ l, -1000000000000 ≤ x ∧ x ≤ 1000000000000) : ∀ i, i ≤ l.length → (termsB a l i).length ≤ 31 * i
  | 0, _ => Nat.le_refl _
  | i + 1, h => by
    have ih := termsB_len a l ha hl hw i (by omega)
    have er : rd l (i : Int) = l[i] := rd_nat l i h
    have h1 := termB_len l[i] (a + i) (hw _ (List.getElem_mem h)) (by omega)
    rw [termsB, List.length_append, er]
    omega
theorem fl_j1 (a : Int) (l : List Int) (i : Nat) (Q : List UInt8) (e c : Int) (r : ByteArray) (hi : i < l.length) (hl : l.length ≤ 160) (hc : rd l (i : Int) = c) (hcw : -1000000000000 ≤ c ∧ c ≤ 1000000000000) (he : -1000 ≤ e ∧ e ≤ 1000) (hQ : Q.length ≤ 10000)
    (ih : Evt (fun K => spec_FormatLaurent.l0 K (bs (Q ++ (Lib.itoa c ++ (if e = 0 then [] else [116, 94] ++ Lib.itoa e)))) ((i + 1 : Nat) : Int) a l) r) : Evt (fun K => spec_FormatLaurent.j1 K (bs Q) (i : Int) e a l) r := by
  have ei : wrap64 ((i : Int) + 1) = ((i + 1 : Nat) : Int) := w64n (i + 1) (by omega)
  have z1 := itoa_len c hcw.1 hcw.2
  have z2 := itoa_len e (by omega) (by omega)
  refine Evt.bind1 (number_ev c hcw.1 hcw.2) (h := fun K t => if (bs Q).size + t.size ≤ 9223372036854775807 then (if e = 0 then spec_FormatLaurent.l0 K (bs Q ++ t) (wrap64 ((i : Int) + 1)) a l else (if (bs Q ++ t).size + 2 ≤ 9223372036854775807 then ((spec_l01Number.f K e).bind fun t123 => (if ((bs Q ++ t) ++ (⟨#[116, 94]⟩ : ByteArray)).size + t123.size ≤ 9223372036854775807 then (spec_FormatLaurent.l0 K (((bs Q ++ t) ++ (⟨#[116, 94]⟩ : ByteArray)) ++ t123) (wrap64 ((i : Int) + 1)) a l) else none)) else none)) else none) ?_ fun K => ?_
  · have s1 : (bs Q).size + (bs (Lib.itoa c)).size ≤ 9223372036854775807 := by rw [bs_size, bs_size]; clear ei; omega
    by_cases he0 : e = 0
    · refine Evt.same ih fun K => ?_
      rw [if_pos s1, if_pos he0, if_pos he0, ei, bs_append, List.append_nil]
    · refine Evt.bind (number_ev e (by omega) (by omega)) (h := fun K t123 => if ((bs Q ++ bs (Lib.itoa c)) ++ (⟨#[116, 94]⟩ : ByteArray)).size + t123.size ≤ 9223372036854775807 then (spec_FormatLaurent.l0 K (((bs Q ++ bs (Lib.itoa c)) ++ (⟨#[116, 94]⟩ : ByteArray)) ++ t123) (wrap64 ((i : Int) + 1)) a l) else none) ?_ fun K => ?_
      · refine Evt.same ih fun K => ?_
        show (if ((bs Q ++ bs (Lib.itoa c)) ++ bs [116, 94]).size + _ ≤ _ then spec_FormatLaurent.l0 K (((bs Q ++ bs (Lib.itoa c)) ++ bs [116, 94]) ++ _) _ a l else none) = _
        rw [bs_append, bs_append, bs_append, if_pos (by
          rw [bs_size, bs_size, List.length_append, List.length_append]
          show _ + _ + 2 + _ ≤ _
          clear ei
          omega), ei, if_neg he0]
        congr 2
        rw [List.append_assoc, List.append_assoc]
      · rw [if_pos s1, if_neg he0, if_pos (by rw [bs_append, bs_size, List.length_append]; clear ei; omega)]
  · rw [spec_FormatLaurent.j1, if_pos (Int.natCast_nonneg i), if_pos (Int.ofNat_lt.2 hi), hc]
theorem fl_l0 (a : Int) (l : List Int) (ha : -240 ≤ a ∧ a ≤ 240) (hl : l.length ≤ 160) (hw : ∀ x ∈ l, -1000000000000 ≤ x ∧ x ≤ 1000000000000) : ∀ (d i : Nat), i + d = l.length →
    Evt (fun K => spec_FormatLaurent.l0 K (bs (termsB a l i)) (i : Int) a l) (if termsB a l l.length = [] then bs [48] else bs (termsB a l l.length))
  | 0, i, hd => by
    have e : i = l.length := by omega
    subst e
    refine Evt.now fun K => ?_
    rw [spec_FormatLaurent.l0, if_neg (by omega), bs_tl]
    by_cases h : termsB a l l.length = []
    · rw [if_pos h, if_pos h]
      rfl
    · rw [if_neg h, if_neg h]
  | d + 1, i, hd => by
    have hi : i < l.length := by omega
    have hx := hw _ (List.getElem_mem hi)
    have er : rd l (i : Int) = l[i] := rd_nat l i hi
    have ih := fl_l0 a l ha hl hw d (i + 1) (by omega)
    have hln := termsB_len a l ha hl hw i (by omega)
    have hs : (bs (termsB a l i)).size + 1 ≤ 9223372036854775807 := by rw [bs_size]; omega
    rw [termsB, er] at ih
    have f1 : (i : Int) < (l.length : Int) := Int.ofNat_lt.2 hi
    have ew : wrap64 (a + (i : Int)) = a + i := w64 _ (by omega) (by omega)
    have ei : wrap64 ((i : Int) + 1) = ((i + 1 : Nat) : Int) := w64n (i + 1) (by omega)
    have hee : -1000 ≤ a + (i : Int) ∧ a + (i : Int) ≤ 1000 := by clear ew ei; omega
    by_cases hc : l[i] = 0
    · have e0 : termB l[i] (a + i) = [] := if_pos hc
      rw [e0, List.append_nil] at ih
      refine Evt.step ih fun K => ?_
      rw [spec_FormatLaurent.l0, if_pos f1, if_pos (Int.natCast_nonneg i), er, if_pos hc, ei]
    · have e0 : termB l[i] (a + i) = (if 0 < l[i] then [43] else []) ++ (Lib.itoa l[i] ++ (if a + (i : Int) = 0 then [] else [116, 94] ++ Lib.itoa (a + i))) := if_neg hc
      rw [e0] at ih
      by_cases hp : 0 < l[i]
      · rw [if_pos hp, ← List.append_assoc] at ih
        refine Evt.step (fl_j1 a l i (termsB a l i ++ [43]) (a + i) l[i] _ hi hl er hx hee (by rw [List.length_append]; show _ + 1 ≤ _; clear ew ei; omega) ih) fun K => ?_
        rw [spec_FormatLaurent.l0, if_pos f1, if_pos (Int.natCast_nonneg i), er, if_neg hc, if_pos hp, if_pos hs, ew]
        show spec_FormatLaurent.j1 K (bs _ ++ bs [43]) _ _ a l = _
        rw [bs_append]
      · rw [if_neg hp, List.nil_append] at ih
        refine Evt.step (fl_j1 a l i (termsB a l i) (a + i) l[i] _ hi hl er hx hee (by clear ew ei; omega) ih) fun K => ?_
        rw [spec_FormatLaurent.l0, if_pos f1, if_pos (Int.natCast_nonneg i), er, if_neg hc, if_neg hp, ew]
theorem formatLaurent_both (a : Int) (l : List Int) (ha : (Lit.int .i64 a).wf = true) (hl : l.length ≤ 1048576) : ∃ s, Evt (fun K => spec_FormatLaurent.f K a l) s ∧ impl_FormatLaurent.f a l = some s := by
  have hE : Evt (fun K => spec_IsLaurent.f K a l) (isLauB a l) := ⟨l.length + 2, fun K h => specIsLaurent_eq a l K hl (by omega)⟩
  have hI := implisLaurent_eq a l ha hl
  by_cases hb : isLauB a l = true
  case neg =>
    have hb' : isLauB a l = false := by simpa using hb
    rw [hb'] at hE hI
    refine ⟨⟨#[]⟩, ?_, ?_⟩
    · exact Evt.bind hE (h := fun K t => if t = true then spec_FormatLaurent.l0 K (⟨#[]⟩ : ByteArray) 0 a l else some (⟨#[]⟩ : ByteArray)) (Evt.const fun K => rfl) fun K => rfl
    · unfold impl_FormatLaurent.f
      rw [hI]
      rfl
  case pos =>
    have hlen := isLauB_len hb
    have hw : ∀ x ∈ l, -1000000000000 ≤ x ∧ x ≤ 1000000000000 := by
      by_cases h0 : l.length = 0
      · rw [List.length_eq_zero_iff.1 h0]
        exact fun x hx => by cases hx
      · intro x hx
        have h1 : (decide (lauC a l) && l.all inR) = true := by
          have h2 := hb
          unfold isLauB at h2
          rw [if_neg h0] at h2
          exact h2
        have h3 := List.all_eq_true.1 (Bool.and_eq_true_iff.1 h1).2 x hx
        unfold inR at h3
        have h4 := Bool.and_eq_true_iff.1 h3
        exact ⟨of_decide_eq_true h4.1, of_decide_eq_true h4.2⟩
    rw [hb] at hE hI
    have hL := fl_l0 a l ⟨hlen.2.1, hlen.2.2.1⟩ hlen.1 hw l.length 0 (by omega)
    have hln := termsB_len a l ⟨hlen.2.1, hlen.2.2.1⟩ hlen.1 hw l.length (Nat.le_refl _)
    refine ⟨if termsB a l l.length = [] then bs [48] else bs (termsB a l l.length), ?_, ?_⟩
    · exact Evt.bind hE (h := fun K t => if t = true then spec_FormatLaurent.l0 K (⟨#[]⟩ : ByteArray) 0 a l else some (⟨#[]⟩ : ByteArray)) (Evt.same hL fun K => rfl) fun K => rfl
    · unfold impl_FormatLaurent.f
      rw [hI, Option.bind_some, if_pos rfl]
      by_cases h0 : l = []
      · subst h0
        rw [if_pos rfl]
        rfl
      · have hl0 : ¬ l.length = 0 := fun h => h0 (List.length_eq_zero_iff.1 h)
        have hne : termsB a l l.length ≠ [] := by
          intro h
          have h1 := termsB_le a l 1 l.length (by omega)
          rw [h] at h1
          have h2 : (decide (lauC a l) && l.all inR) = true := by
            have h2 := hb
            unfold isLauB at h2
            rw [if_neg hl0] at h2
            exact h2
          have h3 := (of_decide_eq_true (Bool.and_eq_true_iff.1 h2).1 : lauC a l).2.1
          have h4 := List.length_pos_iff.2 (itoa_ne (rd l 0))
          have h5 : (termsB a l 1).length = (termB (rd l 0) (a + ((0 : Nat) : Int))).length := by
            show ([] ++ termB (rd l ((0 : Nat) : Int)) (a + ((0 : Nat) : Int))).length = _
            rw [List.nil_append]
            rfl
          rw [h5] at h1
          unfold termB at h1
          rw [if_neg h3, List.length_append, List.length_append] at h1
          simp only [List.length_nil] at h1
          omega
        rw [if_neg h0, if_neg hne, if_pos ⟨hlen.1, ⟨by omega, by omega⟩, fun x hx => ⟨by have := hw x hx; omega, by have := hw x hx; omega⟩, by omega⟩]
        rfl

theorem FnExactFormatLaurent : laws_FnExactFormatLaurent.Pure := by
  intro a l ha hl _
  by_cases h : (1048576 : Int) < l.length
  · refine ⟨0, ?_⟩
    unfold laws_FnExactFormatLaurent.f
    rw [szLaurent_eq a l 1048576 (by omega) (by omega) hl, Option.bind_some, if_pos h, if_pos (by omega)]
  · have hl2 : l.length ≤ 1048576 := by omega
    obtain ⟨s, ⟨k1, h1⟩, h2⟩ := formatLaurent_both a l ha hl2
    obtain ⟨K, hK⟩ : ∃ K : Nat, K = k1 + 1048600 := ⟨_, rfl⟩
    have g1 := h1 K (by omega)
    simp only at g1
    refine ⟨K, ?_⟩
    unfold laws_FnExactFormatLaurent.f
    rw [szLaurent_eq a l 1048576 (by omega) (by omega) hl, Option.bind_some, if_neg h, if_neg (by omega), toLaurent_eq a l K hl2 (by omega), Option.bind_some]
    simp only
    rw [g1, Option.bind_some, Option.bind_some]
    simp only
    rw [h2, Option.bind_some, if_pos rfl, Option.bind_some]
    simp only
    rw [eqLaurent_self a l K (by omega) (by omega), Option.bind_some, if_pos rfl]

end Go.Proofs.YtgnbcbcjafkpcaaDoor.Pure
