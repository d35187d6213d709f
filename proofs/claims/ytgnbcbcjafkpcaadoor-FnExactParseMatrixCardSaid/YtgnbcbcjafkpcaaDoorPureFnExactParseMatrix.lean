/- Program and reference read the same matrices out of texts, in new memory. No condition: for every input that the statement lets in. -/
import Derived.Test.YtgnbcbcjafkpcaaDoorStmtFnExactParseMatrix
namespace Go.Proofs.YtgnbcbcjafkpcaaDoor.Pure
open Go.RowKit Go.Proofs.YtgnbcbcjafkpcaaDoor.PFnExactParseMatrix Go.Proofs.YtgnbcbcjafkpcaaDoorW.PrintWords Go.Proofs.YtgnbcbcjafkpcaaDoorW.PrintLast

set_option linter.unusedSimpArgs false
set_option linter.unusedVariables false
set_option linter.unusedSectionVars false
theorem w64 (x : Int) (h0 : -9223372036854775808 ≤ x) (h1 : x ≤ 9223372036854775807) : wrap64 x = x := by
  unfold wrap64
  omega
theorem w64n (n : Nat) (h : n ≤ 9223372036854775807) : wrap64 (n : Int) = (n : Int) := w64 _ (by omega) (by omega)
theorem rd_nat (l : List Int) (i : Nat) (h : i < l.length) : rd l (i : Int) = l[i] := by
  simp [rd, List.getD, List.getElem?_eq_getElem h]
theorem succ_k {k n : Nat} (h : n < k) : ∃ m, k = m + 1 := ⟨k - 1, by omega⟩
theorem cast_succ (i : Nat) : ((i : Int) + 1) = ((i + 1 : Nat) : Int) := by omega
theorem drop_rd (l : List Int) (k : Nat) (h : k < l.length) : l.drop k = rd l (k : Int) :: l.drop (k + 1) := by
  rw [List.drop_eq_getElem_cons h, rd_nat l k h]


theorem eqInt64S_l0 (l r : List Int) (hr : r.length = l.length) (hl : l.length ≤ 4611686018427387904) : ∀ (d i k : Nat), i + d = l.length → d < k → laws_eqInt64S.l0 k l r (i : Int) = some (decide (l.drop i = r.drop i)) := by
  intro d
  induction d with
  | zero =>
    intro i k hd hk
    obtain ⟨k, rfl⟩ := succ_k hk
    simp only [laws_eqInt64S.l0]
    rw [if_neg (by omega), List.drop_of_length_le (by omega), List.drop_of_length_le (by omega)]
    simp
  | succ d ih =>
    intro i k hd hk
    obtain ⟨k, rfl⟩ := succ_k hk
    simp only [laws_eqInt64S.l0]
    rw [if_pos (by omega), if_pos (by omega), if_pos (by omega), w64 _ (by omega) (by omega), cast_succ, ih (i + 1) k (by omega) (by omega), drop_rd l i (by omega), drop_rd r i (by omega)]
    by_cases h : rd l (i : Int) = rd r (i : Int)
    · simp [h]
    · simp [h]
theorem eqInt64S_eq (l r : List Int) (k : Nat) (hl : l.length ≤ 4611686018427387904) (hk : l.length < k) : laws_eqInt64S.f k l r = some (decide (l = r)) := by
  unfold laws_eqInt64S.f
  by_cases h : l.length = r.length
  · rw [if_pos (by omega)]
    have := eqInt64S_l0 l r h.symm hl l.length 0 k (by omega) hk
    simpa using this
  · rw [if_neg (by omega)]
    have : ¬ l = r := fun e => h (by rw [e])
    simp [this]
theorem eqInt64S_self (l : List Int) (k : Nat) (hl : l.length ≤ 4611686018427387904) (hk : l.length < k) : laws_eqInt64S.f k l l = some true := by
  rw [eqInt64S_eq l l k hl hk]
  simp


theorem eqMatrix_self (a b : Int) (l : List Int) (k : Nat) (hl : l.length ≤ 4611686018427387904) (hk : l.length < k) : laws_eqMatrix.f k a b l a b l = some true := by
  unfold laws_eqMatrix.f
  rw [if_pos rfl, if_pos rfl, eqInt64S_self l k hl hk]
  rfl


/-- The numbers from m on. -/
def marks : Int → Nat → List Int
  | _, 0 => []
  | m, n + 1 => m :: marks (m + 1) n
theorem marks_length : ∀ (m : Int) (n : Nat), (marks m n).length = n
  | _, 0 => rfl
  | m, n + 1 => by simp [marks, marks_length (m + 1) n]


theorem markInt64S_l0 : ∀ (d i k : Nat) (x0 : List Int) (x1 : Int), x0.length ≤ 4611686018427387904 → i + d = x0.length → 0 ≤ x1 → x1 + d ≤ 4611686018427387904 → d < k →
    laws_markInt64S.l0 k x0 x1 (i : Int) = some (x1 + d, x0.take i ++ marks x1 d) := by
  intro d
  induction d with
  | zero =>
    intro i k x0 x1 hl hd h0 h1 hk
    obtain ⟨k, rfl⟩ := succ_k hk
    simp only [laws_markInt64S.l0]
    rw [if_neg (by omega)]
    simp [marks, List.take_of_length_le (show x0.length ≤ i by omega)]
  | succ d ih =>
    intro i k x0 x1 hl hd h0 h1 hk
    obtain ⟨k, rfl⟩ := succ_k hk
    simp only [laws_markInt64S.l0]
    rw [if_pos (by omega), if_pos (by omega), w64 _ (by omega) (by omega), w64 _ (by omega) (by omega), cast_succ, Int.toNat_natCast]
    rw [ih (i + 1) k (x0.set i x1) (x1 + 1) (by simp; omega) (by simp; omega) (by omega) (by omega) (by omega)]
    rw [List.take_succ_eq_append_getElem (by simp; omega), List.take_set_of_le (by omega)]
    simp only [marks, List.getElem_set_self, List.append_assoc, List.singleton_append]
    rw [show x1 + 1 + (d : Int) = x1 + ((d + 1 : Nat) : Int) by omega]
theorem markInt64S_eq (l : List Int) (m : Int) (k : Nat) (hl : l.length ≤ 1048576) (h0 : 0 ≤ m) (h1 : m ≤ 4611686018426339328) (hk : l.length < k) :
    laws_markInt64S.f k l m = some (m + l.length, marks m l.length) := by
  unfold laws_markInt64S.f
  have := markInt64S_l0 l.length 0 k l m (by omega) (by omega) h0 (by omega) hk
  simpa using this


theorem markMatrix_eq (a b : Int) (l : List Int) (m : Int) (k : Nat) (hl : l.length ≤ 1048576) (h0 : 0 ≤ m) (h1 : m ≤ 4611686018426339328) (hk : l.length < k) :
    laws_markMatrix.f k a b l m = some (m + l.length, marks m l.length) := by
  unfold laws_markMatrix.f
  rw [markInt64S_eq l m k hl h0 h1 hk]
  rfl


theorem heldInt64S_l0 : ∀ (d i k : Nat) (x0 : List Int) (x1 : Int), x0.length ≤ 4611686018427387904 → i + d = x0.length → x0.drop i = marks x1 d → 0 ≤ x1 → x1 + d ≤ 4611686018427387904 → d < k →
    laws_heldInt64S.l0 k x0 x1 (i : Int) = some (x1 + d) := by
  intro d
  induction d with
  | zero =>
    intro i k x0 x1 hl hd he h0 h1 hk
    obtain ⟨k, rfl⟩ := succ_k hk
    simp only [laws_heldInt64S.l0]
    rw [if_neg (by omega)]
    simp
  | succ d ih =>
    intro i k x0 x1 hl hd he h0 h1 hk
    obtain ⟨k, rfl⟩ := succ_k hk
    simp only [laws_heldInt64S.l0]
    rw [drop_rd x0 i (by omega)] at he
    simp only [marks, List.cons.injEq] at he
    rw [if_pos (by omega), if_pos (by omega), if_pos he.1, w64 _ (by omega) (by omega), w64 _ (by omega) (by omega), cast_succ, ih (i + 1) k x0 (x1 + 1) hl (by omega) he.2 (by omega) (by omega) (by omega)]
    rw [show x1 + 1 + (d : Int) = x1 + ((d + 1 : Nat) : Int) by omega]
theorem heldInt64S_marks (m : Int) (n k : Nat) (hl : n ≤ 1048576) (h0 : 0 ≤ m) (h1 : m ≤ 4611686018426339328) (hk : n < k) :
    laws_heldInt64S.f k (marks m n) m = some (m + n) := by
  unfold laws_heldInt64S.f
  exact heldInt64S_l0 n 0 k (marks m n) m (by rw [marks_length]; omega) (by rw [marks_length]; omega) (by simp) h0 (by omega) hk


theorem heldMatrix_marks (a b m : Int) (n k : Nat) (hl : n ≤ 1048576) (h0 : 0 ≤ m) (h1 : m ≤ 4611686018426339328) (hk : n < k) :
    laws_heldMatrix.f k a b (marks m n) m = some (m + n) := by
  unfold laws_heldMatrix.f
  rw [heldInt64S_marks m n k hl h0 h1 hk]
  simp only [Option.bind_some]
  rw [if_neg (by omega)]


/-- With enough rounds, the answer is r. -/
def Evt {α : Type} (f : Nat → Option α) (r : α) : Prop := ∃ c, ∀ K, c ≤ K → f K = some r
theorem Evt.step {α : Type} {f g : Nat → Option α} {r : α} (h : Evt g r) (e : ∀ K, f (K + 1) = g K) : Evt f r := by
  obtain ⟨c, hc⟩ := h
  refine ⟨c + 1, fun K hK => ?_⟩
  obtain ⟨K, rfl⟩ : ∃ m, K = m + 1 := ⟨K - 1, by omega⟩
  rw [e K]
  exact hc K (by omega)
theorem Evt.same {α : Type} {f g : Nat → Option α} {r : α} (h : Evt g r) (e : ∀ K, f K = g K) : Evt f r := by
  obtain ⟨c, hc⟩ := h
  exact ⟨c, fun K hK => by rw [e K]; exact hc K hK⟩
theorem Evt.now {α : Type} {f : Nat → Option α} {r : α} (e : ∀ K, f (K + 1) = some r) : Evt f r := by
  refine ⟨1, fun K hK => ?_⟩
  obtain ⟨K, rfl⟩ : ∃ m, K = m + 1 := ⟨K - 1, by omega⟩
  exact e K
theorem Evt.const {α : Type} {f : Nat → Option α} {r : α} (e : ∀ K, f K = some r) : Evt f r := ⟨0, fun K _ => e K⟩
theorem Evt.bind {α β : Type} {f : Nat → Option β} {g : Nat → Option α} {h : Nat → α → Option β} {x : α} {r : β} (hg : Evt g x) (hh : Evt (fun K => h K x) r) (e : ∀ K, f K = (g K).bind (h K)) : Evt f r := by
  obtain ⟨c, hc⟩ := hg
  obtain ⟨d, hd⟩ := hh
  exact ⟨c + d, fun K hK => by rw [e K, hc K (by omega)]; exact hd K (by omega)⟩
theorem Evt.bind1 {α β : Type} {f : Nat → Option β} {g : Nat → Option α} {h : Nat → α → Option β} {x : α} {r : β} (hg : Evt g x) (hh : Evt (fun K => h K x) r) (e : ∀ K, f (K + 1) = (g K).bind (h K)) : Evt f r :=
  Evt.step (g := fun K => (g K).bind (h K)) (Evt.bind hg hh fun _ => rfl) e
theorem Evt.get {α : Type} {f : Nat → Option α} {r : α} (h : Evt f r) : ∃ c, ∀ K, c ≤ K → f K = some r := h

/-- A text of these bytes. -/
def bs (l : List UInt8) : ByteArray := ⟨l.toArray⟩
theorem bs_append (x y : List UInt8) : bs x ++ bs y = bs (x ++ y) := by
  apply ByteArray.ext
  rw [ByteArray.data_append]
  show x.toArray ++ y.toArray = (x ++ y).toArray
  simp
theorem bs_size (x : List UInt8) : (bs x).size = x.length := by
  show x.toArray.size = _
  simp
theorem nDigits_le : ∀ (k u : Nat), 1 ≤ k → u < 10 ^ k → Lib.nDigits u ≤ k
  | 0, _, h, _ => absurd h (by omega)
  | k + 1, u, _, hu => by
    by_cases c : u < 10
    · rw [Lib.nDigits_small c]
      omega
    · rw [Lib.nDigits_big c]
      have hk : 1 ≤ k := by
        rcases k with _ | k
        · simp at hu; omega
        · omega
      have := nDigits_le k (u / 10) hk (by rw [Nat.pow_succ] at hu; omega)
      omega
theorem itoa_len (a : Int) (h0 : -1000000000000 ≤ a) (h1 : a ≤ 1000000000000) : (Lib.itoa a).length ≤ 14 := by
  unfold Lib.itoa
  by_cases c : a < 0
  · rw [if_pos c, List.length_cons, Lib.decDigits_length]
    have := nDigits_le 13 a.natAbs (by decide) (by omega)
    omega
  · rw [if_neg c, Lib.decDigits_length]
    have := nDigits_le 13 a.toNat (by decide) (by omega)
    omega
theorem itoa_ne (a : Int) : Lib.itoa a ≠ [] := by
  unfold Lib.itoa
  by_cases c : a < 0
  · rw [if_pos c]
    exact List.cons_ne_nil _ _
  · rw [if_neg c]
    intro h
    have h2 := Lib.decDigits_length a.toNat
    have h3 := Lib.nDigits_pos a.toNat
    rw [h, List.length_nil] at h2
    omega
theorem decimal_eq (a : Int) (h0 : -1000000000000 ≤ a) (h1 : a ≤ 1000000000000) : impl_decimal.f a = some (bs (Lib.itoa a)) := by
  unfold impl_decimal.f
  rw [if_pos ⟨by omega, by omega⟩]
  rfl

theorem digit_num : ∀ n : Fin 10, strOfNums [(wrap64 (48 + (n.val : Int))) % 256] = bs [UInt8.ofNat (48 + n.val)] := by decide +kernel
theorem number_nat : ∀ (d n : Nat), n ≤ d → n ≤ 100000000000000000 → Evt (fun K => spec_l01Number.f K (n : Int)) (bs (Lib.decDigits n))
  | d, n, hd, hn => by
    by_cases c : n < 10
    · refine Evt.now fun K => ?_
      rw [spec_l01Number.f, if_neg (by omega), if_pos (by omega), digit_num ⟨n, c⟩, Lib.decDigits_one c]
    · rcases d with _ | d
      · omega
      have ih := number_nat d (n / 10) (by omega) (by omega)
      have e1 : wrap64 (Int.tdiv (n : Int) 10) = ((n / 10 : Nat) : Int) := by
        rw [Int.tdiv_eq_ediv_of_nonneg (by omega)]
        exact w64 _ (by omega) (by omega)
      have e2 : Int.tmod (n : Int) 10 = ((n % 10 : Nat) : Int) := by
        rw [Int.tmod_eq_emod_of_nonneg (by omega)]
        omega
      have e3 : strOfNums [(wrap64 (48 + Int.tmod (n : Int) 10)) % 256] = bs [UInt8.ofNat (48 + n % 10)] := by
        rw [e2]
        exact digit_num ⟨n % 10, Nat.mod_lt _ (by decide)⟩
      have e4 : Lib.decDigits n = Lib.decDigits (n / 10) ++ [UInt8.ofNat (48 + n % 10)] := by
        rw [Lib.decDigits, dif_neg c]
      have l1 := nDigits_le 18 (n / 10) (by decide) (by omega)
      have l2 : (bs (Lib.decDigits (n / 10))).size + (bs [UInt8.ofNat (48 + n % 10)]).size ≤ 9223372036854775807 := by
        rw [bs_size, bs_size, Lib.decDigits_length, List.length_singleton]
        clear e1 e2 e3 e4 ih
        omega
      refine Evt.bind1 ih (h := fun K t => (some ([(wrap64 (48 + (Int.tmod (n : Int) 10))) % 256] : List Int)).bind fun y => if t.size + (strOfNums y).size ≤ 9223372036854775807 then some (t ++ strOfNums y) else none) (Evt.const fun K => ?_) fun K => ?_
      · rw [Option.bind_some, e3, if_pos l2, bs_append, e4]
      · rw [spec_l01Number.f, if_neg (by clear e1 e2 e3 e4 ih; omega), if_neg (by clear e1 e2 e3 e4 ih; omega), e1]
theorem number_big (a : Int) (h0 : -100000000000000000 ≤ a) (h1 : a ≤ 100000000000000000) : Evt (fun K => spec_l01Number.f K a) (bs (Lib.itoa a)) := by
  by_cases c : a < 0
  · have e1 : wrap64 (-a) = ((a.natAbs : Nat) : Int) := by
      rw [w64 _ (by omega) (by omega)]
      omega
    have hn := number_nat a.natAbs a.natAbs (Nat.le_refl _) (by clear e1; omega)
    have l1 := nDigits_le 18 a.natAbs (by decide) (by clear e1; omega)
    refine Evt.bind1 hn (h := fun K t => if 1 + t.size ≤ 9223372036854775807 then some ((⟨#[45]⟩ : ByteArray) ++ t) else none) (Evt.const fun K => ?_) fun K => ?_
    · rw [if_pos (by rw [bs_size, Lib.decDigits_length]; clear e1 hn; omega)]
      show some (bs [45] ++ bs _) = _
      rw [bs_append]
      unfold Lib.itoa
      rw [if_pos c]
      rfl
    · rw [spec_l01Number.f, if_pos c, e1]
  · obtain ⟨n, rfl⟩ : ∃ n : Nat, a = n := ⟨a.toNat, by omega⟩
    have hn := number_nat n n (Nat.le_refl _) (by omega)
    have e : Lib.itoa (n : Int) = Lib.decDigits n := by
      unfold Lib.itoa
      rw [if_neg c, Int.toNat_natCast]
    rw [e]
    exact hn
theorem number_ev (a : Int) (h0 : -1000000000000 ≤ a) (h1 : a ≤ 1000000000000) : Evt (fun K => spec_l01Number.f K a) (bs (Lib.itoa a)) := number_big a (by omega) (by omega)

theorem readNum_total (s : ByteArray) (d : Int) (hs : s.size ≤ 1048576) : ∃ r, impl_readNumber.f s d = some r := by
  unfold impl_readNumber.f
  rw [if_pos hs]
  cases hp : Lib.parseIntB 64 s.data.toList with
  | ok v =>
    have hb := Lib.parseIntB_bounds hp
    simp only
    unfold impl_decimal.f
    rw [if_pos ⟨by omega, by omega⟩, Option.bind_some]
    by_cases h1 : (⟨(Lib.itoa v).toArray⟩ : ByteArray).toList = s.toList
    · rw [if_pos h1]
      by_cases h2 : ((readTrim s).size : Int) > d
      · rw [if_pos h2]; exact ⟨_, rfl⟩
      · rw [if_neg h2]; exact ⟨_, rfl⟩
    · rw [if_neg h1]; exact ⟨_, rfl⟩
  | _ => exact ⟨_, rfl⟩
theorem extract_le (s : ByteArray) (i j : Nat) : (s.extract i j).size ≤ s.size := by
  rw [ByteArray.size_extract]
  omega
theorem split_sizes (sep : ByteArray) : ∀ (k : Nat) (s : ByteArray), ∀ p ∈ Lib.splitB sep 0 k s, p.size ≤ s.size
  | 0, s, p, hp => by
    have : p = s := by simpa [Lib.splitB] using hp
    rw [this]
    exact Nat.le_refl _
  | k + 1, s, p, hp => by
    unfold Lib.splitB at hp
    split at hp
    · have : p = s := by simpa using hp
      rw [this]
      exact Nat.le_refl _
    · rcases List.mem_cons.1 hp with rfl | hp
      · exact extract_le _ _ _
      · exact Nat.le_trans (split_sizes sep k _ p hp) (extract_le _ _ _)

theorem ba_of (p : ByteArray) : p = bs p.data.toList := by
  apply ByteArray.ext
  show p.data = p.data.toList.toArray
  simp
theorem bs_data (x : List UInt8) : (bs x).data.toList = x := by
  show x.toArray.toList = x
  simp
theorem bs_list (x : List UInt8) : (bs x).toList = x := by
  rw [ByteArray.toList_eq, bs_data]
theorem ba_inj {a b : ByteArray} (h : a.toList = b.toList) : a = b := by
  rw [ByteArray.toList_eq, ByteArray.toList_eq] at h
  apply ByteArray.ext
  apply Array.ext'
  exact h
/-- A text that is a number of at most 13 digits, as it is written. -/
def Num (p : ByteArray) (v : Int) : Prop := p = bs (Lib.itoa v) ∧ -9999999999999 ≤ v ∧ v ≤ 9999999999999
theorem dig_ofNat {n : Nat} (h : n < 10) : (UInt8.ofNat (48 + n)).toNat = 48 + n := by
  rw [UInt8.toNat_ofNat']
  omega
theorem dec_snoc {n : Nat} (h : ¬ n < 10) : Lib.decDigits n = Lib.decDigits (n / 10) ++ [UInt8.ofNat (48 + n % 10)] := by
  rw [Lib.decDigits, dif_neg h]
theorem dec_digit : ∀ (d n : Nat), n ≤ d → ∀ c ∈ Lib.decDigits n, 48 ≤ c.toNat ∧ c.toNat ≤ 57
  | d, n, hd, c, hc => by
    by_cases h : n < 10
    · rw [Lib.decDigits_one h, List.mem_singleton] at hc
      rw [hc, dig_ofNat h]
      omega
    · rcases d with _ | d
      · omega
      rw [dec_snoc h] at hc
      rcases List.mem_append.1 hc with hc | hc
      · exact dec_digit d (n / 10) (by omega) c hc
      · rw [List.mem_singleton.1 hc, dig_ofNat (Nat.mod_lt _ (by decide))]
        omega
theorem parse_dec (M : Nat) : ∀ (d n : Nat) (r : List UInt8), n ≤ d → n ≤ 100000000000000000 → n ≤ M → Lib.parseUintM M 0 (Lib.decDigits n ++ r) = Lib.parseUintM M n r
  | d, n, r, hd, hn, hM => by
    by_cases h : n < 10
    · rw [Lib.decDigits_one h, List.singleton_append, Lib.parseUintM, if_pos (by rw [dig_ofNat h]; omega), if_neg (by omega), if_neg (by rw [dig_ofNat h]; omega), dig_ofNat h]
      congr 1
      omega
    · rcases d with _ | d
      · omega
      have hm := Nat.mod_lt n (show 0 < 10 by decide)
      have ih := parse_dec M d (n / 10) ([UInt8.ofNat (48 + n % 10)] ++ r) (by omega) (by omega) (by omega)
      rw [dec_snoc h, List.append_assoc, ih, List.singleton_append, Lib.parseUintM, if_pos (by rw [dig_ofNat hm]; omega), if_neg (by omega), if_neg (by rw [dig_ofNat hm]; omega), dig_ofNat hm]
      congr 1
      omega
theorem dec_head (n : Nat) : ∃ c r, Lib.decDigits n = c :: r ∧ 48 ≤ c.toNat ∧ c.toNat ≤ 57 := by
  have h0 := Lib.decDigits_length n
  have h1 := Lib.nDigits_pos n
  cases h : Lib.decDigits n with
  | nil => rw [h, List.length_nil] at h0; omega
  | cons c r => exact ⟨c, r, rfl, dec_digit n n (Nat.le_refl _) c (by rw [h]; exact List.mem_cons_self)⟩
theorem parse_mag (n : Nat) (hn : n ≤ 9999999999999) : Lib.parseUintB 64 (Lib.decDigits n) = .ok n := by
  obtain ⟨c, r, h, _⟩ := dec_head n
  unfold Lib.parseUintB
  rw [if_neg (by rw [h]; exact List.cons_ne_nil _ _)]
  have := parse_dec (2 ^ 64 - 1) n n [] (Nat.le_refl _) (by omega) (by omega)
  rw [List.append_nil] at this
  rw [this]
  rfl
theorem itoa_nat (n : Nat) : Lib.itoa (n : Int) = Lib.decDigits n := by
  unfold Lib.itoa
  rw [if_neg (by omega), Int.toNat_natCast]
theorem itoa_negN (n : Nat) (h : 1 ≤ n) : Lib.itoa (-(n : Int)) = 45 :: Lib.decDigits n := by
  unfold Lib.itoa
  rw [if_pos (by omega)]
  congr 2
  omega
theorem parse_itoa (v : Int) (h0 : -9999999999999 ≤ v) (h1 : v ≤ 9999999999999) : Lib.parseIntB 64 (Lib.itoa v) = .ok v := by
  by_cases c : v < 0
  · obtain ⟨n, rfl⟩ : ∃ n : Nat, v = -(n : Int) := ⟨v.natAbs, by omega⟩
    rw [itoa_negN n (by omega)]
    unfold Lib.parseIntB
    simp only
    rw [if_pos (.inr (by decide)), parse_mag n (by omega)]
    simp only
    rw [if_neg (by simp), if_neg (by intro h; have := h.2; omega), if_pos (by decide)]
  · obtain ⟨n, rfl⟩ : ∃ n : Nat, v = (n : Int) := ⟨v.toNat, by omega⟩
    obtain ⟨d, r, h, h2, h3⟩ := dec_head n
    rw [itoa_nat]
    have hp := parse_mag n (by omega)
    rw [h] at hp ⊢
    unfold Lib.parseIntB
    simp only
    rw [if_neg (by omega), hp]
    simp only
    rw [if_neg (by intro h; have := h.2; omega), if_neg (by intro h; have := h.1; omega), if_neg (by omega)]
theorem trim_itoa (v : Int) : (Lib.trimPrefix (Lib.itoa v) [45]).length = Lib.nDigits v.natAbs := by
  by_cases c : v < 0
  · obtain ⟨n, rfl⟩ : ∃ n : Nat, v = -(n : Int) := ⟨v.natAbs, by omega⟩
    rw [itoa_negN n (by omega)]
    unfold Lib.trimPrefix Lib.hasPrefix
    rw [if_pos (by simp [List.isPrefixOf])]
    show (Lib.decDigits n).length = _
    rw [Lib.decDigits_length]
    congr 1
    omega
  · obtain ⟨n, rfl⟩ : ∃ n : Nat, v = (n : Int) := ⟨v.toNat, by omega⟩
    obtain ⟨d, r, h, h2, h3⟩ := dec_head n
    rw [itoa_nat]
    unfold Lib.trimPrefix Lib.hasPrefix
    rw [if_neg (by
      rw [h]
      intro e
      simp only [List.isPrefixOf, Bool.and_true, beq_iff_eq] at e
      rw [← e] at h2
      revert h2
      decide), Lib.decDigits_length]
    congr 1
/-- The program's reading of a numeral. -/
theorem implNum (p : ByteArray) (hp : p.size ≤ 1048576) : ∃ v b, impl_readNumber.f p 13 = some (v, b) ∧ (b = true → Num p v) ∧ ∀ u, Num p u → b = true ∧ v = u := by
  have back : ∀ u, Num p u → impl_readNumber.f p 13 = some (u, true) := fun u hu => by
    obtain ⟨hu, h0, h1⟩ := hu
    have e1 : p.data.toList = Lib.itoa u := by rw [hu, bs_data]
    unfold impl_readNumber.f
    rw [if_pos hp, e1, parse_itoa u h0 h1]
    simp only
    unfold impl_decimal.f
    have e2 : (⟨(Lib.itoa u).toArray⟩ : ByteArray).toList = p.toList := by rw [hu]; rfl
    have hz : (readTrim p).size = Lib.nDigits u.natAbs := by
      unfold readTrim
      rw [e1]
      show (bs _).size = _
      rw [bs_size, trim_itoa]
    have hn := nDigits_le 13 u.natAbs (by decide) (by omega)
    rw [if_pos ⟨by omega, by omega⟩, Option.bind_some, if_pos e2, if_neg (by rw [hz]; omega)]
  by_cases hq : ∃ u, Num p u
  · obtain ⟨u, hu⟩ := hq
    refine ⟨u, true, back u hu, fun _ => hu, fun u' hu' => ⟨rfl, ?_⟩⟩
    have := (back u hu).symm.trans (back u' hu')
    exact (Prod.mk.inj (Option.some.inj this)).1
  · obtain ⟨⟨v, b⟩, hr⟩ := readNum_total p 13 hp
    refine ⟨v, b, hr, fun hb => ?_, fun u hu => absurd ⟨u, hu⟩ hq⟩
    subst hb
    exfalso
    unfold impl_readNumber.f at hr
    rw [if_pos hp] at hr
    cases hpar : Lib.parseIntB 64 p.data.toList with
    | ok x =>
      rw [hpar] at hr
      simp only at hr
      obtain ⟨t, ht, hr⟩ := Option.bind_eq_some_iff.mp hr
      have hb := Lib.parseIntB_bounds hpar
      unfold impl_decimal.f at ht
      rw [if_pos ⟨by omega, by omega⟩] at ht
      obtain rfl := Option.some.inj ht
      by_cases c1 : (⟨(Lib.itoa x).toArray⟩ : ByteArray).toList = p.toList
      · rw [if_pos c1] at hr
        have e := ba_inj c1
        by_cases c2 : ((readTrim p).size : Int) > 13
        · rw [if_pos c2] at hr
          cases hr
        · refine hq ⟨x, e.symm, ?_⟩
          have e1 : p.data.toList = Lib.itoa x := (congrArg (fun q : ByteArray => q.data.toList) e.symm).trans (bs_data _)
          have hz : (readTrim p).size = Lib.nDigits x.natAbs := by
            unfold readTrim
            rw [e1]
            show (bs _).size = _
            rw [bs_size, trim_itoa]
          have hlt := Lib.lt_pow_nDigits x.natAbs
          have h13 : 10 ^ Lib.nDigits x.natAbs ≤ 10 ^ 13 := Nat.pow_le_pow_right (by decide) (by rw [hz] at c2; omega)
          constructor <;> omega
      · rw [if_neg c1] at hr
        cases hr
    | _ =>
      rw [hpar] at hr
      cases hr

theorem bs_extract (l : List UInt8) (a b : Nat) : (bs l).extract a b = bs ((l.drop a).take (b - a)) := by
  apply ba_inj
  rw [Lib.extract_toList, bs_data, bs_list]
theorem bt_bs (l : List UInt8) (i : Nat) (h : i < l.length) : bt (bs l) (i : Int) = ((l[i]).toNat : Int) := by
  have h2 : (i : Int).toNat < (bs l).size := by rw [bs_size, Int.toNat_natCast]; exact h
  rw [← bt_at _ _ h2]
  rfl
/-- The first place of a byte. -/
def fi (c : UInt8) : List UInt8 → Option Nat
  | [] => none
  | b :: l => if b = c then some 0 else (fi c l).map (· + 1)
def fiI (c : UInt8) (l : List UInt8) : Int := match fi c l with
  | some i => (i : Int)
  | none => -1
theorem index_fi (c : UInt8) : ∀ l : List UInt8, Lib.index l [c] = fiI c l
  | [] => rfl
  | b :: l => by
    have ih := index_fi c l
    unfold Lib.index fiI fi
    by_cases h : b = c
    · subst h
      rw [if_pos (by simp [List.isPrefixOf]), if_pos rfl]
      try rfl
    · rw [if_neg (by simp only [List.isPrefixOf, Bool.and_true, beq_iff_eq]; exact fun e => h e.symm), if_neg h, ih]
      unfold fiI
      cases fi c l with
      | none => rfl
      | some i =>
        simp only [Option.map_some]
        rw [if_neg (by simp <;> omega)]
        try rfl
theorem fi_lt (c : UInt8) : ∀ (l : List UInt8) (i : Nat), fi c l = some i → i < l.length
  | [], _, h => by cases h
  | b :: l, i, h => by
    unfold fi at h
    by_cases hb : b = c
    · rw [if_pos hb] at h
      cases h
      exact Nat.succ_pos _
    · rw [if_neg hb] at h
      cases hf : fi c l with
      | none => rw [hf] at h; cases h
      | some j =>
        rw [hf] at h
        obtain rfl : j + 1 = i := by simpa using h
        have := fi_lt c l j hf
        rw [List.length_cons]
        omega
theorem fi_at (c : UInt8) : ∀ (l : List UInt8) (i : Nat), fi c l = some i → l[i]? = some c
  | [], _, h => by cases h
  | b :: l, i, h => by
    unfold fi at h
    by_cases hb : b = c
    · rw [if_pos hb] at h
      obtain rfl : 0 = i := by simpa using h
      rw [hb]
      rfl
    · rw [if_neg hb] at h
      cases hf : fi c l with
      | none => rw [hf] at h; cases h
      | some j =>
        rw [hf] at h
        obtain rfl : j + 1 = i := by simpa using h
        exact fi_at c l j hf
theorem fi_take (c : UInt8) : ∀ (l : List UInt8) (q : Nat), fi c (l.take q) = (match fi c l with
    | some p => if p < q then some p else none
    | none => none)
  | [], q => by rw [List.take_nil]; rfl
  | b :: l, 0 => by
    rw [List.take_zero]
    cases fi c (b :: l) with
    | none => rfl
    | some p => simp only; rw [if_neg (by omega)]; rfl
  | b :: l, q + 1 => by
    rw [List.take_succ_cons]
    unfold fi
    by_cases hb : b = c
    · rw [if_pos hb, if_pos hb]
      simp
    · rw [if_neg hb, if_neg hb, fi_take c l q]
      cases fi c l with
      | none => rfl
      | some p =>
        simp only [Option.map_some]
        by_cases h : p < q
        · rw [if_pos h, if_pos (by omega)]
          rfl
        · rw [if_neg h, if_neg (by omega)]
          rfl
theorem find_l0 (c : UInt8) (l : List UInt8) (hl : l.length ≤ 1048576) : ∀ (d i : Nat), i + d = l.length → Evt (fun K => spec_l01Find.l0 K (bs l) (c.toNat : Int) (i : Int)) (match fi c (l.drop i) with
    | some j => ((i + j : Nat) : Int)
    | none => -1)
  | 0, i, hd => by
    rw [List.drop_of_length_le (by omega)]
    exact Evt.now fun K => by rw [spec_l01Find.l0, if_neg (by rw [bs_size]; omega)]; rfl
  | d + 1, i, hd => by
    have hi : i < l.length := by omega
    have f1 : (i : Int) < ((bs l).size : Int) := by rw [bs_size]; omega
    have ih := find_l0 c l hl d (i + 1) (by omega)
    rw [List.drop_eq_getElem_cons hi]
    unfold fi
    by_cases h : l[i] = c
    · rw [if_pos h]
      exact Evt.now fun K => by rw [spec_l01Find.l0, if_pos f1, if_pos (Int.natCast_nonneg i), if_pos (by rw [bt_bs l i hi, h])]; rfl
    · rw [if_neg h]
      have hn : ¬ bt (bs l) (i : Int) = (c.toNat : Int) := by
        rw [bt_bs l i hi]
        exact fun e => h (UInt8.toNat_inj.1 (by omega))
      have ei : wrap64 ((i : Int) + 1) = ((i + 1 : Nat) : Int) := w64n (i + 1) (by omega)
      have e : (match (fi c (l.drop (i + 1))).map (· + 1) with
          | some j => ((i + j : Nat) : Int)
          | none => -1) = (match fi c (l.drop (i + 1)) with
          | some j => ((i + 1 + j : Nat) : Int)
          | none => -1) := by
        cases fi c (l.drop (i + 1)) with
        | none => rfl
        | some j => simp only [Option.map_some]; congr 1; omega
      rw [e]
      exact Evt.step ih fun K => by rw [spec_l01Find.l0, if_pos f1, if_pos (Int.natCast_nonneg i), if_neg hn, ei]
theorem find_ev (c : UInt8) (l : List UInt8) (hl : l.length ≤ 1048576) : Evt (fun K => spec_l01Find.f K (bs l) (c.toNat : Int)) (fiI c l) := by
  have h := find_l0 c l hl l.length 0 (Nat.zero_add _)
  rw [List.drop_zero] at h
  have e : (match fi c l with
      | some j => ((0 + j : Nat) : Int)
      | none => -1) = fiI c l := by
    unfold fiI
    cases fi c l with
    | none => rfl
    | some j => simp only; congr 1; omega
  rw [e] at h
  exact h
/-- A text in parts between a byte. -/
def sp (c : UInt8) : List UInt8 → List (List UInt8)
  | [] => [[]]
  | b :: l => if b = c then [] :: sp c l else match sp c l with
    | [] => [[b]]
    | h :: t => (b :: h) :: t
theorem sp_ne (c : UInt8) : ∀ l : List UInt8, ∃ h t, sp c l = h :: t
  | [] => ⟨[], [], rfl⟩
  | b :: l => by
    unfold sp
    by_cases hb : b = c
    · rw [if_pos hb]; exact ⟨_, _, rfl⟩
    · rw [if_neg hb]
      cases sp c l with
      | nil => exact ⟨_, _, rfl⟩
      | cons h t => exact ⟨_, _, rfl⟩
theorem sp_len (c : UInt8) : ∀ l : List UInt8, (sp c l).length ≤ l.length + 1
  | [] => Nat.le_refl _
  | b :: l => by
    have ih := sp_len c l
    unfold sp
    by_cases hb : b = c
    · rw [if_pos hb, List.length_cons, List.length_cons]; omega
    · rw [if_neg hb]
      cases h : sp c l with
      | nil => simp
      | cons x t => rw [h, List.length_cons] at ih; simp only [List.length_cons]; omega
theorem sp_none (c : UInt8) : ∀ l : List UInt8, fi c l = none → sp c l = [l]
  | [], _ => rfl
  | b :: l, h => by
    unfold fi at h
    by_cases hb : b = c
    · rw [if_pos hb] at h; cases h
    · rw [if_neg hb] at h
      have ih := sp_none c l (by cases hf : fi c l with
        | none => rfl
        | some j => rw [hf] at h; cases h)
      unfold sp
      rw [if_neg hb, ih]
theorem sp_some (c : UInt8) : ∀ (l : List UInt8) (i : Nat), fi c l = some i → sp c l = l.take i :: sp c (l.drop (i + 1))
  | [], _, h => by cases h
  | b :: l, i, h => by
    unfold fi at h
    by_cases hb : b = c
    · rw [if_pos hb] at h
      obtain rfl : 0 = i := by simpa using h
      have e : sp c (b :: l) = [] :: sp c l := by rw [sp, if_pos hb]
      rw [e]
      rfl
    · rw [if_neg hb] at h
      cases hf : fi c l with
      | none => rw [hf] at h; cases h
      | some j =>
        rw [hf] at h
        obtain rfl : j + 1 = i := by simpa using h
        have ih := sp_some c l j hf
        have e : sp c (b :: l) = (match sp c l with
          | [] => [[b]]
          | h :: t => (b :: h) :: t) := by rw [sp, if_neg hb]
        rw [e, ih]
        rfl
theorem implSplit (c : UInt8) : ∀ (n : Nat) (l : List UInt8), l.length ≤ n → Lib.splitB (bs [c]) 0 (Lib.countB (bs l) (bs [c])) (bs l) = (sp c l).map bs
  | 0, l, hn => by
    have hl : l = [] := List.length_eq_zero_iff.1 (by omega)
    subst hl
    have h1 : Lib.indexB (bs []) (bs [c]) = -1 := by
      have : Lib.indexB (bs []) (bs [c]) = Lib.index (bs []).data.toList (bs [c]).data.toList := rfl
      rw [this, bs_data, bs_data, index_fi]
      rfl
    rw [Lib.splitB_miss _ _ _ _ h1]
    rfl
  | n + 1, l, hn => by
    have hix : Lib.indexB (bs l) (bs [c]) = fiI c l := by
      have : Lib.indexB (bs l) (bs [c]) = Lib.index (bs l).data.toList (bs [c]).data.toList := rfl
      rw [this, bs_data, bs_data, index_fi]
    cases hf : fi c l with
    | none =>
      have h1 : Lib.indexB (bs l) (bs [c]) = -1 := by rw [hix]; unfold fiI; rw [hf]
      rw [Lib.splitB_miss _ _ _ _ h1, sp_none c l hf]
      rfl
    | some i =>
      have hlt := fi_lt c l i hf
      have h1 : Lib.indexB (bs l) (bs [c]) = (i : Int) := by rw [hix]; unfold fiI; rw [hf]
      have hz : (bs [c]).size = 1 := bs_size [c]
      have e1 : (bs l).extract (i + (bs [c]).size) (bs l).size = bs (l.drop (i + 1)) := by
        rw [hz, bs_extract, bs_size]
        congr 1
        exact List.take_of_length_le (by rw [List.length_drop]; omega)
      have e2 : (bs l).extract 0 (i + 0) = bs (l.take i) := by
        rw [bs_extract, List.drop_zero]
        rfl
      have ih := implSplit c n (l.drop (i + 1)) (by rw [List.length_drop]; omega)
      rw [Lib.countB_hit _ _ i (by omega) h1, Nat.add_comm 1, Lib.splitB_hit _ _ _ _ i h1, e1, e2, ih, sp_some c l i hf]
      rfl
/-- A prefix before the first part. -/
def glue (p : List UInt8) : List (List UInt8) → List (List UInt8)
  | [] => [p]
  | h :: t => (p ++ h) :: t
theorem specSplit_l0 (c : UInt8) (l : List UInt8) (hl : l.length ≤ 1048576) : ∀ (d i st : Nat) (acc : List ByteArray), i + d = l.length → st ≤ i → acc.length ≤ i →
    Evt (fun K => spec_l01Split.l0 K (bs l) (c.toNat : Int) acc (st : Int) (i : Int)) (acc ++ (glue ((l.drop st).take (i - st)) (sp c (l.drop i))).map bs)
  | 0, i, st, acc, hd, hst, ha => by
    have hi : i = l.length := by omega
    have e1 : wrap64 ((i : Int) + 1) = ((i + 1 : Nat) : Int) := w64n (i + 1) (by omega)
    have e2 : (bs l).extract ((st : Int)).toNat ((i : Int)).toNat = bs ((l.drop st).take (i - st)) := by rw [Int.toNat_natCast, Int.toNat_natCast, bs_extract]
    rw [show sp c (l.drop i) = [[]] by rw [List.drop_of_length_le (by omega)]; rfl]
    refine Evt.step (g := fun K => spec_l01Split.l0 K (bs l) (c.toNat : Int) (acc ++ [bs ((l.drop st).take (i - st))]) (((i + 1 : Nat)) : Int) (((i + 1 : Nat)) : Int)) ?_ fun K => ?_
    · refine Evt.now fun K => ?_
      rw [spec_l01Split.l0, if_neg (by rw [bs_size]; clear e1; omega)]
      show some _ = some (acc ++ [bs (_ ++ [])])
      rw [List.append_nil]
    · rw [spec_l01Split.l0, if_pos (by rw [bs_size]; clear e1; omega), if_pos (by rw [bs_size]; clear e1; omega), if_pos (Int.natCast_nonneg st), if_pos (by clear e1; omega), if_pos (by clear e1; omega), e1, e2]
  | d + 1, i, st, acc, hd, hst, ha => by
    have hi : i < l.length := by omega
    have e1 : wrap64 ((i : Int) + 1) = ((i + 1 : Nat) : Int) := w64n (i + 1) (by omega)
    have e2 : (bs l).extract ((st : Int)).toNat ((i : Int)).toNat = bs ((l.drop st).take (i - st)) := by rw [Int.toNat_natCast, Int.toNat_natCast, bs_extract]
    have f1 : (i : Int) ≤ ((bs l).size : Int) := by rw [bs_size]; clear e1; omega
    have f2 : ¬ (i : Int) = ((bs l).size : Int) := by rw [bs_size]; clear e1; omega
    have f3 : (i : Int) < ((bs l).size : Int) := by rw [bs_size]; clear e1; omega
    rw [List.drop_eq_getElem_cons hi]
    unfold sp
    by_cases h : l[i] = c
    · rw [if_pos h]
      have ih := specSplit_l0 c l hl d (i + 1) (i + 1) (acc ++ [bs ((l.drop st).take (i - st))]) (by clear e1; omega) (Nat.le_refl _) (by rw [List.length_append, List.length_singleton]; clear e1; omega)
      have hg : glue ((l.drop (i + 1)).take (i + 1 - (i + 1))) (sp c (l.drop (i + 1))) = sp c (l.drop (i + 1)) := by
        rw [Nat.sub_self, List.take_zero]
        obtain ⟨x, t, e⟩ := sp_ne c (l.drop (i + 1))
        rw [e]
        rfl
      rw [hg, List.append_assoc] at ih
      rw [show glue ((l.drop st).take (i - st)) ([] :: sp c (l.drop (i + 1))) = (l.drop st).take (i - st) :: sp c (l.drop (i + 1)) from by
        show (_ ++ []) :: _ = _
        rw [List.append_nil]]
      refine Evt.step (g := fun K => spec_l01Split.l0 K (bs l) (c.toNat : Int) (acc ++ [bs ((l.drop st).take (i - st))]) (((i + 1 : Nat)) : Int) (((i + 1 : Nat)) : Int)) ?_ fun K => ?_
      · exact ih
      · rw [spec_l01Split.l0, if_pos f1, if_neg f2, if_pos (Int.natCast_nonneg i), if_pos f3, if_pos (by rw [bt_bs l i hi, h]), if_pos (Int.natCast_nonneg st), if_pos (by clear e1; omega), if_pos (by clear e1; omega), e1, e2]
    · rw [if_neg h]
      have ih := specSplit_l0 c l hl d (i + 1) st acc (by clear e1; omega) (by clear e1; omega) (by clear e1; omega)
      have hn : ¬ bt (bs l) (i : Int) = (c.toNat : Int) := by
        rw [bt_bs l i hi]
        exact fun e => h (UInt8.toNat_inj.1 (by clear e1; omega))
      have hpre : (l.drop st).take (i + 1 - st) = (l.drop st).take (i - st) ++ [l[i]] := by
        have hlt : i - st < (l.drop st).length := by rw [List.length_drop]; clear e1; omega
        rw [show i + 1 - st = (i - st) + 1 by clear e1; omega, List.take_succ_eq_append_getElem hlt]
        congr 2
        rw [List.getElem_drop]
        congr 1
        clear e1
        omega
      rw [hpre] at ih
      obtain ⟨x, t, e⟩ := sp_ne c (l.drop (i + 1))
      rw [e] at ih ⊢
      refine Evt.step (g := fun K => spec_l01Split.l0 K (bs l) (c.toNat : Int) acc (st : Int) (((i + 1 : Nat)) : Int)) ?_ fun K => ?_
      · have eg : glue ((l.drop st).take (i - st) ++ [l[i]]) (x :: t) = glue ((l.drop st).take (i - st)) ((l[i] :: x) :: t) := by
          show (_ ++ [l[i]] ++ x) :: t = (_ ++ (l[i] :: x)) :: t
          rw [List.append_assoc, List.singleton_append]
        rw [eg] at ih
        exact ih
      · rw [spec_l01Split.l0, if_pos f1, if_neg f2, if_pos (Int.natCast_nonneg i), if_pos f3, if_neg hn, e1]
theorem specSplit (c : UInt8) (l : List UInt8) (hl : l.length ≤ 1048576) : Evt (fun K => spec_l01Split.f K (bs l) (c.toNat : Int)) ((sp c l).map bs) := by
  have h := specSplit_l0 c l hl l.length 0 0 [] (Nat.zero_add _) (Nat.le_refl _) (Nat.le_refl _)
  rw [List.drop_zero, List.nil_append] at h
  have hg : glue (l.take (0 - 0)) (sp c l) = sp c l := by
    rw [Nat.sub_self, List.take_zero]
    obtain ⟨x, t, e⟩ := sp_ne c l
    rw [e]
    rfl
  rw [hg] at h
  exact h

/-- What a list of digits says behind a number. -/
def digs : Nat → List UInt8 → Option Nat
  | n, [] => some n
  | n, b :: l => if 48 ≤ b.toNat ∧ b.toNat ≤ 57 then digs (10 * n + (b.toNat - 48)) l else none
theorem digs_dec : ∀ (d n : Nat) (r : List UInt8), n ≤ d → digs 0 (Lib.decDigits n ++ r) = digs n r
  | d, n, r, hd => by
    by_cases h : n < 10
    · rw [Lib.decDigits_one h, List.singleton_append, digs, dig_ofNat h, if_pos (by omega)]
      congr 1
      omega
    · rcases d with _ | d
      · omega
      have hm := Nat.mod_lt n (show 0 < 10 by decide)
      rw [dec_snoc h, List.append_assoc, digs_dec d (n / 10) _ (by omega), List.singleton_append, digs, dig_ofNat hm, if_pos (by omega)]
      congr 1
      omega
theorem digs_lt : ∀ (l : List UInt8) (n m e : Nat), digs n l = some m → n < 10 ^ e → m < 10 ^ (e + l.length)
  | [], n, m, e, h, hn => by
    rw [digs] at h
    cases h
    exact hn
  | b :: l, n, m, e, h, hn => by
    unfold digs at h
    by_cases hb : 48 ≤ b.toNat ∧ b.toNat ≤ 57
    · rw [if_pos hb] at h
      have h2 : 10 * n + (b.toNat - 48) < 10 ^ (e + 1) := by rw [Nat.pow_succ]; omega
      have := digs_lt l _ m (e + 1) h h2
      rw [List.length_cons]
      rwa [show e + (l.length + 1) = e + 1 + l.length by omega]
    · rw [if_neg hb] at h
      cases h
/-- What the loop's end says. -/
def valEnd (p : ByteArray) (x4 : Int) (m : Nat) : Int × Bool := if x4 = 1 then (-(m : Int), (bs (Lib.itoa (-(m : Int)))).toList == p.toList) else ((m : Int), (bs (Lib.itoa (m : Int))).toList == p.toList)
theorem val_l0 (l : List UInt8) (hl : l.length ≤ 1048576) (x4 : Int) : ∀ (d i n e : Nat), i + d = l.length → n < 10 ^ e → e + d ≤ 13 →
    Evt (fun K => spec_l01Value.l0 K (bs l) x4 (n : Int) (i : Int)) (match digs n (l.drop i) with
      | some m => valEnd (bs l) x4 m
      | none => (0, false))
  | 0, i, n, e, hd, hn, he => by
    have hp : 10 ^ e ≤ 10 ^ 13 := Nat.pow_le_pow_right (by decide) (by omega)
    rw [List.drop_of_length_le (by omega), digs]
    simp only
    unfold valEnd
    have ew : wrap64 (-(n : Int)) = -(n : Int) := w64 _ (by omega) (by omega)
    by_cases h : x4 = 1
    · rw [if_pos h]
      refine Evt.bind1 (number_big (-(n : Int)) (by clear ew; omega) (by clear ew; omega)) (h := fun _ t => some (wrap64 (-(n : Int)), (t.toList == (bs l).toList))) (Evt.const fun _ => by rw [ew]) fun K => ?_
      rw [spec_l01Value.l0, if_neg (by rw [bs_size]; clear ew; omega), if_pos h, ew]
    · rw [if_neg h]
      refine Evt.bind1 (number_big (n : Int) (by clear ew; omega) (by clear ew; omega)) (h := fun _ t => some ((n : Int), (t.toList == (bs l).toList))) (Evt.const fun _ => rfl) fun K => ?_
      rw [spec_l01Value.l0, if_neg (by rw [bs_size]; clear ew; omega), if_neg h]
  | d + 1, i, n, e, hd, hn, he => by
    have hi : i < l.length := by omega
    have hp : 10 ^ e ≤ 10 ^ 13 := Nat.pow_le_pow_right (by decide) (by omega)
    have f1 : (i : Int) < ((bs l).size : Int) := by rw [bs_size]; omega
    have eb := bt_bs l i hi
    have hb256 := (l[i]).toNat_lt
    rw [List.drop_eq_getElem_cons hi, digs]
    by_cases c : 48 ≤ (l[i]).toNat ∧ (l[i]).toNat ≤ 57
    · rw [if_pos c]
      have h2 : 10 * n + ((l[i]).toNat - 48) < 10 ^ (e + 1) := by rw [Nat.pow_succ]; omega
      have ih := val_l0 l hl x4 d (i + 1) (10 * n + ((l[i]).toNat - 48)) (e + 1) (by omega) h2 (by omega)
      have e1 : wrap64 (10 * (n : Int)) = 10 * (n : Int) := w64 _ (by omega) (by omega)
      have e2 : wrap64 (10 * (n : Int) + (((l[i]).toNat : Int) - 48) % 256) = ((10 * n + ((l[i]).toNat - 48) : Nat) : Int) := by
        have e3 : 10 * (n : Int) + (((l[i]).toNat : Int) - 48) % 256 = ((10 * n + ((l[i]).toNat - 48) : Nat) : Int) := by omega
        rw [e3]
        exact w64n _ (by clear e1 e3; omega)
      have ei : wrap64 ((i : Int) + 1) = ((i + 1 : Nat) : Int) := w64n (i + 1) (by clear e1 e2; omega)
      exact Evt.step ih fun K => by rw [spec_l01Value.l0, if_pos f1, if_pos (Int.natCast_nonneg i), eb, if_neg (by clear e1 e2 ei; omega), if_neg (by clear e1 e2 ei; omega), e1, e2, ei]
    · rw [if_neg c]
      refine Evt.now fun K => ?_
      rw [spec_l01Value.l0, if_pos f1, if_pos (Int.natCast_nonneg i), eb]
      by_cases c2 : (l[i]).toNat < 48
      · rw [if_pos (by omega)]
      · rw [if_neg (by omega), if_pos (by omega)]
/-- The reference's reading of a numeral. -/
theorem specNum (p : ByteArray) (hp : p.size ≤ 1048576) : ∃ v b, Evt (fun K => spec_l01Value.f K p) (v, b) ∧ (b = true → Num p v) ∧ ∀ u, Num p u → b = true ∧ v = u := by
  obtain ⟨l, rfl⟩ : ∃ l, p = bs l := ⟨_, ba_of p⟩
  rw [bs_size] at hp
  -- from: 1 behind a sign
  obtain ⟨fr, hfr, hfl, hcase⟩ : ∃ fr : Nat, fr ≤ 1 ∧ fr ≤ l.length ∧ (∀ r, Evt (fun K => spec_l01Value.j1 K (bs l) (fr : Int)) r → Evt (fun K => spec_l01Value.f K (bs l)) r) ∧ ((fr = 1 ∧ ∃ r, l = 45 :: r) ∨ (fr = 0 ∧ ∀ r, l ≠ 45 :: r)) := by
    cases l with
    | nil =>
      refine ⟨0, by omega, Nat.zero_le _, fun r h => Evt.step (g := fun K => spec_l01Value.j1 K (bs []) 0) h fun K => ?_, .inr ⟨rfl, fun r h => by cases h⟩⟩
      unfold spec_l01Value.f
      rw [if_neg (by rw [bs_size]; decide), spec_l01Value.j0, if_neg (by simp)]
    | cons b r =>
      have hpos : ((bs (b :: r)).size : Int) > 0 := by rw [bs_size, List.length_cons]; omega
      have eb := bt_bs (b :: r) 0 (Nat.succ_pos _)
      by_cases hb : b = 45
      · subst hb
        refine ⟨1, Nat.le_refl _, by rw [List.length_cons]; omega, fun q h => Evt.step (g := fun K => spec_l01Value.j1 K (bs (45 :: r)) 1) h fun K => ?_, .inl ⟨rfl, r, rfl⟩⟩
        unfold spec_l01Value.f
        rw [if_pos hpos, if_pos hpos, spec_l01Value.j0, show bt (bs (45 :: r)) 0 = 45 from eb, if_pos (by decide)]
      · refine ⟨0, by omega, Nat.zero_le _, fun q h => Evt.step (g := fun K => spec_l01Value.j1 K (bs (b :: r)) 0) h fun K => ?_, .inr ⟨rfl, fun q h => hb (List.cons.inj h).1⟩⟩
        unfold spec_l01Value.f
        have hne : ¬ ((bt (bs (b :: r)) 0 == 45) = true) := by
          rw [show bt (bs (b :: r)) 0 = ((b.toNat : Nat) : Int) from eb, beq_iff_eq]
          exact fun e => hb (UInt8.toNat_inj.1 (by have : (45 : UInt8).toNat = 45 := rfl; omega))
        rw [if_pos hpos, if_pos hpos, spec_l01Value.j0, if_neg hne]
  obtain ⟨hj, hcase⟩ := hcase
  have ew : wrap64 (((bs l).size : Int) - (fr : Int)) = ((l.length - fr : Nat) : Int) := by
    rw [bs_size, w64 _ (by omega) (by omega)]
    omega
  -- what a number's text looks like
  have shape : ∀ u, Num (bs l) u → (fr = 1 ∧ u < 0 ∧ l = 45 :: Lib.decDigits u.natAbs ∨ fr = 0 ∧ 0 ≤ u ∧ l = Lib.decDigits u.natAbs) ∧ Lib.nDigits u.natAbs ≤ 13 := fun u hu => by
    obtain ⟨h1, h2, h3⟩ := hu
    have e : l = Lib.itoa u := by rw [← bs_data l, h1, bs_data]
    refine ⟨?_, nDigits_le 13 _ (by decide) (by omega)⟩
    by_cases c : u < 0
    · obtain ⟨n, rfl⟩ : ∃ n : Nat, u = -(n : Int) := ⟨u.natAbs, by omega⟩
      rw [itoa_negN n (by omega)] at e
      rcases hcase with ⟨h, _⟩ | ⟨_, h⟩
      · exact .inl ⟨h, c, by rw [e]; congr 2; omega⟩
      · exact absurd e (h _)
    · obtain ⟨n, rfl⟩ : ∃ n : Nat, u = (n : Int) := ⟨u.toNat, by omega⟩
      rw [itoa_nat] at e
      rcases hcase with ⟨_, r, hr⟩ | ⟨h, _⟩
      · obtain ⟨d, q, hq, hq2, _⟩ := dec_head n
        rw [e, hq] at hr
        rw [(List.cons.inj hr).1] at hq2
        exact absurd hq2 (by decide)
      · exact .inr ⟨h, by omega, by rw [e]; congr 1⟩
  by_cases hsz : 1 ≤ l.length - fr ∧ l.length - fr ≤ 13
  · have hv := val_l0 l hp (fr : Int) (l.length - fr) fr 0 0 (by omega) (by decide) (by omega)
    have hf : ∀ r, Evt (fun K => spec_l01Value.l0 K (bs l) (fr : Int) 0 (fr : Int)) r → Evt (fun K => spec_l01Value.f K (bs l)) r := fun r h => hj r (Evt.step (g := fun K => spec_l01Value.j2 K (bs l) (fr : Int) false) (Evt.step h fun K => by rw [spec_l01Value.j2, if_neg (by simp)]) fun K => by
      rw [spec_l01Value.j1, ew, if_neg (by clear ew; omega), decide_eq_false (by clear ew; omega)])
    cases hdg : digs 0 (l.drop fr) with
    | none =>
      rw [hdg] at hv
      refine ⟨0, false, hf _ hv, (fun h => by cases h), fun u hu => ?_⟩
      exfalso
      obtain ⟨hsh, _⟩ := shape u hu
      have hd0 := digs_dec u.natAbs u.natAbs [] (Nat.le_refl _)
      rw [List.append_nil] at hd0
      rcases hsh with ⟨h1, _, h3⟩ | ⟨h1, _, h3⟩
      · rw [h1, h3] at hdg
        rw [show (45 :: Lib.decDigits u.natAbs).drop 1 = Lib.decDigits u.natAbs from rfl, hd0] at hdg
        cases hdg
      · rw [h1, h3, List.drop_zero, hd0] at hdg
        cases hdg
    | some m =>
      rw [hdg] at hv
      simp only at hv
      have hm := digs_lt _ 0 m 0 hdg (by decide)
      have hm13 : m < 10 ^ 13 := Nat.lt_of_lt_of_le hm (Nat.pow_le_pow_right (by decide) (by rw [List.length_drop]; omega))
      refine ⟨(valEnd (bs l) (fr : Int) m).1, (valEnd (bs l) (fr : Int) m).2, hf _ hv, fun hb => ?_, fun u hu => ?_⟩
      · unfold valEnd at hb ⊢
        by_cases c : (fr : Int) = 1
        · rw [if_pos c] at hb ⊢
          exact ⟨(ba_inj (beq_iff_eq.1 hb)).symm, by simp only; omega, by simp only; omega⟩
        · rw [if_neg c] at hb ⊢
          exact ⟨(ba_inj (beq_iff_eq.1 hb)).symm, by simp only; omega, by simp only; omega⟩
      · obtain ⟨hsh, _⟩ := shape u hu
        have hd0 := digs_dec u.natAbs u.natAbs [] (Nat.le_refl _)
        rw [List.append_nil] at hd0
        rcases hsh with ⟨h1, h2, h3⟩ | ⟨h1, h2, h3⟩
        · have em : m = u.natAbs := by
            rw [h1, h3] at hdg
            rw [show (45 :: Lib.decDigits u.natAbs).drop 1 = Lib.decDigits u.natAbs from rfl, hd0] at hdg
            exact (Option.some.inj hdg).symm
          have eu : -(m : Int) = u := by omega
          unfold valEnd
          rw [if_pos (by omega), eu]
          exact ⟨beq_iff_eq.2 (by rw [hu.1]), rfl⟩
        · have em : m = u.natAbs := by
            rw [h1, h3, List.drop_zero, hd0] at hdg
            exact (Option.some.inj hdg).symm
          have eu : (m : Int) = u := by omega
          unfold valEnd
          rw [if_neg (by omega), eu]
          exact ⟨beq_iff_eq.2 (by rw [hu.1]), rfl⟩
  · refine ⟨0, false, hj _ (Evt.step (g := fun K => spec_l01Value.j2 K (bs l) (fr : Int) true) (Evt.now fun K => by rw [spec_l01Value.j2, if_pos rfl]) fun K => ?_), (fun h => by cases h), fun u hu => ?_⟩
    · rw [spec_l01Value.j1, ew]
      by_cases c : ((l.length - fr : Nat) : Int) < 1
      · rw [if_pos c]
      · rw [if_neg c, decide_eq_true (by clear ew; omega)]
    · exfalso
      obtain ⟨hsh, hnd⟩ := shape u hu
      have h1 := Lib.nDigits_pos u.natAbs
      have h2 := Lib.decDigits_length u.natAbs
      rcases hsh with ⟨h3, _, h4⟩ | ⟨h3, _, h4⟩
      · have := congrArg List.length h4
        rw [List.length_cons, h2] at this
        clear ew
        omega
      · have := congrArg List.length h4
        rw [h2] at this
        clear ew
        omega

theorem specIsMatrix_l0 (a b : Int) (l : List Int) (hl : l.length ≤ 1048576) : ∀ (d i k : Nat), i + d = l.length → d < k →
    spec_IsMatrix.l0 k (i : Int) a b l = some (!((l.drop i).any matBad)) := by
  intro d
  induction d with
  | zero =>
    intro i k hd hk
    obtain ⟨k, rfl⟩ := succ_k hk
    simp only [spec_IsMatrix.l0]
    rw [if_neg (by omega), List.drop_of_length_le (by omega)]
    rfl
  | succ d ih =>
    intro i k hd hk
    obtain ⟨k, rfl⟩ := succ_k hk
    simp only [spec_IsMatrix.l0]
    rw [if_pos (by omega), if_pos (by omega), w64 _ (by omega) (by omega), cast_succ, ih (i + 1) k (by omega) (by omega), drop_rd l i (by omega)]
    unfold spec_l01In.f
    rw [List.any_cons]
    unfold matBad
    generalize rd l (i : Int) = y
    by_cases h1 : -1000000000000 ≤ y <;> by_cases h2 : y ≤ 1000000000000 <;> simp [h1, h2]
theorem prod48 (a b : Int) (h1 : 0 ≤ a) (h2 : a ≤ 48) (h3 : 0 ≤ b) (h4 : b ≤ 48) : 0 ≤ a * b ∧ a * b ≤ 2304 :=
  ⟨Int.mul_nonneg h1 h3, Int.le_trans (Int.mul_le_mul h2 h4 h3 (by omega)) (by omega)⟩
theorem specIsMatrix_eq (a b : Int) (l : List Int) (k : Nat) (hl : l.length ≤ 1048576) (hk : l.length + 1 < k) : spec_IsMatrix.f k a b l = some (isMatB a b l) := by
  obtain ⟨k, rfl⟩ := succ_k hk
  have hs := specIsMatrix_l0 a b l hl l.length 0 k (by omega) (by omega)
  unfold spec_IsMatrix.f spec_l01In.f isMatB
  simp only [spec_IsMatrix.j0]
  by_cases h1 : 0 ≤ a <;> by_cases h2 : a ≤ 48 <;> by_cases h3 : 0 ≤ b <;> by_cases h4 : b ≤ 48
  case pos =>
    have hp := prod48 a b h1 h2 h3 h4
    rw [w64 (a * b) (by omega) (by omega)]
    rw [Int.natCast_zero] at hs
    by_cases h5 : (l.length : Int) = a * b
    · have h5' : ((l.length : Int) != a * b) = false := by simp [h5]
      simp [h1, h2, h3, h4, h5, h5', hs]
    · have h5' : ((l.length : Int) != a * b) = true := by simp [h5]
      simp [h1, h2, h3, h4, h5, h5']
  all_goals simp [h1, h2, h3, h4]


theorem isMatB_len {a b : Int} {l : List Int} (h : isMatB a b l = true) : (0 ≤ a ∧ a ≤ 48) ∧ (0 ≤ b ∧ b ≤ 48) ∧ (l.length : Int) = a * b := by
  unfold isMatB at h
  simp only [Bool.and_eq_true, decide_eq_true_eq] at h
  exact ⟨h.1, h.2.1, h.2.2.1⟩


def NumR (p : ByteArray) : Option Int → Prop
  | some v => Num p v
  | none => ∀ v, ¬ Num p v
def pk (o : Option Int) (x : Int) : Int × Bool := match o with
  | some v => (v, true)
  | none => (x, false)
theorem pk_some (v x : Int) : pk (some v) x = (v, true) := rfl
theorem pk_none (x : Int) : pk none x = (x, false) := rfl
def NumsL : List ByteArray → List Int → Prop
  | [], [] => True
  | p :: W, v :: vs => Num p v ∧ NumsL W vs
  | _, _ => False
def NumsR (W : List ByteArray) : Option (List Int) → Prop
  | some vs => NumsL W vs
  | none => ∀ vs, ¬ NumsL W vs
theorem num_fun {p : ByteArray} {u v : Int} (h1 : Num p u) (h2 : Num p v) : u = v := by
  have hz : p.size ≤ 1048576 := by
    rw [h1.1, bs_size]
    have := trim_itoa u
    unfold Lib.itoa
    by_cases c : u < 0
    · rw [if_pos c, List.length_cons, Lib.decDigits_length]
      have := nDigits_le 13 u.natAbs (by decide) (by have := h1.2; omega)
      omega
    · rw [if_neg c, Lib.decDigits_length]
      have := nDigits_le 13 u.toNat (by decide) (by have := h1.2; omega)
      omega
  obtain ⟨x, b, _, _, h⟩ := implNum p hz
  exact (h u h1).2.symm.trans (h v h2).2
theorem numR_fun {p : ByteArray} : ∀ {a b : Option Int}, NumR p a → NumR p b → a = b
  | some u, some v, h1, h2 => by rw [num_fun h1 h2]
  | some u, none, h1, h2 => absurd h1 (h2 u)
  | none, some v, h1, h2 => absurd h2 (h1 v)
  | none, none, _, _ => rfl
theorem nums_fun : ∀ {W : List ByteArray} {u v : List Int}, NumsL W u → NumsL W v → u = v
  | [], [], [], _, _ => rfl
  | p :: W, a :: u, b :: v, h1, h2 => by rw [num_fun h1.1 h2.1, nums_fun h1.2 h2.2]
  | [], _ :: _, _, h1, _ => h1.elim
  | [], [], _ :: _, _, h2 => h2.elim
  | _ :: _, [], _, h1, _ => h1.elim
  | _ :: _, _ :: _, [], _, h2 => h2.elim
theorem numsR_fun {W : List ByteArray} : ∀ {a b : Option (List Int)}, NumsR W a → NumsR W b → a = b
  | some u, some v, h1, h2 => by rw [nums_fun h1 h2]
  | some u, none, h1, h2 => absurd h1 (h2 u)
  | none, some v, h1, h2 => absurd h2 (h1 v)
  | none, none, _, _ => rfl
theorem implNumR (p : ByteArray) (hp : p.size ≤ 1048576) : ∃ o x, NumR p o ∧ impl_readNumber.f p 13 = some (pk o x) := by
  obtain ⟨v, b, h1, h2, h3⟩ := implNum p hp
  cases b with
  | true => exact ⟨some v, 0, h2 rfl, h1⟩
  | false => exact ⟨none, v, (fun u hu => by cases (h3 u hu).1), h1⟩
theorem specNumR (p : ByteArray) (hp : p.size ≤ 1048576) : ∃ o x, NumR p o ∧ Evt (fun K => spec_l01Value.f K p) (pk o x) := by
  obtain ⟨v, b, h1, h2, h3⟩ := specNum p hp
  cases b with
  | true => exact ⟨some v, 0, h2 rfl, h1⟩
  | false => exact ⟨none, v, (fun u hu => by cases (h3 u hu).1), h1⟩
theorem rdOf_at (W : List ByteArray) (i : Nat) (hi : i < W.length) : rdOf ByteArray.empty W (i : Int) = W[i] := by
  unfold rdOf
  rw [Int.toNat_natCast, List.getD_eq_getElem?_getD, List.getElem?_eq_getElem hi]
  rfl
theorem implNums_l0 (W : List ByteArray) (hl : W.length ≤ 1048577) (hW : ∀ p ∈ W, p.size ≤ 1048576) : ∀ (e i : Nat) (acc : List Int), i + e = W.length → acc.length = i →
    ∃ o, NumsR (W.drop i) o ∧ Evt (fun K => impl_readNumbers.l0 K 13 acc W (W.length : Int) (i : Int)) (match o with
      | some vs => (acc ++ vs, true)
      | none => ([], false))
  | 0, i, acc, he, ha => by
    rw [List.drop_of_length_le (by omega)]
    refine ⟨some [], trivial, Evt.now fun K => ?_⟩
    simp only [List.append_nil]
    rw [impl_readNumbers.l0, if_neg (by omega)]
  | e + 1, i, acc, he, ha => by
    have hi : i < W.length := by omega
    have er := rdOf_at W i hi
    obtain ⟨o, x, ho, hv⟩ := implNumR W[i] (hW _ (List.getElem_mem hi))
    have f1 : (i : Int) < (W.length : Int) := Int.ofNat_lt.2 hi
    have ei : wrap64 ((i : Int) + 1) = ((i + 1 : Nat) : Int) := w64n (i + 1) (by omega)
    rw [List.drop_eq_getElem_cons hi]
    cases o with
    | some v =>
      obtain ⟨q, hq, h1⟩ := implNums_l0 W hl hW e (i + 1) (acc ++ [v]) (by clear ei; omega) (by rw [List.length_append, List.length_singleton, ha])
      have st : ∀ r, Evt (fun K => impl_readNumbers.l0 K 13 (acc ++ [v]) W (W.length : Int) ((i + 1 : Nat) : Int)) r → Evt (fun K => impl_readNumbers.l0 K 13 acc W (W.length : Int) (i : Int)) r := fun r h => Evt.step h fun K => by
        rw [impl_readNumbers.l0, if_pos f1, if_pos (Int.natCast_nonneg i), if_pos f1, er, hv, Option.bind_some, pk_some, if_pos rfl, if_pos (by rw [ha]; clear ei; omega), ei]
      cases q with
      | some vs =>
        refine ⟨some (v :: vs), ⟨ho, hq⟩, ?_⟩
        have h2 := st _ h1
        simp only [List.append_assoc, List.singleton_append] at h2
        exact h2
      | none => exact ⟨none, (fun vs h => match vs, h with
        | [], h => h.elim
        | _ :: vs', h => hq vs' h.2), st _ h1⟩
    | none =>
      refine ⟨none, (fun vs h => match vs, h with
        | [], h => h.elim
        | v' :: _, h => ho v' h.1), Evt.now fun K => ?_⟩
      rw [impl_readNumbers.l0, if_pos f1, if_pos (Int.natCast_nonneg i), if_pos f1, er, hv, Option.bind_some, pk_none, if_neg (by simp)]
/-- What is handed back at last. -/
def finM (a b : Int) (l : List Int) : Int × Int × List Int × Int := if isMatB a b l = true then (a, b, l, 0) else (0, 0, [], 2)
theorem specNums_l0 (W : List ByteArray) (hl : W.length ≤ 1048577) (hW : ∀ p ∈ W, p.size ≤ 1048576) (a b : Int) : ∀ (e i : Nat) (acc : List Int), i + e = W.length → 1 ≤ i → acc.length + 1 = i →
    ∃ o, NumsR (W.drop i) o ∧ Evt (fun K => spec_ParseMatrix.l0 K W (i : Int) a b acc) (match o with
      | some vs => finM a b (acc ++ vs)
      | none => (0, 0, [], 6))
  | 0, i, acc, he, hi1, ha => by
    rw [List.drop_of_length_le (by omega)]
    refine ⟨some [], trivial, ?_⟩
    simp only [List.append_nil]
    refine Evt.bind1 (g := fun K => spec_IsMatrix.f K a b acc) ⟨acc.length + 2, fun K hK => specIsMatrix_eq a b acc K (by omega) (by omega)⟩ (h := fun _ t148 => (if t148 = true then (some (a, b, acc, 0)) else (some (0, 0, ([] : List Int), 2)))) (Evt.const fun _ => ?_) fun K => by rw [spec_ParseMatrix.l0, if_neg (by omega)]
    unfold finM
    by_cases h : isMatB a b acc = true
    · rw [if_pos h, if_pos h]
    · rw [if_neg h, if_neg h]
  | e + 1, i, acc, he, hi1, ha => by
    have hi : i < W.length := by omega
    have er := rdOf_at W i hi
    obtain ⟨o, x, ho, hv⟩ := specNumR W[i] (hW _ (List.getElem_mem hi))
    have f1 : (i : Int) < (W.length : Int) := Int.ofNat_lt.2 hi
    have ei : wrap64 ((i : Int) + 1) = ((i + 1 : Nat) : Int) := w64n (i + 1) (by omega)
    rw [List.drop_eq_getElem_cons hi]
    have st : ∀ r, Evt (fun K => if (pk o x).2 = true then (if acc.length < 17592186044416 then (spec_ParseMatrix.l0 K W (wrap64 ((i : Int) + 1)) a b (acc ++ [(pk o x).1])) else (none)) else (some (0, 0, ([] : List Int), 6))) r → Evt (fun K => spec_ParseMatrix.l0 K W (i : Int) a b acc) r := fun r h =>
      Evt.bind1 hv (h := fun K bt143 => (if bt143.2 = true then (if acc.length < 17592186044416 then (spec_ParseMatrix.l0 K W (wrap64 ((i : Int) + 1)) a b (acc ++ [bt143.1])) else (none)) else (some (0, 0, ([] : List Int), 6)))) h fun K => by rw [spec_ParseMatrix.l0, if_pos f1, if_pos (Int.natCast_nonneg i), er]
    cases o with
    | some v =>
      obtain ⟨q, hq, h1⟩ := specNums_l0 W hl hW a b e (i + 1) (acc ++ [v]) (by clear ei; omega) (by clear ei; omega) (by rw [List.length_append, List.length_singleton, ha])
      have st2 : ∀ r, Evt (fun K => spec_ParseMatrix.l0 K W ((i + 1 : Nat) : Int) a b (acc ++ [v])) r → Evt (fun K => spec_ParseMatrix.l0 K W (i : Int) a b acc) r := fun r h => st r (Evt.same h fun K => by rw [pk_some, if_pos rfl, if_pos (by clear ei; omega), ei])
      cases q with
      | some vs =>
        refine ⟨some (v :: vs), ⟨ho, hq⟩, ?_⟩
        have h2 := st2 _ h1
        simp only [List.append_assoc, List.singleton_append] at h2
        exact h2
      | none => exact ⟨none, (fun vs h => match vs, h with
        | [], h => h.elim
        | _ :: vs', h => hq vs' h.2), st2 _ h1⟩
    | none => exact ⟨none, (fun vs h => match vs, h with
        | [], h => h.elim
        | v' :: _, h => ho v' h.1), st _ (Evt.const fun K => by rw [pk_none]; exact if_neg (by simp))⟩
/-- What both answer. -/
def outM (one two : Bool) (o1 o2 : Option Int) (o3 : Option (List Int)) (w0 : ByteArray) : Int × Int × List Int × Int :=
  if one = true ∧ two = true then (match o1, o2, o3 with
    | some a, some b, some l => if w0.toList = [] then finM a b l else (0, 0, [], 6)
    | _, _, _ => (0, 0, [], 6)) else (0, 0, [], 6)
theorem implPM (s x1 x2 y1 y2 : ByteArray) (x3 y3 : Bool) (W : List ByteArray) (hc1 : strings_Cut.f s (⟨#[58]⟩ : ByteArray) = some (x1, x2, x3)) (hc2 : strings_Cut.f x1 (⟨#[120]⟩ : ByteArray) = some (y1, y2, y3)) (hsp : strings_Split.f x2 (⟨#[32]⟩ : ByteArray) = some W)
    (hy1 : y1.size ≤ 1048576) (hy2 : y2.size ≤ 1048576) (hW1 : 1 ≤ W.length) (hl : W.length ≤ 1048577) (hW : ∀ p ∈ W, p.size ≤ 1048576) :
    ∃ o1 o2 o3, NumR y1 o1 ∧ NumR y2 o2 ∧ NumsR (W.drop 1) o3 ∧ Evt (fun K => impl_ParseMatrix.f K s) (outM x3 y3 o1 o2 o3 (rdOf ByteArray.empty W 0)) := by
  obtain ⟨o1, v1, h1, e1⟩ := implNumR y1 hy1
  obtain ⟨o2, v2, h2, e2⟩ := implNumR y2 hy2
  obtain ⟨o3, h3, e3⟩ := implNums_l0 (W.drop 1) (by rw [List.length_drop]; omega) (fun p hp => hW p (List.mem_of_mem_drop hp)) (W.drop 1).length 0 [] (Nat.zero_add _) rfl
  rw [List.drop_zero] at h3
  refine ⟨o1, o2, o3, h1, h2, h3, ?_⟩
  have err : ∀ (K : Nat) (a b : Int) (l : List Int), impl_ParseMatrix.j0 (K + 1) a b l true = some (0, 0, [], 6) := fun K a b l => by rw [impl_ParseMatrix.j0, if_pos rfl]
  have fin : ∀ (K : Nat) (a b : Int) (l : List Int), impl_ParseMatrix.j0 (K + 1) a b l false = some (finM a b l) := fun K a b l => by
    rw [impl_ParseMatrix.j0, if_neg (by simp)]
    show (if isMatB a b l = true then some (a, b, l, 0) else some (0, 0, ([] : List Int), 2)) = some (finM a b l)
    unfold finM
    by_cases h : isMatB a b l = true
    · rw [if_pos h, if_pos h]
    · rw [if_neg h, if_neg h]
  refine Evt.bind e3 (h := fun K bt173 => (if x3 = true then (if y3 = true then (if (pk o1 v1).2 = true then (if (pk o2 v2).2 = true then (if bt173.2 = true then (if 0 < (W.length : Int) then (impl_ParseMatrix.j0 K (pk o1 v1).1 (pk o2 v2).1 bt173.1 ((rdOf ByteArray.empty W 0).toList != ([] : List UInt8))) else (none)) else (impl_ParseMatrix.j0 K (pk o1 v1).1 (pk o2 v2).1 bt173.1 true)) else (impl_ParseMatrix.j0 K (pk o1 v1).1 (pk o2 v2).1 bt173.1 true)) else (impl_ParseMatrix.j0 K (pk o1 v1).1 (pk o2 v2).1 bt173.1 true)) else (impl_ParseMatrix.j0 K (pk o1 v1).1 (pk o2 v2).1 bt173.1 true)) else (impl_ParseMatrix.j0 K (pk o1 v1).1 (pk o2 v2).1 bt173.1 true))) ?_ fun K => ?_
  · have hw0 : 0 < W.length := by omega
    unfold outM
    cases x3 with
    | false => exact Evt.now fun K => by simp [pk, err]
    | true =>
      cases y3 with
      | false => exact Evt.now fun K => by simp [pk, err]
      | true =>
        rw [if_pos ⟨rfl, rfl⟩]
        cases o1 with
        | none => exact Evt.now fun K => by simp [pk, err]
        | some a =>
          cases o2 with
          | none => exact Evt.now fun K => by simp [pk, err]
          | some b =>
            cases o3 with
            | none => exact Evt.now fun K => by simp [pk, err]
            | some l =>
              simp only [List.nil_append]
              by_cases h : (rdOf ByteArray.empty W 0).toList = []
              · rw [if_pos h]
                exact Evt.now fun K => by simp [pk, hw0, h, fin]
              · rw [if_neg h]
                exact Evt.now fun K => by
                  simp [pk, hw0]
                  rw [bne_iff_ne.2 h]
                  exact err K a b l
  · unfold impl_ParseMatrix.f
    rw [hc1, Option.bind_some]
    simp only
    rw [hc2, Option.bind_some]
    simp only
    rw [e1, Option.bind_some, e2, Option.bind_some, hsp, Option.bind_some, if_pos (by omega)]
    rfl
theorem specPM (l : List UInt8) (hl : l.length ≤ 1048576) (p q : Nat) (hx : fi 120 l = some p) (hq : fi 58 l = some q) (hpq : p < q) (W : List ByteArray) (hW : W = (sp 32 (l.drop (q + 1))).map bs) :
    ∃ o1 o2 o3, NumR (bs (l.take p)) o1 ∧ NumR (bs ((l.take q).drop (p + 1))) o2 ∧ NumsR (W.drop 1) o3 ∧ Evt (fun K => spec_ParseMatrix.f K (bs l)) (outM true true o1 o2 o3 (rdOf ByteArray.empty W 0)) := by
  have hqlt := fi_lt _ _ _ hq
  have hz1 : (bs (l.take p)).size ≤ 1048576 := by rw [bs_size, List.length_take]; omega
  have hz2 : (bs ((l.take q).drop (p + 1))).size ≤ 1048576 := by rw [bs_size, List.length_drop, List.length_take]; omega
  obtain ⟨o1, v1, h1, e1⟩ := specNumR _ hz1
  obtain ⟨o2, v2, h2, e2⟩ := specNumR _ hz2
  have hsplen := sp_len 32 (l.drop (q + 1))
  rw [List.length_drop] at hsplen
  have hWl : W.length ≤ 1048577 := by rw [hW, List.length_map]; omega
  have hW1 : 1 ≤ W.length := by
    obtain ⟨a, t, e⟩ := sp_ne 32 (l.drop (q + 1))
    rw [hW, e]
    simp
  have hWs : ∀ x ∈ W, x.size ≤ 1048576 := fun x hx => by
    rw [hW, ← implSplit 32 _ _ (Nat.le_refl _)] at hx
    have := split_sizes _ _ _ x hx
    rw [bs_size, List.length_drop] at this
    omega
  have hsp := specSplit 32 (l.drop (q + 1)) (by rw [List.length_drop]; omega)
  rw [← hW] at hsp
  have fx := find_ev 120 l hl
  have fc := find_ev 58 l hl
  have ex : fiI 120 l = (p : Int) := by unfold fiI; rw [hx]
  have ec : fiI 58 l = (q : Int) := by unfold fiI; rw [hq]
  rw [ex] at fx
  rw [ec] at fc
  have x1 : (bs l).extract 0 ((p : Int)).toNat = bs (l.take p) := by rw [Int.toNat_natCast, bs_extract, List.drop_zero]; rfl
  have w1 : wrap64 ((p : Int) + 1) = ((p + 1 : Nat) : Int) := w64n (p + 1) (by omega)
  have w2 : wrap64 ((q : Int) + 1) = ((q + 1 : Nat) : Int) := w64n (q + 1) (by clear w1; omega)
  have x2 : (bs l).extract (((p + 1 : Nat) : Int)).toNat ((q : Int)).toNat = bs ((l.take q).drop (p + 1)) := by rw [Int.toNat_natCast, Int.toNat_natCast, bs_extract, List.drop_take]
  have x3 : (bs l).extract (((q + 1 : Nat) : Int)).toNat (bs l).size = bs (l.drop (q + 1)) := by
    rw [Int.toNat_natCast, bs_extract, bs_size]
    congr 1
    exact List.take_of_length_le (by rw [List.length_drop]; clear w1 w2; omega)
  have err : ∀ (K : Nat) (a b : Int), spec_ParseMatrix.j1 (K + 1) a b W true = some (0, 0, [], 6) := fun K a b => by rw [spec_ParseMatrix.j1, if_pos rfl]
  have g : ∀ r, Evt (fun K => if (pk o1 v1).2 = true then (if (pk o2 v2).2 = true then (if 0 < (W.length : Int) then (spec_ParseMatrix.j1 K (pk o1 v1).1 (pk o2 v2).1 W ((rdOf ByteArray.empty W 0).toList != ([] : List UInt8))) else (none)) else (spec_ParseMatrix.j1 K (pk o1 v1).1 (pk o2 v2).1 W true)) else (spec_ParseMatrix.j1 K (pk o1 v1).1 (pk o2 v2).1 W true)) r → Evt (fun K => spec_ParseMatrix.f K (bs l)) r := fun r h => by
    refine Evt.bind fx (h := fun K t131 => ((spec_l01Find.f K (bs l) 58).bind fun t132 => (if t131 < 0 then (spec_ParseMatrix.j0 K (bs l) t131 t132 true) else (spec_ParseMatrix.j0 K (bs l) t131 t132 (decide (t132 < t131)))))) ?_ fun K => rfl
    refine Evt.bind fc (h := fun K t132 => (if (p : Int) < 0 then (spec_ParseMatrix.j0 K (bs l) (p : Int) t132 true) else (spec_ParseMatrix.j0 K (bs l) (p : Int) t132 (decide (t132 < (p : Int)))))) ?_ fun K => rfl
    refine Evt.same (g := fun K => spec_ParseMatrix.j0 K (bs l) (p : Int) (q : Int) false) ?_ fun K => by rw [if_neg (by clear w1 w2; omega), decide_eq_false (by clear w1 w2; omega)]
    refine Evt.bind1 e1 (h := fun K bt133 => (if 0 ≤ (wrap64 ((p : Int) + 1)) then (if (wrap64 ((p : Int) + 1)) ≤ (q : Int) then (if (q : Int) ≤ ((bs l).size : Int) then ((spec_l01Value.f K ((bs l).extract ((wrap64 ((p : Int) + 1)) : Int).toNat ((q : Int) : Int).toNat)).bind fun bt135 => (if 0 ≤ (wrap64 ((q : Int) + 1)) then (if (wrap64 ((q : Int) + 1)) ≤ ((bs l).size : Int) then ((spec_l01Split.f K ((bs l).extract ((wrap64 ((q : Int) + 1)) : Int).toNat (bs l).size) 32).bind fun t137 => (if bt133.2 = true then (if bt135.2 = true then (if 0 < (t137.length : Int) then (spec_ParseMatrix.j1 K bt133.1 bt135.1 t137 ((rdOf ByteArray.empty t137 0).toList != ([] : List UInt8))) else (none)) else (spec_ParseMatrix.j1 K bt133.1 bt135.1 t137 true)) else (spec_ParseMatrix.j1 K bt133.1 bt135.1 t137 true))) else (none)) else (none))) else (none)) else (none)) else (none))) ?_ fun K => by
        rw [spec_ParseMatrix.j0, if_neg (by simp), if_pos (Int.natCast_nonneg p), if_pos (by rw [bs_size]; clear w1 w2; omega), x1]
    refine Evt.bind e2 (h := fun K bt135 => (if 0 ≤ (wrap64 ((q : Int) + 1)) then (if (wrap64 ((q : Int) + 1)) ≤ ((bs l).size : Int) then ((spec_l01Split.f K ((bs l).extract ((wrap64 ((q : Int) + 1)) : Int).toNat (bs l).size) 32).bind fun t137 => (if (pk o1 v1).2 = true then (if bt135.2 = true then (if 0 < (t137.length : Int) then (spec_ParseMatrix.j1 K (pk o1 v1).1 bt135.1 t137 ((rdOf ByteArray.empty t137 0).toList != ([] : List UInt8))) else (none)) else (spec_ParseMatrix.j1 K (pk o1 v1).1 bt135.1 t137 true)) else (spec_ParseMatrix.j1 K (pk o1 v1).1 bt135.1 t137 true))) else (none)) else (none))) ?_ fun K => by
        rw [w1, if_pos (Int.natCast_nonneg _), if_pos (by clear w1 w2; omega), if_pos (by rw [bs_size]; clear w1 w2; omega), x2]
    refine Evt.bind hsp (h := fun K t137 => (if (pk o1 v1).2 = true then (if (pk o2 v2).2 = true then (if 0 < (t137.length : Int) then (spec_ParseMatrix.j1 K (pk o1 v1).1 (pk o2 v2).1 t137 ((rdOf ByteArray.empty t137 0).toList != ([] : List UInt8))) else (none)) else (spec_ParseMatrix.j1 K (pk o1 v1).1 (pk o2 v2).1 t137 true)) else (spec_ParseMatrix.j1 K (pk o1 v1).1 (pk o2 v2).1 t137 true))) h fun K => by
        rw [w2, if_pos (Int.natCast_nonneg _), if_pos (by rw [bs_size]; clear w1 w2; omega), x3]
        rfl
  have hw0 : 0 < W.length := by omega
  -- the entries' loop, whatever the sizes
  have ent : ∀ a b : Int, ∃ o3, NumsR (W.drop 1) o3 ∧ Evt (fun K => spec_ParseMatrix.l0 K W 1 a b []) (match o3 with
      | some vs => finM a b vs
      | none => (0, 0, [], 6)) := fun a b => by
    obtain ⟨o3, h3, e3⟩ := specNums_l0 W hWl hWs a b (W.length - 1) 1 [] (by clear w1 w2; omega) (Nat.le_refl _) rfl
    simp only [List.nil_append] at e3
    exact ⟨o3, h3, e3⟩
  obtain ⟨o3, h3, e3⟩ := ent (pk o1 v1).1 (pk o2 v2).1
  refine ⟨o1, o2, o3, h1, h2, h3, g _ ?_⟩
  unfold outM
  rw [if_pos ⟨rfl, rfl⟩]
  cases o1 with
  | none => exact Evt.now fun K => by simp [pk, err]
  | some a =>
    cases o2 with
    | none => exact Evt.now fun K => by simp [pk, err]
    | some b =>
      by_cases h : (rdOf ByteArray.empty W 0).toList = []
      · have st : ∀ r, Evt (fun K => spec_ParseMatrix.l0 K W 1 a b []) r → Evt (fun K => if (pk (some a) v1).2 = true then (if (pk (some b) v2).2 = true then (if 0 < (W.length : Int) then (spec_ParseMatrix.j1 K (pk (some a) v1).1 (pk (some b) v2).1 W ((rdOf ByteArray.empty W 0).toList != ([] : List UInt8))) else (none)) else (spec_ParseMatrix.j1 K (pk (some a) v1).1 (pk (some b) v2).1 W true)) else (spec_ParseMatrix.j1 K (pk (some a) v1).1 (pk (some b) v2).1 W true)) r := fun r hr => Evt.step hr fun K => by
          simp [pk, hw0, h]
          rw [spec_ParseMatrix.j1, if_neg (by simp)]
        cases o3 with
        | some vs =>
          simp only
          rw [if_pos h]
          exact st _ e3
        | none => exact st _ e3
      · have e0 : Evt (fun K => if (pk (some a) v1).2 = true then (if (pk (some b) v2).2 = true then (if 0 < (W.length : Int) then (spec_ParseMatrix.j1 K (pk (some a) v1).1 (pk (some b) v2).1 W ((rdOf ByteArray.empty W 0).toList != ([] : List UInt8))) else (none)) else (spec_ParseMatrix.j1 K (pk (some a) v1).1 (pk (some b) v2).1 W true)) else (spec_ParseMatrix.j1 K (pk (some a) v1).1 (pk (some b) v2).1 W true)) (0, 0, [], 6) := Evt.now fun K => by
          simp [pk, hw0]
          rw [bne_iff_ne.2 h]
          exact err K a b
        cases o3 with
        | some vs =>
          simp only
          rw [if_neg h]
          exact e0
        | none => exact e0
theorem cut_fi (c : UInt8) (l : List UInt8) (hl : l.length ≤ 1048576) : strings_Cut.f (bs l) (bs [c]) = some (match fi c l with
    | some i => (bs (l.take i), bs (l.drop (i + 1)), true)
    | none => (bs l, bs [], false)) := by
  unfold strings_Cut.f
  rw [if_pos (by rw [bs_size]; omega), bs_data, bs_data]
  unfold Lib.cut
  rw [index_fi]
  unfold fiI
  cases fi c l with
  | none =>
    simp only
    rw [if_neg (by decide)]
    rfl
  | some i =>
    simp only
    rw [if_pos (Int.natCast_nonneg i), Int.toNat_natCast]
    rfl
theorem split_fi (l : List UInt8) (hl : l.length ≤ 1048576) : strings_Split.f (bs l) (⟨#[32]⟩ : ByteArray) = some ((sp 32 l).map bs) := by
  unfold strings_Split.f
  rw [if_pos ⟨by rw [bs_size]; omega, by decide⟩]
  exact congrArg some (implSplit 32 l.length l (Nat.le_refl _))
theorem outM_len (one two : Bool) (o1 o2 : Option Int) (o3 : Option (List Int)) (w0 : ByteArray) (W : List ByteArray) (hl : W.length ≤ 1048577) (h : NumsR (W.drop 1) o3) : (outM one two o1 o2 o3 w0).2.2.1.length ≤ 1048576 := by
  have key : ∀ (W : List ByteArray) (vs : List Int), NumsL W vs → vs.length = W.length := by
    intro W
    induction W with
    | nil => intro vs h; cases vs with
      | nil => rfl
      | cons _ _ => exact h.elim
    | cons p W ih => intro vs h; cases vs with
      | nil => exact h.elim
      | cons v vs => rw [List.length_cons, List.length_cons, ih vs h.2]
  unfold outM
  by_cases c : one = true ∧ two = true
  · rw [if_pos c]
    cases o1 with
    | none => exact Nat.zero_le _
    | some a => cases o2 with
      | none => exact Nat.zero_le _
      | some b => cases o3 with
        | none => exact Nat.zero_le _
        | some l =>
          simp only
          by_cases c2 : w0.toList = []
          · rw [if_pos c2]
            unfold finM
            by_cases c3 : isMatB a b l = true
            · rw [if_pos c3]
              have := key _ _ h
              rw [List.length_drop] at this
              simp only
              omega
            · rw [if_neg c3]
              exact Nat.zero_le _
          · rw [if_neg c2]
            exact Nat.zero_le _
  · rw [if_neg c]
    exact Nat.zero_le _
theorem parse_both (s : ByteArray) (hs : s.size ≤ 1048576) : ∃ r, Evt (fun K => spec_ParseMatrix.f K s) r ∧ Evt (fun K => impl_ParseMatrix.f K s) r ∧ r.2.2.1.length ≤ 1048576 := by
  obtain ⟨l, rfl⟩ : ∃ l, s = bs l := ⟨_, ba_of s⟩
  rw [bs_size] at hs
  have err0 : ∀ x c : Int, Evt (fun K => spec_l01Find.f K (bs l) 120) x → Evt (fun K => spec_l01Find.f K (bs l) 58) c → (x < 0 ∨ c < x) → Evt (fun K => spec_ParseMatrix.f K (bs l)) (0, 0, [], 6) := fun x c hx hc h => by
    refine Evt.bind hx (h := fun K t131 => ((spec_l01Find.f K (bs l) 58).bind fun t132 => (if t131 < 0 then (spec_ParseMatrix.j0 K (bs l) t131 t132 true) else (spec_ParseMatrix.j0 K (bs l) t131 t132 (decide (t132 < t131)))))) ?_ fun K => rfl
    refine Evt.bind hc (h := fun K t132 => (if x < 0 then (spec_ParseMatrix.j0 K (bs l) x t132 true) else (spec_ParseMatrix.j0 K (bs l) x t132 (decide (t132 < x))))) (Evt.now fun K => ?_) fun K => rfl
    by_cases hx0 : x < 0
    · rw [if_pos hx0, spec_ParseMatrix.j0, if_pos rfl]
    · rw [if_neg hx0, spec_ParseMatrix.j0, decide_eq_true (by omega), if_pos rfl]
  have fx := find_ev 120 l hs
  have fc := find_ev 58 l hs
  have c58 : (⟨#[58]⟩ : ByteArray) = bs [58] := rfl
  have c120 : (⟨#[120]⟩ : ByteArray) = bs [120] := rfl
  have h1 := cut_fi 58 l hs
  cases hq : fi 58 l with
  | none =>
    have ec : fiI 58 l = -1 := by unfold fiI; rw [hq]
    rw [ec] at fc
    rw [hq] at h1
    simp only at h1
    have hsp := split_fi [] (by decide)
    have h2 := cut_fi 120 l hs
    obtain ⟨⟨y1, y2, y3⟩, hy⟩ : ∃ y, y = (match fi 120 l with
      | some i => (bs (l.take i), bs (l.drop (i + 1)), true)
      | none => (bs l, bs [], false)) := ⟨_, rfl⟩
    rw [← hy] at h2
    have hz : y1.size ≤ 1048576 ∧ y2.size ≤ 1048576 := by
      cases hf : fi 120 l with
      | none =>
        rw [hf] at hy
        obtain ⟨rfl, rfl, rfl⟩ : y1 = bs l ∧ y2 = bs [] ∧ y3 = false := by simpa using hy
        exact ⟨by rw [bs_size]; exact hs, by decide⟩
      | some i =>
        rw [hf] at hy
        obtain ⟨rfl, rfl, rfl⟩ : y1 = bs (l.take i) ∧ y2 = bs (l.drop (i + 1)) ∧ y3 = true := by simpa using hy
        exact ⟨by rw [bs_size, List.length_take]; omega, by rw [bs_size, List.length_drop]; omega⟩
    obtain ⟨o1, o2, o3, _, _, n3, e⟩ := implPM (bs l) (bs l) (bs []) y1 y2 false y3 _ (by rw [c58]; exact h1) (by rw [c120]; exact h2) hsp hz.1 hz.2 (by decide) (by decide) (by decide)
    have eo : outM false y3 o1 o2 o3 (rdOf ByteArray.empty ((sp 32 []).map bs) 0) = (0, 0, [], 6) := by unfold outM; rw [if_neg (by simp)]
    rw [eo] at e
    exact ⟨_, err0 _ _ fx fc (by
      have : fiI 120 l < 0 ∨ 0 ≤ fiI 120 l := by omega
      omega), e, Nat.zero_le _⟩
  | some q =>
    have hqlt := fi_lt _ _ _ hq
    have ec : fiI 58 l = (q : Int) := by unfold fiI; rw [hq]
    rw [ec] at fc
    rw [hq] at h1
    simp only at h1
    have h2 := cut_fi 120 (l.take q) (by rw [List.length_take]; omega)
    have hsp := split_fi (l.drop (q + 1)) (by rw [List.length_drop]; omega)
    obtain ⟨W, hW⟩ : ∃ W, W = (sp 32 (l.drop (q + 1))).map bs := ⟨_, rfl⟩
    rw [← hW] at hsp
    have hsplen := sp_len 32 (l.drop (q + 1))
    rw [List.length_drop] at hsplen
    have hWl : W.length ≤ 1048577 := by rw [hW, List.length_map]; omega
    have hW1 : 1 ≤ W.length := by
      obtain ⟨a, t, e⟩ := sp_ne 32 (l.drop (q + 1))
      rw [hW, e]
      simp
    have hWs : ∀ x ∈ W, x.size ≤ 1048576 := fun x hx => by
      rw [hW, ← implSplit 32 _ _ (Nat.le_refl _)] at hx
      have := split_sizes _ _ _ x hx
      rw [bs_size, List.length_drop] at this
      omega
    have hft := fi_take 120 l q
    by_cases hgood : ∃ p, fi 120 l = some p ∧ p < q
    · obtain ⟨p, hp, hpq⟩ := hgood
      rw [hp] at hft
      simp only at hft
      rw [if_pos hpq] at hft
      rw [hft] at h2
      simp only at h2
      have et : (l.take q).take p = l.take p := by rw [List.take_take, Nat.min_eq_left (by omega)]
      rw [et] at h2
      obtain ⟨o1, o2, o3, n1, n2, n3, e⟩ := implPM (bs l) (bs (l.take q)) (bs (l.drop (q + 1))) _ _ true true W (by rw [c58]; exact h1) (by rw [c120]; exact h2) hsp (by rw [bs_size, List.length_take]; omega) (by rw [bs_size, List.length_drop, List.length_take]; omega) hW1 hWl hWs
      obtain ⟨a1, a2, a3, m1, m2, m3, e'⟩ := specPM l hs p q hp hq hpq W hW
      rw [numR_fun m1 n1, numR_fun m2 n2, numsR_fun m3 n3] at e'
      exact ⟨_, e', e, outM_len _ _ _ _ _ _ W hWl n3⟩
    · have hn : fi 120 (l.take q) = none := by
        rw [hft]
        cases hf : fi 120 l with
        | none => rfl
        | some p =>
          simp only
          rw [if_neg (fun h => hgood ⟨p, hf, h⟩)]
      rw [hn] at h2
      simp only at h2
      obtain ⟨o1, o2, o3, _, _, n3, e⟩ := implPM (bs l) (bs (l.take q)) (bs (l.drop (q + 1))) _ _ true false W (by rw [c58]; exact h1) (by rw [c120]; exact h2) hsp (by rw [bs_size, List.length_take]; omega) (by decide) hW1 hWl hWs
      have eo : outM true false o1 o2 o3 (rdOf ByteArray.empty W 0) = (0, 0, [], 6) := by unfold outM; rw [if_neg (by simp)]
      rw [eo] at e
      refine ⟨_, err0 _ _ fx fc ?_, e, Nat.zero_le _⟩
      unfold fiI
      cases hf : fi 120 l with
      | none => exact .inl (by decide)
      | some p =>
        right
        simp only
        have hne : p ≠ q := fun e => by
          have k1 := fi_at 120 l p hf
          have k2 := fi_at 58 l q hq
          rw [e] at k1
          rw [k1] at k2
          exact absurd (Option.some.inj k2) (by decide)
        have : ¬ p < q := fun h => hgood ⟨p, hf, h⟩
        omega

theorem FnExactParseMatrix : laws_FnExactParseMatrix.PureD := by
  intro s _
  by_cases h : (s.size : Int) > 1048576
  · refine ⟨0, ?_⟩
    unfold laws_FnExactParseMatrix.f
    rw [if_pos h]
  · obtain ⟨⟨r1, r2, r3, r4⟩, ⟨k1, h1⟩, ⟨k2, h2⟩, hr⟩ := parse_both s (by omega)
    simp only at hr
    obtain ⟨K, hK⟩ : ∃ K : Nat, K = k1 + k2 + 1048600 := ⟨_, rfl⟩
    have g1 := h1 (K + 2) (by omega)
    have g2 := h2 (K + 2) (by omega)
    have g3 := h2 (K + 1) (by omega)
    simp only at g1 g2 g3
    refine ⟨K + 2, ?_⟩
    have hb : (r4 != r4) = false := bne_eq_false_iff_eq.2 rfl
    have n0 : ¬ (1 + (r3.length : Int)) < 0 := by omega
    unfold laws_FnExactParseMatrix.f
    rw [if_neg h, g1, Option.bind_some, g2, Option.bind_some]
    simp only
    rw [eqMatrix_self r1 r2 r3 (K + 2) (by omega) (by omega), Option.bind_some, if_pos rfl, hb, laws_FnExactParseMatrix.j0, if_neg (by simp), markMatrix_eq r1 r2 r3 1 (K + 1) hr (by omega) (by omega) (by omega), Option.bind_some]
    simp only
    rw [heldMatrix_marks r1 r2 1 r3.length (K + 1) (by omega) (by omega) (by omega) (by omega), Option.bind_some, if_neg n0, if_pos rfl, g3, Option.bind_some]
    simp only
    rw [eqMatrix_self r1 r2 r3 (K + 1) (by omega) (by omega), Option.bind_some, if_pos rfl, hb, laws_FnExactParseMatrix.j1, if_neg (by simp), heldMatrix_marks r1 r2 1 r3.length K (by omega) (by omega) (by omega) (by omega), Option.bind_some, if_neg n0, if_pos rfl]

end Go.Proofs.YtgnbcbcjafkpcaaDoor.Pure
