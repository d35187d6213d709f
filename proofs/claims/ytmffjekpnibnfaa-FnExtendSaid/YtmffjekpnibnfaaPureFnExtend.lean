/- An extended permutation has the wanted images and is the only one if three images are given. No condition: for every input that the statement lets in. -/
import Derived.Test.YtmffjekpnibnfaaPFnExtendx3
namespace Go.Proofs.Ytmffjekpnibnfaa.Pure
open Go.RowKit Go.Proofs.Ytmffjekpnibnfaa.PFnExtend Go.Proofs.YtmffjekpnibnfaaW.PrintWords Go.Proofs.YtmffjekpnibnfaaW.PrintLast

set_option linter.unusedSimpArgs false
set_option linter.unusedVariables false
theorem w64 (x : Int) (h0 : -9223372036854775808 ≤ x) (h1 : x ≤ 9223372036854775807) : wrap64 x = x := by
  unfold wrap64
  omega
theorem w64n (n : Nat) (h : n ≤ 9223372036854775807) : wrap64 (n : Int) = (n : Int) := w64 _ (by omega) (by omega)
theorem rd_nat (l : List Int) (i : Nat) (h : i < l.length) : rd l (i : Int) = l[i] := by
  simp [rd, List.getD, List.getElem?_eq_getElem h]
theorem succ_k {k n : Nat} (h : n < k) : ∃ m, k = m + 1 := ⟨k - 1, by omega⟩
theorem cast_succ (i : Nat) : ((i : Int) + 1) = ((i + 1 : Nat) : Int) := by omega
theorem drop_rd (l : List Int) (k : Nat) (h : k < l.length) : l.drop k = rd l (k : Int) :: l.drop (k + 1) := by
  rw [List.drop_eq_getElem_cons h, rd_nat l k h]


theorem wrap_u64_range (x : Int) : 0 ≤ IntKind.u64.wrap x ∧ IntKind.u64.wrap x < 18446744073709551616 := by
  have : IntKind.u64.wrap x = x % 18446744073709551616 := by simp [IntKind.wrap, IntKind.bits, IntKind.signed]
  rw [this]
  omega
theorem and24 (x : Int) (h0 : 0 ≤ x) (h1 : x < 18446744073709551616) : 0 ≤ Go.bits .and .u64 x 16777215 ∧ Go.bits .and .u64 x 16777215 ≤ 16777215 := by
  have h := Go.bits_mask .u64 64 (by decide) (fun n a b => by
    have : IntKind.u64.wrap n = n % 18446744073709551616 := by simp [IntKind.wrap, IntKind.bits, IntKind.signed]
    rw [this]
    omega) 24 (by decide) x h0 (by omega)
  rw [show ((2 : Int) ^ 24 - 1) = 16777215 from rfl, show ((2 : Int) ^ 24) = 16777216 from rfl] at h
  rw [h]
  omega
theorem byte_of (x : Int) (h : (Lit.int .u8 x).wf = true) : 0 ≤ x ∧ x ≤ 255 := by
  simpa [Lit.wf, IntKind.min, IntKind.max, IntKind.signed, IntKind.bits] using h
theorem byte_at (b : List Int) (hb : ∀ x ∈ b, (Lit.int .u8 x).wf = true) (i : Nat) (hi : i < b.length) : 0 ≤ rd b i ∧ rd b i ≤ 255 := by
  refine byte_of _ (hb _ ?_)
  rw [rd_nat b i hi]
  exact List.getElem_mem hi
theorem below_ok (b : List Int) (i h n : Int) (hb : ∀ x ∈ b, (Lit.int .u8 x).wf = true) (hl : b.length ≤ 4096) (hi : 0 ≤ i) (hn : 0 < n) (hn2 : n ≤ 1000000000) :
    ∃ (r : Nat) (i' h' : Int), laws_dice_below.f b i h n = some ((r : Int), i', h') ∧ (r : Int) < n ∧ 0 ≤ i' := by
  unfold laws_dice_below.f
  have hg := wrap_u64_range ((IntKind.u64.wrap (h * 6364136223846793005)) + 1442695040888963407)
  generalize IntKind.u64.wrap ((IntKind.u64.wrap (h * 6364136223846793005)) + 1442695040888963407) = g at hg ⊢
  have ha := and24 (g / 8589934592) (by omega) (by omega)
  generalize Go.bits .and .u64 (g / 8589934592) 16777215 = y at ha ⊢
  have wy := w64 y (by omega) (by omega)
  have hn0 : ¬ n = 0 := by omega
  rw [wy, if_neg hn0, if_neg hn0]
  by_cases c : i < (b.length : Int)
  · rw [if_pos c, if_pos hi]
    obtain ⟨j, rfl⟩ : ∃ j : Nat, i = j := ⟨i.toNat, by omega⟩
    have hx := byte_at b hb j (by omega)
    generalize rd b (j : Int) = x at hx ⊢
    have wx := w64 x (by omega) (by omega)
    have ws := w64 (y + x) (by omega) (by omega)
    have wj := w64 ((j : Int) + 1) (by omega) (by omega)
    rw [wx, ws, wj]
    have t0 := Int.tmod_nonneg n (show 0 ≤ y + x by omega)
    have t1 := Int.tmod_lt_of_pos (y + x) hn
    refine ⟨((y + x).tmod n).toNat, (j : Int) + 1, g, ?_, by omega, by omega⟩
    rw [Int.toNat_of_nonneg t0]
  · rw [if_neg c]
    have t0 := Int.tmod_nonneg n (show 0 ≤ y by omega)
    have t1 := Int.tmod_lt_of_pos y hn
    refine ⟨(y.tmod n).toNat, i, g, ?_, by omega, hi⟩
    rw [Int.toNat_of_nonneg t0]
theorem roll_l0 (b : List Int) (hl : b.length ≤ 4096) : ∀ (d i k : Nat) (h : Int), i + d = b.length → d < k → ∃ h', laws_roll.l0 k b (i : Int) b 0 h = some (b, 0, h') := by
  intro d
  induction d with
  | zero =>
    intro i k h hi hk
    obtain ⟨k, rfl⟩ := succ_k hk
    simp only [laws_roll.l0]
    rw [if_neg (by omega)]
    exact ⟨_, rfl⟩
  | succ d ih =>
    intro i k h hi hk
    obtain ⟨k, rfl⟩ := succ_k hk
    simp only [laws_roll.l0]
    rw [if_pos (by omega), if_pos (by omega), w64 ((i : Int) + 1) (by omega) (by omega), cast_succ]
    exact ih (i + 1) k _ (by omega) (by omega)
theorem roll_ok (b : List Int) (a : Int) (k : Nat) (hl : b.length ≤ 4096) (hk : b.length < k) : ∃ h, laws_roll.f k b a = some (b, 0, h) :=
  roll_l0 b hl b.length 0 k _ (by omega) hk

def swp (l : List Int) (i j : Nat) : List Int := (l.set i (rd l j)).set j (rd l i)
def ord4 (a b c : Nat) : List Int := swp (swp (swp [0, 1, 2, 3] 3 a) 2 b) 1 c
theorem order_step (b : List Int) (hb : ∀ x ∈ b, (Lit.int .u8 x).wf = true) (hl : b.length ≤ 4096) (l : List Int) (m : Nat) (hm : m + 1 < l.length) (hm2 : m ≤ 1000) (i h : Int) (hi : 0 ≤ i) (k : Nat) :
    ∃ (r : Nat) (i' h' : Int), r < m + 2 ∧ 0 ≤ i' ∧ laws_w5Order.l1 (k + 1) l ((m + 1 : Nat) : Int) b i h = laws_w5Order.l1 k (swp l (m + 1) r) (m : Int) b i' h' := by
  obtain ⟨r, i', h', e, h1, h2⟩ := below_ok b i h (((m + 1 : Nat) : Int) + 1) hb hl hi (by omega) (by omega)
  refine ⟨r, i', h', by omega, h2, ?_⟩
  simp only [laws_w5Order.l1]
  rw [if_pos (by omega), w64 (((m + 1 : Nat) : Int) + 1) (by omega) (by omega), e, Option.bind_some]
  rw [if_pos (by omega), if_pos (by omega), if_pos (by omega), if_pos (by omega), w64 (((m + 1 : Nat) : Int) - 1) (by omega) (by omega), show ((m + 1 : Nat) : Int) - 1 = (m : Int) by omega]
  rfl
theorem order4_ok (b : List Int) (hb : ∀ x ∈ b, (Lit.int .u8 x).wf = true) (hl : b.length ≤ 4096) (i h : Int) (hi : 0 ≤ i) (k : Nat) (hk : 10 ≤ k) :
    ∃ (x y z : Nat) (i' h' : Int), x < 4 ∧ y < 3 ∧ z < 2 ∧ 0 ≤ i' ∧ laws_w5Order.f k b i h 4 = some (ord4 x y z, i', h') := by
  obtain ⟨m, rfl⟩ : ∃ m, k = m + 4 + 5 := ⟨k - 9, by omega⟩
  have e0 : laws_w5Order.f (m + 4 + 5) b i h 4 = laws_w5Order.l1 (m + 4) [0, 1, 2, 3] ((2 + 1 : Nat) : Int) b i h := by
    unfold laws_w5Order.f
    simp [laws_w5Order.l0, wrap64]
  obtain ⟨x, i1, h1, hx, hi1, e1⟩ := order_step b hb hl [0, 1, 2, 3] 2 (by simp) (by omega) i h hi (m + 3)
  obtain ⟨y, i2, h2, hy, hi2, e2⟩ := order_step b hb hl (swp [0, 1, 2, 3] 3 x) 1 (by simp [swp]) (by omega) i1 h1 hi1 (m + 2)
  obtain ⟨z, i3, h3, hz, hi3, e3⟩ := order_step b hb hl (swp (swp [0, 1, 2, 3] 3 x) 2 y) 0 (by simp [swp]) (by omega) i2 h2 hi2 (m + 1)
  refine ⟨x, y, z, i3, h3, hx, hy, hz, hi3, ?_⟩
  rw [e0, e1]
  refine e2.trans (e3.trans ?_)
  simp only [laws_w5Order.l1]
  rw [if_neg (by omega)]
  rfl

def extChk (p x y z : Nat) : Bool := decide (laws_FnExtend.l0 60 (p : Int) ((ord4 x y z).take 3) [] 0 = some true)
theorem ext_chk : ((List.range 24).all fun p => (List.range 4).all fun x => (List.range 3).all fun y => (List.range 2).all fun z => extChk p x y z) = true := by decide +kernel
theorem ext_at (p x y z : Nat) (hp : p < 24) (hx : x < 4) (hy : y < 3) (hz : z < 2) : laws_FnExtend.l0 60 (p : Int) ((ord4 x y z).take 3) [] 0 = some true := by
  have h1 := List.all_eq_true.1 ext_chk p (List.mem_range.2 hp)
  have h2 := List.all_eq_true.1 h1 x (List.mem_range.2 hx)
  have h3 := List.all_eq_true.1 h2 y (List.mem_range.2 hy)
  have h4 := List.all_eq_true.1 h3 z (List.mem_range.2 hz)
  unfold extChk at h4
  exact of_decide_eq_true h4
theorem FnExtend : laws_FnExtend.Pure := by
  intro b _ _ hb
  refine ⟨b.length + 100, ?_⟩
  unfold laws_FnExtend.f laws_big.f
  by_cases h : (b.length : Int) > 4096
  · rw [decide_eq_true h]
    rfl
  · have hl : b.length ≤ 4096 := by omega
    rw [decide_eq_false h, Option.bind_some, if_neg (by simp)]
    obtain ⟨g, hg⟩ := roll_ok b 502 (b.length + 100) hl (by omega)
    rw [hg, Option.bind_some]
    obtain ⟨p, i1, h1, e1, hp, hi1⟩ := below_ok b 0 g 24 hb hl (by omega) (by omega) (by omega)
    obtain ⟨x, y, z, i2, h2, hx, hy, hz, hi2, e2⟩ := order4_ok b hb hl i1 h1 hi1 (b.length + 100) (by omega)
    rw [e1, Option.bind_some, e2, Option.bind_some]
    have hle : (ord4 x y z).length = 4 := by simp [ord4, swp]
    rw [if_pos (by show 3 ≤ ((ord4 x y z).length : Int); omega)]
    exact at_rounds (g := fun k => laws_FnExtend.l0 k (p : Int) ((ord4 x y z).take 3) [] 0) (fun k => laws_FnExtend.mono_l k _ _ _ _) (show 60 ≤ b.length + 100 by omega) (ext_at p x y z (by omega) hx hy hz)

end Go.Proofs.Ytmffjekpnibnfaa.Pure
