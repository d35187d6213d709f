/- The permutations are a group, their signs multiply, and each is recovered from its images. No condition: for every input that the statement lets in. -/
import Derived.Test.YtmffjekpnibnfaaPFnPermGroupx4
namespace Go.Proofs.Ytmffjekpnibnfaa.Pure
open Go.RowKit Go.Proofs.Ytmffjekpnibnfaa.PFnPermGroup Go.Proofs.YtmffjekpnibnfaaW.PrintWords Go.Proofs.YtmffjekpnibnfaaW.PrintLast

set_option linter.unusedSimpArgs false
set_option linter.unusedVariables false
theorem w64 (x : Int) (h0 : -9223372036854775808 ≤ x) (h1 : x ≤ 9223372036854775807) : wrap64 x = x := by
  unfold wrap64
  omega
theorem w64n (n : Nat) (h : n ≤ 9223372036854775807) : wrap64 (n : Int) = (n : Int) := w64 _ (by omega) (by omega)
theorem rd_nat (l : List Int) (i : Nat) (h : i < l.length) : rd l (i : Int) = l[i] := by
  simp [rd, List.getD, List.getElem?_eq_getElem h]
theorem succ_k {k n : Nat} (h : n < k) : ∃ m, k = m + 1 := ⟨k - 1, by omega⟩
theorem cast_succ (i : Nat) : ((i : Int) + 1) = ((i + 1 : Nat) : Int) := by omega
theorem drop_rd (l : List Int) (k : Nat) (h : k < l.length) : l.drop k = rd l (k : Int) :: l.drop (k + 1) := by
  rw [List.drop_eq_getElem_cons h, rd_nat l k h]


theorem wrap_u64_range (x : Int) : 0 ≤ IntKind.u64.wrap x ∧ IntKind.u64.wrap x < 18446744073709551616 := by
  have : IntKind.u64.wrap x = x % 18446744073709551616 := by simp [IntKind.wrap, IntKind.bits, IntKind.signed]
  rw [this]
  omega
theorem and24 (x : Int) (h0 : 0 ≤ x) (h1 : x < 18446744073709551616) : 0 ≤ Go.bits .and .u64 x 16777215 ∧ Go.bits .and .u64 x 16777215 ≤ 16777215 := by
  have h := Go.bits_mask .u64 64 (by decide) (fun n a b => by
    have : IntKind.u64.wrap n = n % 18446744073709551616 := by simp [IntKind.wrap, IntKind.bits, IntKind.signed]
    rw [this]
    omega) 24 (by decide) x h0 (by omega)
  rw [show ((2 : Int) ^ 24 - 1) = 16777215 from rfl, show ((2 : Int) ^ 24) = 16777216 from rfl] at h
  rw [h]
  omega
theorem byte_of (x : Int) (h : (Lit.int .u8 x).wf = true) : 0 ≤ x ∧ x ≤ 255 := by
  simpa [Lit.wf, IntKind.min, IntKind.max, IntKind.signed, IntKind.bits] using h
theorem byte_at (b : List Int) (hb : ∀ x ∈ b, (Lit.int .u8 x).wf = true) (i : Nat) (hi : i < b.length) : 0 ≤ rd b i ∧ rd b i ≤ 255 := by
  refine byte_of _ (hb _ ?_)
  rw [rd_nat b i hi]
  exact List.getElem_mem hi
theorem below_ok (b : List Int) (i h n : Int) (hb : ∀ x ∈ b, (Lit.int .u8 x).wf = true) (hl : b.length ≤ 4096) (hi : 0 ≤ i) (hn : 0 < n) (hn2 : n ≤ 1000000000) :
    ∃ (r : Nat) (i' h' : Int), laws_dice_below.f b i h n = some ((r : Int), i', h') ∧ (r : Int) < n ∧ 0 ≤ i' := by
  unfold laws_dice_below.f
  have hg := wrap_u64_range ((IntKind.u64.wrap (h * 6364136223846793005)) + 1442695040888963407)
  generalize IntKind.u64.wrap ((IntKind.u64.wrap (h * 6364136223846793005)) + 1442695040888963407) = g at hg ⊢
  have ha := and24 (g / 8589934592) (by omega) (by omega)
  generalize Go.bits .and .u64 (g / 8589934592) 16777215 = y at ha ⊢
  have wy := w64 y (by omega) (by omega)
  have hn0 : ¬ n = 0 := by omega
  rw [wy, if_neg hn0, if_neg hn0]
  by_cases c : i < (b.length : Int)
  · rw [if_pos c, if_pos hi]
    obtain ⟨j, rfl⟩ : ∃ j : Nat, i = j := ⟨i.toNat, by omega⟩
    have hx := byte_at b hb j (by omega)
    generalize rd b (j : Int) = x at hx ⊢
    have wx := w64 x (by omega) (by omega)
    have ws := w64 (y + x) (by omega) (by omega)
    have wj := w64 ((j : Int) + 1) (by omega) (by omega)
    rw [wx, ws, wj]
    have t0 := Int.tmod_nonneg n (show 0 ≤ y + x by omega)
    have t1 := Int.tmod_lt_of_pos (y + x) hn
    refine ⟨((y + x).tmod n).toNat, (j : Int) + 1, g, ?_, by omega, by omega⟩
    rw [Int.toNat_of_nonneg t0]
  · rw [if_neg c]
    have t0 := Int.tmod_nonneg n (show 0 ≤ y by omega)
    have t1 := Int.tmod_lt_of_pos y hn
    refine ⟨(y.tmod n).toNat, i, g, ?_, by omega, hi⟩
    rw [Int.toNat_of_nonneg t0]
theorem roll_l0 (b : List Int) (hl : b.length ≤ 4096) : ∀ (d i k : Nat) (h : Int), i + d = b.length → d < k → ∃ h', laws_roll.l0 k b (i : Int) b 0 h = some (b, 0, h') := by
  intro d
  induction d with
  | zero =>
    intro i k h hi hk
    obtain ⟨k, rfl⟩ := succ_k hk
    simp only [laws_roll.l0]
    rw [if_neg (by omega)]
    exact ⟨_, rfl⟩
  | succ d ih =>
    intro i k h hi hk
    obtain ⟨k, rfl⟩ := succ_k hk
    simp only [laws_roll.l0]
    rw [if_pos (by omega), if_pos (by omega), w64 ((i : Int) + 1) (by omega) (by omega), cast_succ]
    exact ih (i + 1) k _ (by omega) (by omega)
theorem roll_ok (b : List Int) (a : Int) (k : Nat) (hl : b.length ≤ 4096) (hk : b.length < k) : ∃ h, laws_roll.f k b a = some (b, 0, h) :=
  roll_l0 b hl b.length 0 k _ (by omega) hk

def cT (p q : Nat) : Nat := (ixOut (cmL (permL p) (permL q) 4) 4).toNat
def cmChk (p q : Nat) : Bool := decide (impl_ComposePerm4.f (p : Int) (q : Int) = some (cT p q : Int)) && (decide (cT p q < 24) && decide (permL (cT p q) = cmL (permL p) (permL q) 4))
theorem cm_chk : ((List.range 24).all fun p => (List.range 24).all fun q => cmChk p q) = true := by decide +kernel
theorem cm_at (p q : Nat) (hp : p < 24) (hq : q < 24) : impl_ComposePerm4.f (p : Int) (q : Int) = some (cT p q : Int) ∧ cT p q < 24 ∧ permL (cT p q) = cmL (permL p) (permL q) 4 := by
  have h1 := List.all_eq_true.1 cm_chk p (List.mem_range.2 hp)
  have h2 := List.all_eq_true.1 h1 q (List.mem_range.2 hq)
  unfold cmChk at h2
  simp only [Bool.and_eq_true, decide_eq_true_eq] at h2
  exact h2
theorem permL_inj : ∀ p, p < 24 → ixOut (permL p) 4 = (p : Int) := by decide +kernel
theorem cmL_at (a b : List Int) : cmL a b 4 = [rd b (rd a 0), rd b (rd a 1), rd b (rd a 2), rd b (rd a 3)] := rfl
theorem assoc_at (p q r : Nat) (hp : p < 24) (hq : q < 24) (hr : r < 24) : cT (cT p q) r = cT p (cT q r) := by
  obtain ⟨_, h1, e1⟩ := cm_at p q hp hq
  obtain ⟨_, h2, e2⟩ := cm_at q r hq hr
  obtain ⟨_, h3, e3⟩ := cm_at (cT p q) r h1 hr
  obtain ⟨_, h4, e4⟩ := cm_at p (cT q r) hp h2
  have hx : permL (cT (cT p q) r) = permL (cT p (cT q r)) := by
    rw [e3, e4, e1, e2]
    have hb : ∀ i, i < 4 → ∃ j : Nat, j < 4 ∧ rd (permL p) (i : Nat) = (j : Int) := fun i hi => by
      have := rd_perm p hp i hi
      exact ⟨(rd (permL p) i).toNat, by omega, by omega⟩
    have hc : ∀ j, j < 4 → rd (cmL (permL q) (permL r) 4) ((j : Nat) : Int) = rd (permL r) (rd (permL q) (j : Int)) := fun j hj => by
      rw [cmL_at]
      match j, hj with
      | 0, _ => rfl
      | 1, _ => rfl
      | 2, _ => rfl
      | 3, _ => rfl
    rw [cmL_at (cmL (permL p) (permL q) 4) (permL r), cmL_at (permL p) (cmL (permL q) (permL r) 4), cmL_at (permL p) (permL q)]
    obtain ⟨j0, a0, b0⟩ := hb 0 (by omega)
    obtain ⟨j1, a1, b1⟩ := hb 1 (by omega)
    obtain ⟨j2, a2, b2⟩ := hb 2 (by omega)
    obtain ⟨j3, a3, b3⟩ := hb 3 (by omega)
    rw [show (((0 : Nat) : Int)) = 0 from rfl] at b0
    rw [show (((1 : Nat) : Int)) = 1 from rfl] at b1
    rw [show (((2 : Nat) : Int)) = 2 from rfl] at b2
    rw [show (((3 : Nat) : Int)) = 3 from rfl] at b3
    rw [b0, b1, b2, b3, hc j0 a0, hc j1 a1, hc j2 a2, hc j3 a3]
    rfl
  have e := (permL_inj _ h3).symm.trans ((by rw [hx] : ixOut (permL (cT (cT p q) r)) 4 = ixOut (permL (cT p (cT q r))) 4).trans (permL_inj _ h4))
  omega
def invChk (p : Nat) : Bool := match impl_InvertPerm4.f (p : Int) with
  | some t => decide (impl_ComposePerm4.f (p : Int) t = some 0) && decide (impl_ComposePerm4.f t (p : Int) = some 0)
  | none => false
theorem inv_chk : ((List.range 24).all fun p => invChk p) = true := by decide +kernel
theorem inv_at (p : Nat) (hp : p < 24) : ∃ t, impl_InvertPerm4.f (p : Int) = some t ∧ impl_ComposePerm4.f (p : Int) t = some 0 ∧ impl_ComposePerm4.f t (p : Int) = some 0 := by
  have h1 := List.all_eq_true.1 inv_chk p (List.mem_range.2 hp)
  unfold invChk at h1
  cases h : impl_InvertPerm4.f (p : Int) with
  | none => rw [h] at h1; exact absurd h1 (by simp)
  | some t =>
    rw [h] at h1
    simp only [Bool.and_eq_true, decide_eq_true_eq] at h1
    exact ⟨t, rfl, h1⟩
def sgChk (p q : Nat) : Bool := match impl_SignPerm4.f (cT p q : Int), impl_SignPerm4.f (p : Int), impl_SignPerm4.f (q : Int) with
  | some a, some b, some c => decide (a = wrap64 (b * c)) && (b != 0)
  | _, _, _ => false
theorem sg_chk : ((List.range 24).all fun p => (List.range 24).all fun q => sgChk p q) = true := by decide +kernel
theorem sg_at (p q : Nat) (hp : p < 24) (hq : q < 24) : ∃ a b c, impl_SignPerm4.f (cT p q : Int) = some a ∧ impl_SignPerm4.f (p : Int) = some b ∧ impl_SignPerm4.f (q : Int) = some c ∧ a = wrap64 (b * c) ∧ (b != 0) = true := by
  have h1 := List.all_eq_true.1 sg_chk p (List.mem_range.2 hp)
  have h2 := List.all_eq_true.1 h1 q (List.mem_range.2 hq)
  unfold sgChk at h2
  cases ha : impl_SignPerm4.f (cT p q : Int) with
  | none => rw [ha] at h2; exact absurd h2 (by simp)
  | some a =>
    cases hb : impl_SignPerm4.f (p : Int) with
    | none => rw [ha, hb] at h2; exact absurd h2 (by simp)
    | some b =>
      cases hc : impl_SignPerm4.f (q : Int) with
      | none => rw [ha, hb, hc] at h2; exact absurd h2 (by simp)
      | some c =>
        rw [ha, hb, hc] at h2
        simp only [Bool.and_eq_true, decide_eq_true_eq] at h2
        exact ⟨a, b, c, rfl, rfl, rfl, h2.1, h2.2⟩
def jChk (p r : Nat) : Bool := decide (laws_FnPermGroup.j1 60 (p : Int) (r : Int) true true true = some true)
theorem j_chk : ((List.range 24).all fun p => (List.range 24).all fun r => jChk p r) = true := by decide +kernel
theorem j_at (p r : Nat) (hp : p < 24) (hr : r < 24) : laws_FnPermGroup.j1 60 (p : Int) (r : Int) true true true = some true := by
  have h1 := List.all_eq_true.1 j_chk p (List.mem_range.2 hp)
  have h2 := List.all_eq_true.1 h1 r (List.mem_range.2 hr)
  unfold jChk at h2
  exact of_decide_eq_true h2
theorem FnPermGroup : laws_FnPermGroup.Pure := by
  intro b _ _ hb
  obtain ⟨K, hK⟩ : ∃ K : Nat, K = b.length + 100 := ⟨_, rfl⟩
  refine ⟨K + 1, ?_⟩
  unfold laws_FnPermGroup.f laws_big.f
  by_cases h : (b.length : Int) > 4096
  · rw [decide_eq_true h]
    rfl
  · have hl : b.length ≤ 4096 := by omega
    rw [decide_eq_false h, Option.bind_some, if_neg (by simp)]
    obtain ⟨g, hg⟩ := roll_ok b 501 (K + 1) hl (by omega)
    rw [hg, Option.bind_some]
    obtain ⟨p, i1, h1, e1, hp, hi1⟩ := below_ok b 0 g 24 hb hl (by omega) (by omega) (by omega)
    obtain ⟨q, i2, h2, e2, hq, hi2⟩ := below_ok b i1 h1 24 hb hl hi1 (by omega) (by omega)
    obtain ⟨r, i3, h3, e3, hr, hi3⟩ := below_ok b i2 h2 24 hb hl hi2 (by omega) (by omega)
    have hp' : p < 24 := by omega
    have hq' : q < 24 := by omega
    have hr' : r < 24 := by omega
    obtain ⟨c1, l1, _⟩ := cm_at p q hp' hq'
    obtain ⟨c2, l2, _⟩ := cm_at (cT p q) r l1 hr'
    obtain ⟨c3, l3, _⟩ := cm_at q r hq' hr'
    obtain ⟨c4, l4, _⟩ := cm_at p (cT q r) hp' l3
    obtain ⟨t, v1, v2, v3⟩ := inv_at p hp'
    obtain ⟨sa, sb, sc, s1, s2, s3, s4, s5⟩ := sg_at p q hp' hq'
    have ha := assoc_at p q r hp' hq' hr'
    simp only [e1, e2, e3, c1, c2, c3, c4, v1, v2, v3, Option.bind_some, if_true]
    rw [ha, beq_self_eq_true, show ((0 : Int) == 0) = true from rfl]
    simp only [laws_FnPermGroup.j0]
    simp only [c1, s1, s2, s3, Option.bind_some]
    rw [if_pos s4, s5]
    exact at_rounds (g := fun k => laws_FnPermGroup.j1 k (p : Int) (r : Int) true true true) (fun k => by exact (laws_FnPermGroup.mono_l k).2.1 _ _ _ _ _) (show 60 ≤ K by omega) (j_at p r hp' hr')

end Go.Proofs.Ytmffjekpnibnfaa.Pure
