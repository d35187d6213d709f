/- Written by this session's program out of the kit's print and this session's contracts. -/
import Derived.Test.YtbcdngjajjgmkaaProg
import Derived.Below
import Derived.Deep.Draws
import Derived.Deep.AppendLies
import Derived.Maps.AppendAt
import Derived.OwnWalk
import Derived.Laws.BytesArg
import Derived.Laws.MakeOwn
import Derived.Laws.OwnMore
import Derived.Deep.OwnRows
import Derived.Tactics
import Derived.Lib.ConvBytes
import Derived.Laws.Slices
import Derived.WalkKit
import Derived.KernelRfl
import Derived.RowKit3
import Derived.Deep.LoopGhost
import Derived.Deep.QuietTactic
import Derived.BigQuiet
import Derived.WideLaws
import Derived.Deep.DeepCutAuto
import Derived.Deep.CutBlock
import Derived.Deep.RegionHeld3
import Derived.Laws.Rows
import Derived.Lib.AppendStr
import Derived.ArgAppend
import Derived.Laws.IdiomCopy
import Derived.OrdersHeld
import Derived.Laws.BitsLemmas
import Derived.RowKit
import Derived.Shelf.Abstract
import Derived.Lib.BufferMore
import Derived.Lib.SliceRun
import Derived.WalkSpells
import Derived.Lib.SlicesDelete
import Derived.Deep.RegionLaw
import Derived.Sort.WalkB12
import Derived.Lib.Walk
import Derived.Shelf.RegionOpenPlain
import Derived.Laws.EntriesVeiled
import Derived.RangeFuncBox
import Derived.RangeFuncLeaves
import Derived.RangeFuncWrites
import Derived.OwnWalkIn
import Derived.TacticsInMore
import Derived.LoopNIn
import Derived.LoopIn
import Derived.Maps.AppendAt
import Derived.Test.YtbcdngjajjgmkaaVFnExactSimplifyPresentationWWords
import Derived.Test.YtbcdngjajjgmkaaVFnExactSimplifyPresentationWLast
import Derived.Test.YtbcdngjajjgmkaaVFnExactSimplifyPresentationWTab
import Derived.Test.YtbcdngjajjgmkaaVFnExactSimplifyPresentationWFour
import Derived.Test.YtbcdngjajjgmkaaVFnExactSimplifyPresentationWQPut
import Derived.Test.YtbcdngjajjgmkaaVFnExactSimplifyPresentationWApart
import Derived.Test.YtbcdngjajjgmkaaVFnExactSimplifyPresentationWArr
import Derived.Test.YtbcdngjajjgmkaaVFnExactSimplifyPresentationWZeros
import Derived.Test.YtbcdngjajjgmkaaVFnExactSimplifyPresentationWFoot
import Derived.Test.YtbcdngjajjgmkaaVFnExactSimplifyPresentationWKept
import Derived.Test.YtbcdngjajjgmkaaVFnExactSimplifyPresentationWShare
import Derived.Test.YtbcdngjajjgmkaaVFnExactSimplifyPresentationWN
import Derived.Test.YtbcdngjajjgmkaaVFnExactSimplifyPresentationWFootNe
import Derived.Test.YtbcdngjajjgmkaaVFnExactSimplifyPresentationWAt
import Derived.Test.YtbcdngjajjgmkaaVFnExactSimplifyPresentationWEqStruct
import Derived.Test.YtbcdngjajjgmkaaVFnExactSimplifyPresentationWRepsOne
import Derived.Test.YtbcdngjajjgmkaaVFnExactSimplifyPresentationWInv
import Derived.Test.YtbcdngjajjgmkaaVFnExactSimplifyPresentationWInvWords
import Derived.Test.YtbcdngjajjgmkaaVFnExactSimplifyPresentationWGuard
import Derived.Test.YtbcdngjajjgmkaaVFnExactSimplifyPresentationWNEv
import Derived.Test.YtbcdngjajjgmkaaVFnExactSimplifyPresentationWMore
namespace Go.Proofs.Ytbcdngjajjgmkaa.PFnExactSimplifyPresentation
open Go.RowKit Go.Proofs.YtbcdngjajjgmkaaW.PrintWords Go.Proofs.YtbcdngjajjgmkaaW.PrintLast Go.Proofs.YtbcdngjajjgmkaaW.PrintMore
set_option linter.unusedVariables false
set_option linter.unusedSimpArgs false

def errW : Option Int → Value
 | none => .nilIface
 | some c => .iface 0 (.int .i64 c)
theorem errW_none : errW none = .nilIface := rfl
theorem errW_some (c : Int) : errW (some c) = .iface 0 (.int .i64 c) := rfl

theorem info2 : (Try.prog.info? 2).map (fun i => (i.zero, i.size, i.bytes)) = some (some (.int .i64 0), 1, 8) := by kernel_rfl
theorem info39 : (Try.prog.info? 39).map (fun i => (i.zero, i.size, i.bytes)) = some (some (.slice none 0 0), 1, 24) := by kernel_rfl
theorem info44 : (Try.prog.info? 44).map (fun i => (i.zero, i.size, i.bytes)) = some (some (.agg #[(.int .i64 0), (.int .i64 0), (.int .i64 0), (.slice none 0 0)]), 4, 48) := by kernel_rfl
-- the values' own types
def rd_L1 (xs : List (List Int)) (i : Int) : (List Int) := xs.getD i.toNat ([] : List Int)
theorem at_L1 {w : World} {A : Option Addr} {n : Nat} {xs : List (List Int)} (h : Kd.C (Kd.slice 2 (Kd.int .i64)) w A n xs) (i : Int) (h0 : 0 ≤ i) (h1 : i < n) : ∃ ad A0 c0, A = some ad ∧ w.cell? (ad.add i.toNat) = some (.slice A0 (rd_L1 xs i).length c0) ∧ (rd_L1 xs i).length ≤ c0 ∧ (Kd.int .i64).C w A0 (rd_L1 xs i).length (rd_L1 xs i) := by
 obtain ⟨ad, c, e, _, hK, hc0⟩ := Kd.C_get h ([] : List Int) i h0 h1
 have hc : ∀ j u, c[j]? = some u → w.cell? (ad.add (i.toNat * 1 + j)) = some u := hc0
 obtain ⟨A0, c0, rfl, l0, g0⟩ := hK
 exact ⟨ad, A0, c0, e, by have hq := hc 0 _ rfl; rwa [Nat.mul_one, Nat.add_zero] at hq, l0, g0⟩

/-! #### struct type 28 -/
structure S28 where
 f0 : Int
 f1 : (List (List Int))
/-! #### struct type 44 -/
structure S44 where
 f0 : Int
 f1 : Int
 f2 : Int
 f3 : (List Int)
def z44 : S44 := ⟨(0 : Int), (0 : Int), (0 : Int), ([] : List Int)⟩
def k44 : Kd S44 := Kd.iso (Kd.pair (Kd.int .i64) (Kd.pair (Kd.int .i64) (Kd.pair (Kd.int .i64) (Kd.slice 2 (Kd.int .i64))))) (fun x : S44 => (x.f0, x.f1, x.f2, x.f3))
theorem k44_open {w : World} {x : S44} {cs : List Value} (h : k44.K w x cs) : ∃ A3 c3, cs = [.int .i64 x.f0, .int .i64 x.f1, .int .i64 x.f2, .slice A3 x.f3.length c3] ∧ x.f3.length ≤ c3 ∧ (Kd.int .i64).C w A3 x.f3.length x.f3 := by
 obtain ⟨_, _, rfl, rfl, ⟨_, _, rfl, rfl, ⟨_, _, rfl, rfl, ⟨A3, c3, rfl, l3, g3⟩⟩⟩⟩ := h
 exact ⟨A3, c3, rfl, l3, g3⟩
theorem k44_mk (w : World) (x : S44) {A3 : Option Addr} {c3 : Nat} (l3 : x.f3.length ≤ c3) (g3 : (Kd.int .i64).C w A3 x.f3.length x.f3) : k44.K w x [.int .i64 x.f0, .int .i64 x.f1, .int .i64 x.f2, .slice A3 x.f3.length c3] := ⟨[.int .i64 x.f0], [.int .i64 x.f1, .int .i64 x.f2, .slice A3 x.f3.length c3], rfl, rfl, ⟨[.int .i64 x.f1], [.int .i64 x.f2, .slice A3 x.f3.length c3], rfl, rfl, ⟨[.int .i64 x.f2], [.slice A3 x.f3.length c3], rfl, rfl, ⟨A3, c3, rfl, l3, g3⟩⟩⟩⟩
def rd_T44 (xs : List S44) (i : Int) : S44 := xs.getD i.toNat z44
theorem at_T44 {w : World} {A : Option Addr} {n : Nat} {xs : List S44} (h : Kd.C k44 w A n xs) (i : Int) (h0 : 0 ≤ i) (h1 : i < n) : ∃ ad A3 c3, A = some ad ∧ w.cell? (ad.add (i.toNat * 4)) = some (.int .i64 (rd_T44 xs i).f0) ∧ w.cell? ⟨(ad.add (i.toNat * 4)).block, (ad.add (i.toNat * 4)).off + 1, none⟩ = some (.int .i64 (rd_T44 xs i).f1) ∧ w.cell? ⟨(ad.add (i.toNat * 4)).block, (ad.add (i.toNat * 4)).off + 2, none⟩ = some (.int .i64 (rd_T44 xs i).f2) ∧ w.cell? ⟨(ad.add (i.toNat * 4)).block, (ad.add (i.toNat * 4)).off + 3, none⟩ = some (.slice A3 (rd_T44 xs i).f3.length c3) ∧ (rd_T44 xs i).f3.length ≤ c3 ∧ (Kd.int .i64).C w A3 (rd_T44 xs i).f3.length (rd_T44 xs i).f3 := by
 obtain ⟨ad, c, e, _, hK, hc0⟩ := Kd.C_get h z44 i h0 h1
 have hc : ∀ j u, c[j]? = some u → w.cell? (ad.add (i.toNat * 4 + j)) = some u := hc0
 obtain ⟨A3, c3, rfl, l3, g3⟩ := k44_open hK
 exact ⟨ad, A3, c3, e, hc 0 _ rfl, by rw [← add_field _ _ 1 (by omega)]; exact hc 1 _ rfl, by rw [← add_field _ _ 2 (by omega)]; exact hc 2 _ rfl, by rw [← add_field _ _ 3 (by omega)]; exact hc 3 _ rfl, l3, g3⟩

/-! #### struct type 24 -/
structure S24 where
 f0 : Int
 f1 : (List (List Int))
theorem am_ {P : Prop} (h : P) : Aside0 P := ⟨h⟩
theorem bk_ {P Q : Prop} (h : Q) (t : Q → P := by intro h; repeat (first | (with_reducible first | exact h | refine blk_drewN ?_ _ | refine blk_drew ?_ | refine blk_alloc ?_ _) | refine blk_far ?_ (Aside0.out (by assumption)) _ | exact h)) : P := t h
theorem rk_ {P Q : Prop} (h : Q) (t : Q → P := by intro h; (with_reducible repeat (first | apply Kd.R_alloc | apply Kd.R_drewN | apply Kd.R_drew)); exact h) : P := t h
theorem bb_ {P Q : Prop} (h : Q) (t : Q → P := by intro h; repeat (first | (with_reducible first | exact h | apply below_alloc | apply pw_below_drewN | apply below_drew1 | refine below_set ?_ (Aside0.out (by assumption))) | exact h)) : P := t h
theorem bw_ {w0 w1 w2 : World} {g : Nat} {o : Obj} (H : Aside0 (w0.heap[g]? = some o)) (hb : Below w1.heap.size w1 w2) (t : w0.heap[g]? = some o → w1.heap[g]? = some o := by intro h; repeat (first | (with_reducible first | exact h | refine blk_drewN ?_ _ | refine blk_drew ?_ | refine blk_alloc ?_ _) | refine blk_far ?_ (Aside0.out (by assumption)) _ | exact h)) : w2.heap[g]? = some o := blk_below (g := g) (o := o) (t H.out) hb
theorem bc_ {w : World} {g : Nat} {ty : TypeId} {cs : Array Value} (H : Aside0 (w.heap[g]? = some (.cells cs ty (0, 0)))) (i : Nat) {v : Option Value} (e : cs[i]? = v := by rfl) : w.cell? ⟨g, i, none⟩ = v := (blk_cell H.out i).trans e
theorem rm_ {α : Type} {d : Kd α} {e : Nat} {w0 w1 : World} {base : Nat} {ok ok' : Nat → Prop} {v : Value} {xs : List α} (h : d.R e w0 base ok v xs) (f : ∀ k, ok k → ok' k) (t : d.R e w0 base ok' v xs → d.R e w1 base ok' v xs := by intro h; (with_reducible repeat (first | apply Kd.R_alloc | apply Kd.R_drewN | apply Kd.R_drew)); exact h) : d.R e w1 base ok' v xs := t (Kd.R_mono h f)
theorem lm_ {P : Prop} (t : P := by (try simp only [List.map_toArray, List.map_cons, List.map_nil]); first | done | rfl | (simp only [List.length_drop, List.length_take]; rfl)) : P := t
theorem nl_ {w0 w1 : World} {g g' : Nat} {o : Obj} (H : Aside0 (w0.heap[g]? = some o)) (hg : g' = w1.heap.size) (t : w0.heap[g]? = some o → w1.heap[g]? = some o := by intro h; repeat (first | (with_reducible first | exact h | refine blk_drewN ?_ _ | refine blk_drew ?_ | refine blk_alloc ?_ _) | refine blk_far ?_ (Aside0.out (by assumption)) _ | exact h)) : g ≠ g' := by rw [hg]; exact Nat.ne_of_lt (blk_lt (g := g) (o := o) (t H.out))
theorem ng_ {w0 w1 : World} {g g' : Nat} {o : Obj} (H : Aside0 (w0.heap[g]? = some o)) (hg : g' = w1.heap.size) (t : w0.heap[g]? = some o → w1.heap[g]? = some o := by intro h; repeat (first | (with_reducible first | exact h | refine blk_drewN ?_ _ | refine blk_drew ?_ | refine blk_alloc ?_ _) | refine blk_far ?_ (Aside0.out (by assumption)) _ | exact h)) : g' ≠ g := by rw [hg]; exact Nat.ne_of_gt (blk_lt (g := g) (o := o) (t H.out))
theorem bx2_ {w : World} {g : Nat} {ty : TypeId} {v0 v1 : Value} (H : Aside0 (w.heap[g]? = some (.cells #[v0, v1] ty (0, 0)))) : w.cell? ⟨g, 0, none⟩ = some v0 ∧ w.cell? ⟨g, 1, none⟩ = some v1 ∧ w.frozen? ⟨g, 0, none⟩ = false ∧ w.frozen? ⟨g, 1, none⟩ = false := ⟨bc_ H 0, bc_ H 1, blk_frozen H.out 0, blk_frozen H.out 1⟩
theorem bx4_ {w : World} {g : Nat} {ty : TypeId} {v0 v1 v2 v3 : Value} (H : Aside0 (w.heap[g]? = some (.cells #[v0, v1, v2, v3] ty (0, 0)))) : w.cell? ⟨g, 0, none⟩ = some v0 ∧ w.cell? ⟨g, 1, none⟩ = some v1 ∧ w.cell? ⟨g, 2, none⟩ = some v2 ∧ w.cell? ⟨g, 3, none⟩ = some v3 ∧ w.frozen? ⟨g, 0, none⟩ = false ∧ w.frozen? ⟨g, 1, none⟩ = false ∧ w.frozen? ⟨g, 2, none⟩ = false ∧ w.frozen? ⟨g, 3, none⟩ = false := ⟨bc_ H 0, bc_ H 1, bc_ H 2, bc_ H 3, blk_frozen H.out 0, blk_frozen H.out 1, blk_frozen H.out 2, blk_frozen H.out 3⟩
theorem len_ {α : Type} {K : α → List Value → Prop} {sz : Nat} {w : World} {A : Option Addr} {n : Nat} {xs : List α} (h : ReadsRow K sz w A xs.length xs) (e : xs.length = n) : ReadsRow K sz w A n xs := e ▸ h
def bL_ : Nat → Nat → List Bool
 | 0, _ => []
 | n + 1, m => (m % 2 == 1) :: bL_ n (m / 2)
def bA_ (n m : Nat) : Array Bool := (bL_ n m).toArray
theorem pz_ {P : Program} {ops : Array Oper} {Q : Exit → Act → World → Prop} {md : Region.Mode} {S : World → Prop} {ds : List Nat} {T : Bool × List (List Nat × List Nat)} (i : Nat) (N : Tmp) (l' : Array Bool) (HT : Aside0 (rtab md ops = T)) {oi : Oper} {v : Value} {fuel : Nat} {l : Array Bool} {a a' : Act} {w : World}
  (h : wpAnyLast P md ops Q S ds fuel l' a' w) (hi : ops[i]? = some oi := by exact rfl) (hN : oi.dst = some N := by exact rfl) (hc : rtab md ops = T → anyB md ops l l' i = true := by exact fun h_ => any_of h_ (by kernel_rfl))
  (hQ : ∀ c a w, Q (.panic c) (a.put oi.dst v) w → Q (.panic c) a w := by exact fun _ _ _ h => h) (hy : Yields P ops oi v a := by exact Or.inl ⟨by rfl, by intro w'; go_simp; with_reducible rfl⟩) (ha : a.put (some N) v = a' := by simp only [Act.put, List.setIfInBounds_toArray, List.set_cons_zero, List.set_cons_succ, i64_w, i32_w]; rfl) :
  wpAnyLast P md ops Q S ds (fuel + 1) l a w := pure_ l' hi hN (hc HT.out) hQ hy ha h
theorem pu_ {P : Program} {ops : Array Oper} {Q : Exit → Act → World → Prop} {md : Region.Mode} {S : World → Prop} {ds : List Nat} {T : Bool × List (List Nat × List Nat)} (i : Nat) (N : Tmp) (l' : Array Bool) (HT : Aside0 (rtab md ops = T)) {oi : Oper} {fuel : Nat} {l : Array Bool} {a a' : Act} {w : World}
  (h : wpAnyLast P md ops Q S ds fuel l' a' w) (hi : ops[i]? = some oi := by exact rfl) (hN : oi.dst = some N := by exact rfl) (hc : rtab md ops = T → anyB md ops l l' i = true := by exact fun h_ => any_of h_ (by kernel_rfl))
  (hQ : ∀ c a w, Q (.panic c) (a.put oi.dst undef) w → Q (.panic c) a w := by exact fun _ _ _ h => h) (hy : Yields P ops oi undef a := by exact Or.inr ⟨by rfl, rfl⟩) (ha : a.put (some N) undef = a' := by simp only [Act.put, List.setIfInBounds_toArray, List.set_cons_zero, List.set_cons_succ, i64_w, i32_w]; rfl) :
  wpAnyLast P md ops Q S ds (fuel + 1) l a w := pure_ l' hi hN (hc HT.out) hQ hy ha h
theorem tz_ {P : Program} {ops : Array Oper} {Q : Exit → Act → World → Prop} {md : Region.Mode} {S : World → Prop} {ds : List Nat} {T : Bool × List (List Nat × List Nat)} {B : List Nat} (i : Nat) (N : Tmp) (l' : Array Bool) (HT : Aside0 (rtab md ops = T)) (HW : Aside0 (waitsOk T.2 B = true)) {oi : Oper} {v : Value} {fuel : Nat} {l : Array Bool} {a a' : Act} {w : World}
  (hS : S w) (h : wpAnyLast P md ops Q S ds fuel l' a' w) (hi : ops[i]? = some oi := by exact rfl) (hN : oi.dst = some N := by exact rfl) (hc : rtab md ops = T → waitsOk T.2 B = true → takeB md ops ds l l' i = true := by exact fun h_ h2_ => take_ofW h_ h2_ (by kernel_rfl))
  (hQ : ∀ c a w, Q (.panic c) (a.put oi.dst v) w → Q (.panic c) a w := by exact fun _ _ _ h => h) (hy : YieldsIf P ops S oi v a := by exact Or.inl ⟨by rfl, by intro w' hS_; (try dsimp only at hS_); go_simp; with_reducible rfl⟩) (ha : a.put (some N) v = a' := by simp only [Act.put, List.setIfInBounds_toArray, List.set_cons_zero, List.set_cons_succ, i64_w, i32_w]; rfl) :
  wpAnyLast P md ops Q S ds (fuel + 1) l a w := take_ l' hi hN (hc HT.out HW.out) hQ hy hS ha h
theorem be_ {P : Program} {ops : Array Oper} {rest : List Oper} {o : Oper} {a : Act} {Q : Exit → Act → World → Prop} {W : World} (N : Tmp) (t : TypeId) (cs : Array Value) (h : ∀ g, g = W.heap.size → ∀ w1, w1.heap[g]? = some (.cells cs t (0, 0)) → Below W.heap.size W w1 → wpList P ops Q rest (a.put o.dst (.pointer (some ⟨g, 0, none⟩))) w1)
  (hd : o.dst = some N := by with_reducible rfl) (hg : o.guard = none := by rfl) (hr : (execOp a.eval o).run P W = .ok (.value (.pointer (some ⟨W.heap.size, 0, none⟩))) (W.alloc (.cells cs t (0, 0))) := by first | (go_simp; done) | (go_simp; rfl)) : wpList P ops Q (o :: rest) a W := box_event hg hd hr h
theorem cb_ {α : Type} {d : Kd α} {w W W2 : World} {A : Option Addr} {n : Nat} {xs : List α} (H : Aside0 (d.C w A n xs)) (HB : Aside0 (Below w.heap.size w W)) (t : d.C W A n xs → d.C W2 A n xs := by intro h; repeat (first | exact h | (with_reducible refine Kd.C_alloc ?_ _) | (with_reducible refine Kd.C_drewN ?_ _) | (with_reducible refine Kd.C_drew ?_))) : d.C W2 A n xs := t (Kd.C_below H.out HB.out)
theorem gs_ {w W W2 : World} {g : Nat} (H : Aside0 (Below w.heap.size w W)) (hg : g = W2.heap.size) (t : Below w.heap.size w W → Below w.heap.size w W2 := by intro h; exact bb_ h) : Aside0 (w.heap.size ≤ g) := ⟨by rw [hg]; exact below_size (t H.out)⟩
theorem ce_ {w W : World} {p : Addr} {v : Value} (H : Aside0 (Below w.heap.size w W)) (h : w.cell? p = some v) : W.cell? p = some v := (H.out.cell (World.block_lt_of_cell? w _ h)).trans h
theorem cf_ {w W W2 : World} {p : Addr} {v : Value} (H : Aside0 (Below w.heap.size w W)) (h : w.cell? p = some v) (e : W2.cell? p = W.cell? p := by rfl) : W2.cell? p = some v := e.trans (ce_ H h)
theorem oz_ {P : Program} {ops : Array Oper} {Q : Exit → Act → World → Prop} {md : Region.Mode} {S : World → Prop} {ds : List Nat} {T : Bool × List (List Nat × List Nat)} (i : Nat) (N : Tmp) (l' : Array Bool) (HT : Aside0 (rtab md ops = T)) {oi : Oper} {fuel : Nat} {l : Array Bool} {a : Act} {w : World}
  (h : ∀ K : Act → World → Prop, Shut (∀ a' w', S w' → (S w' → wpAnyLast P md ops Q S ds fuel l' a' w') → K a' w') → if Region.wanted oi (yielded ops a.tmps) = true then Oper.wp P oi a w K Q else K (a.put (some N) undef) w)
  (hi : ops[i]? = some oi := by exact rfl) (hN : oi.dst = some N := by exact rfl) (hc : rtab md ops = T → readyB md ops l l' i = true := by exact fun h_ => one_of h_ (by kernel_rfl)) (hd : i ∉ ds := by decide) : wpAnyLast P md ops Q S ds (fuel + 1) l a w := one_ l' hi hN (hc HT.out) hd h
theorem oa_ {P : Program} {ops : Array Oper} {Q : Exit → Act → World → Prop} {md : Region.Mode} {S : World → Prop} {ds : List Nat} (i : Nat) (N : Tmp) (l' : Array Bool) {oi : Oper} {fuel : Nat} {l : Array Bool} {a : Act} {w : World}
  (h : ∀ K : Act → World → Prop, Shut (∀ a' w', S w' → (S w' → wpAnyLast P md ops Q S ds fuel l' a' w') → K a' w') → if Region.wanted oi (yielded ops a.tmps) = true then Oper.wp P oi a w K Q else K (a.put (some N) undef) w)
  (hi : ops[i]? = some oi := by exact rfl) (hN : oi.dst = some N := by exact rfl) (hc : readyB md ops l l' i = true := by kernel_rfl) (hd : i ∉ ds := by decide) : wpAnyLast P md ops Q S ds (fuel + 1) l a w := one_ l' hi hN hc hd h
theorem da_ {P : Prop} [Decidable P] (h : decide P = true := by first | (with_reducible assumption) | assumption) : P := of_decide_eq_true h
theorem nm_ {P : Program} {ops : Array Oper} {Q : Exit → Act → World → Prop} {md : Region.Mode} {S : World → Prop} {ds : List Nat} (N : Tmp) {v : Value} {fuel : Nat} {l : Array Bool} {a a' : Act} {w : World}
  (h : wpAnyLast P md ops Q S ds fuel l a' w) (ha : a.put (some N) v = a' := by simp only [Act.put, List.setIfInBounds_toArray, List.set_cons_zero, List.set_cons_succ, i64_w, i32_w]; rfl) : wpAnyLast P md ops Q S ds fuel l (a.put (some N) v) w := ha ▸ h
theorem ba0_ {w wb w1 w2 : World} {g : Nat} {o : Obj} (HB : Aside0 (Below w.heap.size w wb)) (hbox : w2.heap[g]? = some o) (hb : Below w1.heap.size w1 w2) (hg : g = w1.heap.size) (tb : Below w.heap.size w wb → Below w.heap.size w w1 := by intro h; exact bb_ h) : Aside0 (Below w.heap.size w w2) ∧ Aside0 (w2.heap[g]? = some o) ∧ Aside0 (w.heap.size ≤ g) ∧ Aside0 (w.heap.size ≤ g) := ⟨⟨below_step (tb HB.out) hb⟩, ⟨hbox⟩, ⟨by rw [hg]; exact below_size (tb HB.out)⟩, ⟨by rw [hg]; exact below_size (tb HB.out)⟩⟩
theorem bd1_ {a1 : World} {g1 : Nat} {o1 : Obj} {w wb w1 w2 : World} (H1 : Aside0 (a1.heap[g1]? = some o1)) (HB : Aside0 (Below w.heap.size w wb)) (hb : Below w1.heap.size w1 w2) (t1 : a1.heap[g1]? = some o1 → w1.heap[g1]? = some o1 := by intro h; exact bk_ h) (tb : Below w.heap.size w wb → Below w.heap.size w w1 := by intro h; exact bb_ h) : Aside0 (w2.heap[g1]? = some o1) ∧ Aside0 (Below w.heap.size w w2) := ⟨⟨blk_below (g := g1) (o := o1) (t1 H1.out) hb⟩, ⟨below_step (tb HB.out) hb⟩⟩
theorem ba1_ {a1 : World} {g1 : Nat} {o1 : Obj} {w wb w1 w2 : World} {g : Nat} {o : Obj} (H1 : Aside0 (a1.heap[g1]? = some o1)) (HB : Aside0 (Below w.heap.size w wb)) (hbox : w2.heap[g]? = some o) (hb : Below w1.heap.size w1 w2) (hg : g = w1.heap.size) (t1 : a1.heap[g1]? = some o1 → w1.heap[g1]? = some o1 := by intro h; exact bk_ h) (tb : Below w.heap.size w wb → Below w.heap.size w w1 := by intro h; exact bb_ h) : Aside0 (w2.heap[g1]? = some o1) ∧ Aside0 (Below w.heap.size w w2) ∧ Aside0 (w2.heap[g]? = some o) ∧ Aside0 (w.heap.size ≤ g) ∧ Aside0 (w.heap.size ≤ g) ∧ Aside0 (g1 ≠ g) ∧ Aside0 (g ≠ g1) := ⟨⟨blk_below (g := g1) (o := o1) (t1 H1.out) hb⟩, ⟨below_step (tb HB.out) hb⟩, ⟨hbox⟩, ⟨by rw [hg]; exact below_size (tb HB.out)⟩, ⟨by rw [hg]; exact below_size (tb HB.out)⟩, ⟨by rw [hg]; exact Nat.ne_of_lt (blk_lt (g := g1) (o := o1) (t1 H1.out))⟩, ⟨by rw [hg]; exact Nat.ne_of_gt (blk_lt (g := g1) (o := o1) (t1 H1.out))⟩⟩
theorem bd2_ {a1 : World} {g1 : Nat} {o1 : Obj} {a2 : World} {g2 : Nat} {o2 : Obj} {w wb w1 w2 : World} (H1 : Aside0 (a1.heap[g1]? = some o1)) (H2 : Aside0 (a2.heap[g2]? = some o2)) (HB : Aside0 (Below w.heap.size w wb)) (hb : Below w1.heap.size w1 w2) (t1 : a1.heap[g1]? = some o1 → w1.heap[g1]? = some o1 := by intro h; exact bk_ h) (t2 : a2.heap[g2]? = some o2 → w1.heap[g2]? = some o2 := by intro h; exact bk_ h) (tb : Below w.heap.size w wb → Below w.heap.size w w1 := by intro h; exact bb_ h) : Aside0 (w2.heap[g1]? = some o1) ∧ Aside0 (w2.heap[g2]? = some o2) ∧ Aside0 (Below w.heap.size w w2) := ⟨⟨blk_below (g := g1) (o := o1) (t1 H1.out) hb⟩, ⟨blk_below (g := g2) (o := o2) (t2 H2.out) hb⟩, ⟨below_step (tb HB.out) hb⟩⟩
theorem ba2_ {a1 : World} {g1 : Nat} {o1 : Obj} {a2 : World} {g2 : Nat} {o2 : Obj} {w wb w1 w2 : World} {g : Nat} {o : Obj} (H1 : Aside0 (a1.heap[g1]? = some o1)) (H2 : Aside0 (a2.heap[g2]? = some o2)) (HB : Aside0 (Below w.heap.size w wb)) (hbox : w2.heap[g]? = some o) (hb : Below w1.heap.size w1 w2) (hg : g = w1.heap.size) (t1 : a1.heap[g1]? = some o1 → w1.heap[g1]? = some o1 := by intro h; exact bk_ h) (t2 : a2.heap[g2]? = some o2 → w1.heap[g2]? = some o2 := by intro h; exact bk_ h) (tb : Below w.heap.size w wb → Below w.heap.size w w1 := by intro h; exact bb_ h) : Aside0 (w2.heap[g1]? = some o1) ∧ Aside0 (w2.heap[g2]? = some o2) ∧ Aside0 (Below w.heap.size w w2) ∧ Aside0 (w2.heap[g]? = some o) ∧ Aside0 (w.heap.size ≤ g) ∧ Aside0 (w.heap.size ≤ g) ∧ Aside0 (g1 ≠ g) ∧ Aside0 (g ≠ g1) ∧ Aside0 (g2 ≠ g) ∧ Aside0 (g ≠ g2) := ⟨⟨blk_below (g := g1) (o := o1) (t1 H1.out) hb⟩, ⟨blk_below (g := g2) (o := o2) (t2 H2.out) hb⟩, ⟨below_step (tb HB.out) hb⟩, ⟨hbox⟩, ⟨by rw [hg]; exact below_size (tb HB.out)⟩, ⟨by rw [hg]; exact below_size (tb HB.out)⟩, ⟨by rw [hg]; exact Nat.ne_of_lt (blk_lt (g := g1) (o := o1) (t1 H1.out))⟩, ⟨by rw [hg]; exact Nat.ne_of_gt (blk_lt (g := g1) (o := o1) (t1 H1.out))⟩, ⟨by rw [hg]; exact Nat.ne_of_lt (blk_lt (g := g2) (o := o2) (t2 H2.out))⟩, ⟨by rw [hg]; exact Nat.ne_of_gt (blk_lt (g := g2) (o := o2) (t2 H2.out))⟩⟩
theorem bd3_ {a1 : World} {g1 : Nat} {o1 : Obj} {a2 : World} {g2 : Nat} {o2 : Obj} {a3 : World} {g3 : Nat} {o3 : Obj} {w wb w1 w2 : World} (H1 : Aside0 (a1.heap[g1]? = some o1)) (H2 : Aside0 (a2.heap[g2]? = some o2)) (H3 : Aside0 (a3.heap[g3]? = some o3)) (HB : Aside0 (Below w.heap.size w wb)) (hb : Below w1.heap.size w1 w2) (t1 : a1.heap[g1]? = some o1 → w1.heap[g1]? = some o1 := by intro h; exact bk_ h) (t2 : a2.heap[g2]? = some o2 → w1.heap[g2]? = some o2 := by intro h; exact bk_ h) (t3 : a3.heap[g3]? = some o3 → w1.heap[g3]? = some o3 := by intro h; exact bk_ h) (tb : Below w.heap.size w wb → Below w.heap.size w w1 := by intro h; exact bb_ h) : Aside0 (w2.heap[g1]? = some o1) ∧ Aside0 (w2.heap[g2]? = some o2) ∧ Aside0 (w2.heap[g3]? = some o3) ∧ Aside0 (Below w.heap.size w w2) := ⟨⟨blk_below (g := g1) (o := o1) (t1 H1.out) hb⟩, ⟨blk_below (g := g2) (o := o2) (t2 H2.out) hb⟩, ⟨blk_below (g := g3) (o := o3) (t3 H3.out) hb⟩, ⟨below_step (tb HB.out) hb⟩⟩
theorem ba3_ {a1 : World} {g1 : Nat} {o1 : Obj} {a2 : World} {g2 : Nat} {o2 : Obj} {a3 : World} {g3 : Nat} {o3 : Obj} {w wb w1 w2 : World} {g : Nat} {o : Obj} (H1 : Aside0 (a1.heap[g1]? = some o1)) (H2 : Aside0 (a2.heap[g2]? = some o2)) (H3 : Aside0 (a3.heap[g3]? = some o3)) (HB : Aside0 (Below w.heap.size w wb)) (hbox : w2.heap[g]? = some o) (hb : Below w1.heap.size w1 w2) (hg : g = w1.heap.size) (t1 : a1.heap[g1]? = some o1 → w1.heap[g1]? = some o1 := by intro h; exact bk_ h) (t2 : a2.heap[g2]? = some o2 → w1.heap[g2]? = some o2 := by intro h; exact bk_ h) (t3 : a3.heap[g3]? = some o3 → w1.heap[g3]? = some o3 := by intro h; exact bk_ h) (tb : Below w.heap.size w wb → Below w.heap.size w w1 := by intro h; exact bb_ h) : Aside0 (w2.heap[g1]? = some o1) ∧ Aside0 (w2.heap[g2]? = some o2) ∧ Aside0 (w2.heap[g3]? = some o3) ∧ Aside0 (Below w.heap.size w w2) ∧ Aside0 (w2.heap[g]? = some o) ∧ Aside0 (w.heap.size ≤ g) ∧ Aside0 (w.heap.size ≤ g) ∧ Aside0 (g1 ≠ g) ∧ Aside0 (g ≠ g1) ∧ Aside0 (g2 ≠ g) ∧ Aside0 (g ≠ g2) ∧ Aside0 (g3 ≠ g) ∧ Aside0 (g ≠ g3) := ⟨⟨blk_below (g := g1) (o := o1) (t1 H1.out) hb⟩, ⟨blk_below (g := g2) (o := o2) (t2 H2.out) hb⟩, ⟨blk_below (g := g3) (o := o3) (t3 H3.out) hb⟩, ⟨below_step (tb HB.out) hb⟩, ⟨hbox⟩, ⟨by rw [hg]; exact below_size (tb HB.out)⟩, ⟨by rw [hg]; exact below_size (tb HB.out)⟩, ⟨by rw [hg]; exact Nat.ne_of_lt (blk_lt (g := g1) (o := o1) (t1 H1.out))⟩, ⟨by rw [hg]; exact Nat.ne_of_gt (blk_lt (g := g1) (o := o1) (t1 H1.out))⟩, ⟨by rw [hg]; exact Nat.ne_of_lt (blk_lt (g := g2) (o := o2) (t2 H2.out))⟩, ⟨by rw [hg]; exact Nat.ne_of_gt (blk_lt (g := g2) (o := o2) (t2 H2.out))⟩, ⟨by rw [hg]; exact Nat.ne_of_lt (blk_lt (g := g3) (o := o3) (t3 H3.out))⟩, ⟨by rw [hg]; exact Nat.ne_of_gt (blk_lt (g := g3) (o := o3) (t3 H3.out))⟩⟩
theorem bd4_ {a1 : World} {g1 : Nat} {o1 : Obj} {a2 : World} {g2 : Nat} {o2 : Obj} {a3 : World} {g3 : Nat} {o3 : Obj} {a4 : World} {g4 : Nat} {o4 : Obj} {w wb w1 w2 : World} (H1 : Aside0 (a1.heap[g1]? = some o1)) (H2 : Aside0 (a2.heap[g2]? = some o2)) (H3 : Aside0 (a3.heap[g3]? = some o3)) (H4 : Aside0 (a4.heap[g4]? = some o4)) (HB : Aside0 (Below w.heap.size w wb)) (hb : Below w1.heap.size w1 w2) (t1 : a1.heap[g1]? = some o1 → w1.heap[g1]? = some o1 := by intro h; exact bk_ h) (t2 : a2.heap[g2]? = some o2 → w1.heap[g2]? = some o2 := by intro h; exact bk_ h) (t3 : a3.heap[g3]? = some o3 → w1.heap[g3]? = some o3 := by intro h; exact bk_ h) (t4 : a4.heap[g4]? = some o4 → w1.heap[g4]? = some o4 := by intro h; exact bk_ h) (tb : Below w.heap.size w wb → Below w.heap.size w w1 := by intro h; exact bb_ h) : Aside0 (w2.heap[g1]? = some o1) ∧ Aside0 (w2.heap[g2]? = some o2) ∧ Aside0 (w2.heap[g3]? = some o3) ∧ Aside0 (w2.heap[g4]? = some o4) ∧ Aside0 (Below w.heap.size w w2) := ⟨⟨blk_below (g := g1) (o := o1) (t1 H1.out) hb⟩, ⟨blk_below (g := g2) (o := o2) (t2 H2.out) hb⟩, ⟨blk_below (g := g3) (o := o3) (t3 H3.out) hb⟩, ⟨blk_below (g := g4) (o := o4) (t4 H4.out) hb⟩, ⟨below_step (tb HB.out) hb⟩⟩
theorem ba4_ {a1 : World} {g1 : Nat} {o1 : Obj} {a2 : World} {g2 : Nat} {o2 : Obj} {a3 : World} {g3 : Nat} {o3 : Obj} {a4 : World} {g4 : Nat} {o4 : Obj} {w wb w1 w2 : World} {g : Nat} {o : Obj} (H1 : Aside0 (a1.heap[g1]? = some o1)) (H2 : Aside0 (a2.heap[g2]? = some o2)) (H3 : Aside0 (a3.heap[g3]? = some o3)) (H4 : Aside0 (a4.heap[g4]? = some o4)) (HB : Aside0 (Below w.heap.size w wb)) (hbox : w2.heap[g]? = some o) (hb : Below w1.heap.size w1 w2) (hg : g = w1.heap.size) (t1 : a1.heap[g1]? = some o1 → w1.heap[g1]? = some o1 := by intro h; exact bk_ h) (t2 : a2.heap[g2]? = some o2 → w1.heap[g2]? = some o2 := by intro h; exact bk_ h) (t3 : a3.heap[g3]? = some o3 → w1.heap[g3]? = some o3 := by intro h; exact bk_ h) (t4 : a4.heap[g4]? = some o4 → w1.heap[g4]? = some o4 := by intro h; exact bk_ h) (tb : Below w.heap.size w wb → Below w.heap.size w w1 := by intro h; exact bb_ h) : Aside0 (w2.heap[g1]? = some o1) ∧ Aside0 (w2.heap[g2]? = some o2) ∧ Aside0 (w2.heap[g3]? = some o3) ∧ Aside0 (w2.heap[g4]? = some o4) ∧ Aside0 (Below w.heap.size w w2) ∧ Aside0 (w2.heap[g]? = some o) ∧ Aside0 (w.heap.size ≤ g) ∧ Aside0 (w.heap.size ≤ g) ∧ Aside0 (g1 ≠ g) ∧ Aside0 (g ≠ g1) ∧ Aside0 (g2 ≠ g) ∧ Aside0 (g ≠ g2) ∧ Aside0 (g3 ≠ g) ∧ Aside0 (g ≠ g3) ∧ Aside0 (g4 ≠ g) ∧ Aside0 (g ≠ g4) := ⟨⟨blk_below (g := g1) (o := o1) (t1 H1.out) hb⟩, ⟨blk_below (g := g2) (o := o2) (t2 H2.out) hb⟩, ⟨blk_below (g := g3) (o := o3) (t3 H3.out) hb⟩, ⟨blk_below (g := g4) (o := o4) (t4 H4.out) hb⟩, ⟨below_step (tb HB.out) hb⟩, ⟨hbox⟩, ⟨by rw [hg]; exact below_size (tb HB.out)⟩, ⟨by rw [hg]; exact below_size (tb HB.out)⟩, ⟨by rw [hg]; exact Nat.ne_of_lt (blk_lt (g := g1) (o := o1) (t1 H1.out))⟩, ⟨by rw [hg]; exact Nat.ne_of_gt (blk_lt (g := g1) (o := o1) (t1 H1.out))⟩, ⟨by rw [hg]; exact Nat.ne_of_lt (blk_lt (g := g2) (o := o2) (t2 H2.out))⟩, ⟨by rw [hg]; exact Nat.ne_of_gt (blk_lt (g := g2) (o := o2) (t2 H2.out))⟩, ⟨by rw [hg]; exact Nat.ne_of_lt (blk_lt (g := g3) (o := o3) (t3 H3.out))⟩, ⟨by rw [hg]; exact Nat.ne_of_gt (blk_lt (g := g3) (o := o3) (t3 H3.out))⟩, ⟨by rw [hg]; exact Nat.ne_of_lt (blk_lt (g := g4) (o := o4) (t4 H4.out))⟩, ⟨by rw [hg]; exact Nat.ne_of_gt (blk_lt (g := g4) (o := o4) (t4 H4.out))⟩⟩
theorem pu2_ {W : World} {g t : Nat} {x0 x1 y0 y1 : Value} (H : Aside0 (W.heap[g]? = some (.cells #[y0, y1] t (0, 0)))) : ((W.setCell ⟨g, 0, none⟩ x0).setCell ⟨g, 1, none⟩ x1).heap[g]? = some (.cells #[x0, x1] t (0, 0)) := blk_put (blk_put H.out 0 x0 rfl) 1 x1 rfl
theorem pu4_ {W : World} {g t : Nat} {x0 x1 x2 x3 y0 y1 y2 y3 : Value} (H : Aside0 (W.heap[g]? = some (.cells #[y0, y1, y2, y3] t (0, 0)))) : ((((W.setCell ⟨g, 0, none⟩ x0).setCell ⟨g, 1, none⟩ x1).setCell ⟨g, 2, none⟩ x2).setCell ⟨g, 3, none⟩ x3).heap[g]? = some (.cells #[x0, x1, x2, x3] t (0, 0)) := blk_put (blk_put (blk_put (blk_put H.out 0 x0 rfl) 1 x1 rfl) 2 x2 rfl) 3 x3 rfl
theorem er_ {α : Sort _} {a b : α} (h : a = b := by first | rfl | (simp [errW_none, errW_some] <;> rfl) | (simp [*, errW_none, errW_some] <;> rfl)) : a = b := h
theorem hq_ {P Q : Prop} {α : Sort _} {y e : α} (hy : y = e) (H : P) (t : P → y = e → Q := by intro H_ hy_; first | (rw [hy_]; with_reducible exact H_) | (have H2_ := (Option.bind_some _ _).symm.trans H_; rw [hy_]; with_reducible exact H2_) | (have H2_ := (Option.bind_some _ _).symm.trans H_; with_reducible exact H2_) | with_reducible exact H_ | (rw [hy_]; exact H_) | exact H_) : Q := t H hy
theorem cz_ {α : Type} {d : Kd α} {W W2 : World} {A : Option Addr} {n : Nat} {xs : List α} (H : d.C W A n xs) (t : d.C W A n xs → d.C W2 A n xs := by intro h; repeat (first | exact h | (with_reducible refine Kd.C_alloc ?_ _) | (with_reducible refine Kd.C_drewN ?_ _) | (with_reducible refine Kd.C_drew ?_))) : d.C W2 A n xs := t H
theorem Rx_ {α : Type} {d : Kd α} {e base : Nat} {ok : Nat → Prop} {W W2 : World} {v : Value} {xs : List α} (H : d.R e W base ok v xs) (t : d.R e W base ok v xs → d.R e W2 base ok v xs := by intro h; repeat (first | (with_reducible exact h) | (with_reducible first | apply Kd.R_alloc | apply Kd.R_drewN | apply Kd.R_drew) | exact h)) : d.R e W2 base ok v xs := t H
theorem Sx_ {α : Type} {d : Kd α} {e base : Nat} {ok : Nat → Prop} {W W2 : World} {v : Value} {xs : List α} (H : d.S e W base ok v xs) (t : d.S e W base ok v xs → d.S e W2 base ok v xs := by intro h; repeat (first | (with_reducible exact h) | (with_reducible first | apply Kd.S_alloc | apply Kd.S_drewN | apply Kd.S_drew) | exact h)) : d.S e W2 base ok v xs := t H
theorem Nx_ {α : Type} {d : Kd α} {e base : Nat} {ok : Nat → Prop} {W W2 : World} {v : Value} {xs : List α} (H : d.N e W base ok v xs) (t : d.N e W base ok v xs → d.N e W2 base ok v xs := by intro h; repeat (first | (with_reducible exact h) | (with_reducible first | apply Kd.N_alloc | apply Kd.N_drewN | apply Kd.N_drew) | exact h)) : d.N e W2 base ok v xs := t H
theorem Vx_ {α : Type} {d : Kd α} {e base : Nat} {ok : Nat → Prop} {W W2 : World} {v : Value} {xs : List α} (H : d.V e W base ok v xs) (t : d.V e W base ok v xs → d.V e W2 base ok v xs := by intro h; repeat (first | (with_reducible exact h) | (with_reducible first | apply Kd.V_alloc | apply Kd.V_drewN | apply Kd.V_drew) | exact h)) : d.V e W2 base ok v xs := t H
end Go.Proofs.Ytbcdngjajjgmkaa.PFnExactSimplifyPresentation
