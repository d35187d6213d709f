/- Written by this session's program out of the kit's print and this session's contracts. -/
import Derived.Test.YtbcdngjajjgmkaaVFnExactRepresentationAtPx0
import Derived.Test.YtbcdngjajjgmkaaVFnExactRepresentationAtPx9
import Derived.Test.YtbcdngjajjgmkaaVFnExactRepresentationAtPx10
namespace Go.Proofs.Ytbcdngjajjgmkaa.PFnExactRepresentationAt
open Go.RowKit Go.Proofs.YtbcdngjajjgmkaaW.PrintWords Go.Proofs.YtbcdngjajjgmkaaW.PrintLast Go.Proofs.YtbcdngjajjgmkaaW.PrintMore
attribute [local go_sem] max2_int min2_int max_two min_two max_three min_three max_four min_four   -- for this text's walks alone
set_option linter.unusedVariables false
set_option linter.unusedSimpArgs false

/-! ### impl_representations: function 42 -/
/-- Does a relator move a point? -/
def trivQ (k : Nat) (n : Int) (G : List (List Int)) (x : List Int) : Option Bool := (impl_isTrivial.f k n G x).bind fun b => some (!b)
def foldG {σ : Type} (f : List Int → σ → Option (Bool × σ)) : List (List Int) → σ → Option (Bool × σ)
  | [], s => some (true, s)
  | l :: t, s => (f l s).bind fun r => if r.1 = true then foldG f t r.2 else some (false, r.2)
/-- The search: d generators have no permutation yet; T tells the relators that are tested then. -/
def growG {σ : Type} (k : Nat) (n : Int) (T : List (List (List Int))) (all : List (List Int)) (vis : List (List Int) → σ → Option (Bool × σ)) : Nat → List (List Int) → σ → Option (Bool × σ)
  | 0, images, s => (anyO (trivQ k n images) (T.getD images.length [])).bind fun b => if b = true then some (true, s) else vis images s
  | d + 1, images, s => (anyO (trivQ k n images) (T.getD images.length [])).bind fun b => if b = true then some (true, s) else foldG (fun l s => growG k n T all vis d (images ++ [l]) s) all s
/-- What a visitor keeps: J s tells its state, in the blocks of Pf. -/
structure Vis (w0 : World) (gv : Nat) (lbv : Array Value) {σ : Type} (vis : List (List Int) → σ → Option (Bool × σ)) (J : σ → World → (Nat → Prop) → Prop) : Prop where
  enters : ∀ args W, (callFunc gv args).run Try.prog W = .ok (.enter gv args) W
  kept : ∀ {s : σ} {W W' : World} {Pf : Nat → Prop}, J s W Pf → W.heap.size ≤ W'.heap.size → (∀ k, Pf k → W'.heap[k]? = W.heap[k]?) → J s W' Pf
  bound : ∀ {s : σ} {W : World} {Pf : Nat → Prop}, J s W Pf → ∀ k, Pf k → w0.heap.size ≤ k ∧ k < W.heap.size
  call : ∀ (W : World) (s s' : σ) (Pf : Nat → Prop) (A : Option Addr) (c : Nat) (images : List (List Int)) (b : Bool), Below w0.heap.size w0 W → J s W Pf → (Kd.slice 2 (Kd.int .i64)).C W A images.length images → images.length ≤ c → vis images s = some (b, s') →
    Calls Try.prog gv (#[.slice A images.length c] ++ lbv) W fun e W' => e = .returned (.bool b) ∧ ∃ Pf', J s' W' Pf' ∧ Below w0.heap.size w0 W' ∧ Kept W W' Pf ∧ ∀ k, Pf' k → Pf k ∨ W.heap.size ≤ k
/-- The boxes of representations that the search leaves alone, and what they lead to. -/
def okS (b ba k : Nat) : Prop := b ≤ k ∧ k < ba + 3 ∧ k ≠ ba + 1
structure RStat (w0 Ws : World) (b bt ba g : Nat) (n : Int) (pr vf vT vA : Value) (T : List (List (List Int))) (all : List (List Int)) : Prop where
  le0 : w0.heap.size ≤ b
  le : b + 5 ≤ ba
  ltb : b + 3 ≤ bt
  lta : bt < ba
  g24 : g ≤ 24
  tlen : T.length = g + 1
  bp : Ws.heap[b]? = some (.cells #[.int .i64 (g : Int), pr] 28 (0, 0))
  bn : Ws.heap[b + 1]? = some (.cells #[.int .i64 n] 2 (0, 0))
  bv : Ws.heap[b + 2]? = some (.cells #[vf] 66 (0, 0))
  bT : Ws.heap[bt]? = some (.cells #[vT] 61 (0, 0))
  bA : Ws.heap[ba]? = some (.cells #[vA] 22 (0, 0))
  bg : Ws.heap[ba + 2]? = some (.cells #[.func (.func 78) #[] #[.pointer (some ⟨bt, 0, none⟩), .pointer (some ⟨ba + 1, 0, none⟩), .pointer (some ⟨b + 1, 0, none⟩), .pointer (some ⟨b, 0, none⟩), .pointer (some ⟨b + 2, 0, none⟩), .pointer (some ⟨ba, 0, none⟩), .pointer (some ⟨ba + 2, 0, none⟩)]] 88 (0, 0))
  tests : Kd.V (Kd.slice 39 (Kd.fixed (Kd.slice 2 (Kd.int .i64)) w0)) 22 Ws b (okS b ba) vT T
  rowsA : Kd.V (Kd.slice 2 (Kd.int .i64)) 39 Ws b (okS b ba) vA all
structure GInv (w0 Ws : World) (b ba : Nat) {σ : Type} (J : σ → World → (Nat → Prop) → Prop) (W : World) (s : σ) (Pf : Nat → Prop) (images : List (List Int)) (v : Value) : Prop where
  below : Below w0.heap.size w0 W
  stat : ∀ k, okS b ba k → W.heap[k]? = Ws.heap[k]?
  size : ba + 3 ≤ W.heap.size
  img : W.heap[ba + 1]? = some (.cells #[v] 22 (0, 0))
  rows : Kd.N (Kd.slice 2 (Kd.int .i64)) 39 W b (fun k => b ≤ k ∧ k ≠ ba + 1 ∧ ¬ Pf k) v images
  own : ∀ k, v.ownBlock = some k → ba + 3 ≤ k
  st : J s W Pf
  pf : ∀ k, Pf k → ¬ (b ≤ k ∧ k < ba + 3)
  le1 : b ≤ ba + 1
section
variable {w0 Ws W W2 : World} {b ba g gv : Nat} {n : Int} {pr vf vT vA v : Value} {T : List (List (List Int))} {all images : List (List Int)} {σ : Type} {J : σ → World → (Nat → Prop) → Prop} {s : σ} {Pf : Nat → Prop} {lbv : Array Value} {vis : List (List Int) → σ → Option (Bool × σ)}
theorem GInv.step (hV : Vis w0 gv lbv vis J) (h : GInv w0 Ws b ba J W s Pf images v) (hb : Below W.heap.size W W2) : GInv w0 Ws b ba J W2 s Pf images v :=
  ⟨below_then h.below (below_size h.below) hb, fun k hk => (hb.block k (by have := hk.2.1; have := h.size; omega)).trans (h.stat k hk), Nat.le_trans h.size (below_size hb), (hb.block _ (blk_lt h.img)).trans h.img, Kd.N_below h.rows hb, h.own, hV.kept h.st (below_size hb) (fun k hk => hb.block k (hV.bound h.st k hk).2), h.pf, h.le1⟩
theorem GInv.blk (h : GInv w0 Ws b ba J W s Pf images v) {k : Nat} {ob : Obj} (hk : okS b ba k) (hs : Ws.heap[k]? = some ob) : W.heap[k]? = some ob := (h.stat k hk).trans hs
/-- A row of the static part, now. -/
theorem GInv.vnow {α : Type} {d : Kd α} {e : Nat} {u : Value} {xs : List α} (h : GInv w0 Ws b ba J W s Pf images v) (hv : Kd.V d e Ws b (okS b ba) u xs) : Kd.V d e W b (okS b ba) u xs := Kd.V_step hv (fun k hk _ => h.stat k hk)
/-- Behind an append and its store. -/
theorem GInv.put {w1 : World} {v1 : Value} {im1 : List (List Int)} (hV : Vis w0 gv lbv vis J) (hw : w0.heap.size ≤ b) (hbb : b + 5 ≤ ba) (h : GInv w0 Ws b ba J W s Pf images v) (hg : W.grownBy w1 v.ownBlock) (hat : v1.ownBlock = v.ownBlock ∨ ∃ q, v1.ownBlock = some q ∧ W.heap.size ≤ q)
    (hN : Kd.N (Kd.slice 2 (Kd.int .i64)) 39 w1 b (fun k => b ≤ k ∧ k ≠ ba + 1 ∧ ¬ Pf k) v1 im1) : GInv w0 Ws b ba J (w1.setCell ⟨ba + 1, 0, none⟩ v1) s Pf im1 v1 := by
  have hsz := hg.size
  have hsz2 : (w1.setCell ⟨ba + 1, 0, none⟩ v1).heap.size = w1.heap.size := by simp [World.setCell]
  have hne : ∀ k, k < ba + 3 → some k ≠ v.ownBlock := fun k hk he => by
    have := h.own k he.symm
    omega
  have hpn : ∀ k, Pf k → some k ≠ v.ownBlock := fun k hk he => (h.rows.1 k he.symm).2.2 hk
  refine ⟨?_, fun k hk => ?_, by rw [hsz2]; exact Nat.le_trans h.size hsz, ?_, Kd.N_far (p := ⟨ba + 1, 0, none⟩) hN (fun k hk => hk.2.1) v1, fun k hk => ?_, hV.kept h.st (by rw [hsz2]; exact hsz) (fun k hk => ?_), h.pf, h.le1⟩
  · exact below_set (pw_below_grown h.below v.ownBlock (below_size h.below) hg (fun k hk => by have := h.own k hk; omega)) (by omega)
  · refine (Below.heap_setCell w1 ⟨ba + 1, 0, none⟩ v1 k hk.2.2).trans ((hg.block k (by have := hk.2.1; have := h.size; omega) (hne k hk.2.1)).trans (h.stat k hk))
  · exact (blk_set (blk_grown h.img hg (hne (ba + 1) (by omega))) 0 v1).trans rfl
  · rcases hat with h1 | ⟨q, h1, h2⟩
    · exact h.own k (by rw [← h1]; exact hk)
    · rw [h1] at hk
      injection hk with hk
      have := h.size
      omega
  · refine (Below.heap_setCell w1 ⟨ba + 1, 0, none⟩ v1 k (fun he => h.pf k hk (by have he2 : k = ba + 1 := he; constructor <;> omega))).trans (hg.block k (hV.bound h.st k hk).2 (hpn k hk))
/-- Behind a cut. -/
theorem GInv.cut {A : Option Addr} {m c : Nat} {l : List Int} (hV : Vis w0 gv lbv vis J) (hw : w0.heap.size ≤ b) (hbb : b + 5 ≤ ba) (hm : images.length = m) (h : GInv w0 Ws b ba J W s Pf (images ++ [l]) (.slice A (m + 1) c)) :
    GInv w0 Ws b ba J (W.setCell ⟨ba + 1, 0, none⟩ (.slice A m c)) s Pf images (.slice A m c) := by
  subst hm
  have hN : Kd.N (Kd.slice 2 (Kd.int .i64)) 39 W b (fun k => b ≤ k ∧ k ≠ ba + 1 ∧ ¬ Pf k) (.slice A images.length c) images := by
    have := Kd.N_take h.rows (m := images.length) (by rw [List.length_append]; omega)
    rwa [List.take_left] at this
  refine ⟨below_set h.below (by omega), fun k hk => (Below.heap_setCell W ⟨ba + 1, 0, none⟩ _ k hk.2.2).trans (h.stat k hk), by simpa [World.setCell] using h.size, (blk_set h.img 0 _).trans rfl, Kd.N_far (p := ⟨ba + 1, 0, none⟩) hN (fun k hk => hk.2.1) _, fun k hk => h.own k (by cases A with | none => simp [Value.ownBlock] at hk | some A => simpa [Value.ownBlock] using hk), hV.kept h.st (by simp [World.setCell]) (fun k hk => Below.heap_setCell W ⟨ba + 1, 0, none⟩ _ k (fun he => h.pf k hk (by have he2 : k = ba + 1 := he; constructor <;> omega))), h.pf, h.le1⟩
end
theorem GInv.visited {w0 Ws W W2 : World} {b ba gv : Nat} {v : Value} {images : List (List Int)} {σ : Type} {J : σ → World → (Nat → Prop) → Prop} {s s2 : σ} {Pf Pf2 : Nat → Prop} {lbv : Array Value} {vis : List (List Int) → σ → Option (Bool × σ)} (hV : Vis w0 gv lbv vis J) (h : GInv w0 Ws b ba J W s Pf images v) (hJ : J s2 W2 Pf2) (hB : Below w0.heap.size w0 W2) (hK : Kept W W2 Pf) (hP : ∀ k, Pf2 k → Pf k ∨ W.heap.size ≤ k) : GInv w0 Ws b ba J W2 s2 Pf2 images v := by
  have hnp : ∀ k, b ≤ k → k < ba + 3 → ¬ Pf k := fun k h1 h2 h3 => h.pf k h3 ⟨h1, h2⟩
  refine ⟨hB, fun k hk => (hK.2 k (by have := hk.2.1; have := h.size; omega) (hnp k hk.1 hk.2.1)).trans (h.stat k hk), Nat.le_trans h.size hK.1, (hK.2 _ (blk_lt h.img) (fun hp => h.pf _ hp ⟨?_, by omega⟩)).trans h.img, ?_, h.own, hJ, fun k hk => ?_, h.le1⟩
  · exact h.le1
  · refine Kd.N_mono (Kd.N_kept (Kd.N_bound h.rows) hK (fun k hk => hk.1.2.2)) (fun k hk => ⟨hk.1.1, hk.1.2.1, fun hp => ?_⟩)
    rcases hP k hp with h1 | h1
    · exact hk.1.2.2 h1
    · have := hk.2
      omega
  · rcases hP k hk with h1 | h1
    · exact h.pf k h1
    · have := h.size
      omega
def GPost (w0 Ws : World) (b ba : Nat) {σ : Type} (J : σ → World → (Nat → Prop) → Prop) (images : List (List Int)) (r : Bool) (s' : σ) (e : Ending) (w' : World) : Prop :=
  e = .returned (.bool r) ∧ ∃ v' Pf', GInv w0 Ws b ba J w' s' Pf' images v'
set_option maxHeartbeats 8000000 in
set_option maxRecDepth 100000 in
theorem size_rowsQ (A : Option Addr) (n c : Nat) (w : World) : Calls Try.prog 82 #[.slice A n c] w fun e w' => e = .returned (.int .i64 n) ∧ w' = w := by
  go_enter Try.func82, Try.ntmps82
  go_wp2
  go_ret
  exact ⟨rfl, rfl⟩
set_option maxHeartbeats 8000000 in
set_option maxRecDepth 100000 in
theorem growLit_calls (k : Nat) (A : Option Addr) (c : Nat) (x : List Int) (n : Int) (A2 : Option Addr) (c2 : Nat) (G : List (List Int)) (b : Bool) (B B2 : Nat) (w : World) (hc : w.cell? ⟨B, 0, none⟩ = some (.int .i64 n)) (hc2 : w.cell? ⟨B2, 0, none⟩ = some (.slice A2 G.length c2))
    (hr : Kd.C (Kd.int .i64) w A x.length x) (hl : x.length ≤ c) (hr2 : Kd.C (Kd.slice 2 (Kd.int .i64)) w A2 G.length G) (hl2 : G.length ≤ c2)
    (h : trivQ k n G x = some b) :
    Calls Try.prog 80 #[.slice A x.length c, .pointer (some ⟨B, 0, none⟩), .pointer (some ⟨B2, 0, none⟩)] w fun e w' => e = .returned (.bool b) ∧ Below w.heap.size w w' := by
  obtain ⟨b1, h1, h2⟩ := Option.bind_eq_some_iff.mp h
  obtain rfl : (!b1) = b := Option.some.inj h2
  have hC := impl_isTrivial.calls k n A2 c2 G A c x b1 w hr2 hl2 hr hl h1
  clear h h1 h2 hr hl hr2 hl2
  go_enter Try.func80, Try.ntmps80
  go_wp2_with (go_at_call 81; (with_reducible refine hC.mono ?_); rintro e w' ⟨rfl, hb'⟩)
  go_ret
  exact ⟨rfl, hb'.below⟩
set_option maxHeartbeats 8000000 in
set_option maxRecDepth 100000 in
theorem growG_calls {w0 Ws : World} {b bt ba g gv : Nat} {n : Int} {pr vf vT vA : Value} {T : List (List (List Int))} {all : List (List Int)} {σ : Type} {J : σ → World → (Nat → Prop) → Prop} {lbv : Array Value} {vis : List (List Int) → σ → Option (Bool × σ)} (hV : Vis w0 gv lbv vis J) (hS : RStat w0 Ws b bt ba g n pr (.func (.func gv) #[] lbv) vT vA T all) (k : Nat) :
    ∀ (d : Nat) (images : List (List Int)) (s : σ) (v : Value) (Pf : Nat → Prop) (W : World) (r : Bool) (s' : σ), images.length + d = g → GInv w0 Ws b ba J W s Pf images v → growG k n T all vis d images s = some (r, s') →
      Calls Try.prog 78 #[.pointer (some ⟨bt, 0, none⟩), .pointer (some ⟨ba + 1, 0, none⟩), .pointer (some ⟨b + 1, 0, none⟩), .pointer (some ⟨b, 0, none⟩), .pointer (some ⟨b + 2, 0, none⟩), .pointer (some ⟨ba, 0, none⟩), .pointer (some ⟨ba + 2, 0, none⟩)] W (GPost w0 Ws b ba J images r s') := by
  intro d
  induction d with
  | zero =>
    intro images s v Pf W r s' hd hI h
    obtain ⟨Av, cv, rfl⟩ := Kd.N_slice hI.rows
    obtain ⟨AT, cT, evT⟩ := Kd.V_slice hS.tests
    have hvT := hI.vnow hS.tests
    rw [evT] at hvT
    have hTl : images.length < T.length := by have := hS.tlen; omega
    obtain ⟨adT, rfl, _⟩ := (Kd.V_reads' hvT).2.2.2.2 (by omega)
    obtain ⟨ce, hcel, hFKe, hce⟩ := Kd.V_get hvT [] (images.length : Int) (Int.natCast_nonneg _) (by exact_mod_cast hTl)
    obtain ⟨Ae, cce, rfl, hle, hFe⟩ := Kd.FK_slice_open hFKe
    have hx := hce 0 _ rfl
    rw [show ((images.length : Int)).toNat * (Kd.slice 39 (Kd.fixed (Kd.slice 2 (Kd.int .i64)) w0)).sz + 0 = images.length by rw [Int.toNat_natCast, Nat.add_zero]; exact Nat.mul_one _] at hx
    rw [Int.toNat_natCast] at hx hle hFe
    have hFe2 : (Kd.slice 2 (Kd.int .i64)).C W Ae (T.getD images.length []).length (T.getD images.length []) := Kd.C_read (d := (Kd.slice 2 (Kd.int .i64))) (dm := Kd.fixed (Kd.slice 2 (Kd.int .i64)) w0) rfl (fun x cs hxk => (Kd.slice 2 (Kd.int .i64)).K_below hI.below hxk) (Kd.F_now hFe)
    have hc1 : W.cell? ⟨bt, 0, none⟩ = some (.slice (some adT) T.length cT) := by rw [← evT]; exact (blk_cell (hI.blk ⟨by have := hS.ltb; omega, by have := hS.lta; omega, by have := hS.lta; omega⟩ hS.bT) 0).trans rfl
    have hc2 : W.cell? ⟨ba + 1, 0, none⟩ = some (.slice Av images.length cv) := (blk_cell hI.img 0).trans rfl
    have hTz : (images.length : Int) < (T.length : Int) := by exact_mod_cast hTl
    have okn : okS b ba (b + 1) := ⟨by omega, by have := hS.le; omega, by have := hS.le; omega⟩
    have HCF := Aside0.mk fun (bb : Bool) (hbb : anyO (trivQ k n images) (T.getD images.length []) = some bb) => containsRows 2 80 #[.pointer (some ⟨b + 1, 0, none⟩), .pointer (some ⟨ba + 1, 0, none⟩)] (Go.Proofs.enters_of Try.func80 (by kernel_rfl) rfl) (trivQ k n images) Ae cce (T.getD images.length []) bb W hFe2
      (fun W' A c x b' _ hb' hrx hlx hq => growLit_calls k A c x n Av cv images b' (b + 1) (ba + 1) W' ((blk_cell ((hI.step hV hb').blk okn hS.bn) 0).trans rfl) ((blk_cell (hI.step hV hb').img 0).trans rfl) hrx hlx (Kd.N_reads' (hI.step hV hb').rows).2.2 (Kd.N_reads' (hI.step hV hb').rows).2.1 hq) hbb
    have HI := Aside0.mk hI
    have HV := Aside0.mk hV
    have HS := Aside0.mk hS
    have HIL := Aside0.mk (show images.length + 0 = g ∧ g ≤ 24 from ⟨hd, hS.g24⟩)
    have HSG := Aside0.mk (show okS b ba (ba + 2) from ⟨by have := hS.le; omega, by omega, by omega⟩)
    have HSV := Aside0.mk (show okS b ba (b + 2) from ⟨by omega, by have := hS.le; omega, by have := hS.le; omega⟩)
    have HSP := Aside0.mk (show okS b ba b from ⟨by omega, by have := hS.le; omega, by have := hS.le; omega⟩)
    have HSA := Aside0.mk (show okS b ba ba from ⟨by have := hS.le; omega, by omega, by omega⟩)
    rw [growG] at h
    obtain ⟨bb, ha, h⟩ := Option.bind_eq_some_iff.mp h
    have HA := Aside0.mk ha
    cases bb with
    | true =>
      rw [if_pos rfl] at h
      obtain ⟨rfl, rfl⟩ := Prod.mk.inj (Option.some.inj h)
      clear hd hI h ha hvT hcel hFKe hce hFe hFe2 hle hTl okn hV hS evT
      go_enter Try.func78, Try.ntmps78
      go_wp2_with (go_at_call 79; refine (HCF.out _ HA.out).mono ?_; rintro e w1 ⟨rfl, hb1⟩; have HI1 := Aside0.mk (HI.out.step HV.out hb1); have hc2b : w1.cell? ⟨ba + 1, 0, none⟩ = some (.slice Av images.length cv) := (blk_cell HI1.out.img 0).trans rfl; have hcp : w1.cell? ⟨b, 0, none⟩ = some (.int .i64 (g : Int)) := (blk_cell (HI1.out.blk HSP.out HS.out.bp) 0).trans rfl; clear hb1 HCF HI hc1 hc2 hx hTz)
      go_ret
      exact ⟨rfl, _, _, HI1.out⟩
    | false =>
      rw [if_neg (by simp)] at h
      have HVC := Aside0.mk fun (W2 : World) (I2 : GInv w0 Ws b ba J W2 s Pf images (.slice Av images.length cv)) => hV.call W2 s s' Pf Av cv images r I2.below I2.st (Kd.N_reads' I2.rows).2.2 (Kd.N_reads' I2.rows).2.1 h
      have eg : ∀ args W, (callFunc gv args).run Try.prog W = .ok (.enter gv args) W := hV.enters
      have ht : ((images.length : Int) == (g : Int)) = true := beq_iff_eq.2 (by omega)
      clear hd hI h ha hvT hcel hFKe hce hFe hFe2 hle hTl okn hV hS evT
      go_enter Try.func78, Try.ntmps78
      go_wp2_with (go_at_call 79; refine (HCF.out _ HA.out).mono ?_; rintro e w1 ⟨rfl, hb1⟩; have HI1 := Aside0.mk (HI.out.step HV.out hb1); have hc2b : w1.cell? ⟨ba + 1, 0, none⟩ = some (.slice Av images.length cv) := (blk_cell HI1.out.img 0).trans rfl; have hcp : w1.cell? ⟨b, 0, none⟩ = some (.int .i64 (g : Int)) := (blk_cell (HI1.out.blk HSP.out HS.out.bp) 0).trans rfl; have hcv : w1.cell? ⟨b + 2, 0, none⟩ = some (.func (.func gv) #[] lbv) := (blk_cell (HI1.out.blk HSV.out HS.out.bv) 0).trans rfl; clear hb1 HCF HI hc1 hc2 hx hTz)
      go_quiet ((go_at_call 82; exact Calls.quiet_of_same (size_rowsQ _ _ _ _)))
      have HI2 := Aside0.mk (HI1.out.step HV.out (pw_below_drewN (Below.refl _ w1) nq))
      go_wp2_with (refine (HVC.out _ HI2.out).mono ?_; rintro e w2 ⟨rfl, Pf', J', B', K', P'⟩)
      go_ret
      exact ⟨rfl, _, Pf', GInv.visited HV.out HI2.out J' B' K' P'⟩
  | succ d ih =>
    intro images s v Pf W r s' hd hI h
    obtain ⟨Av, cv, rfl⟩ := Kd.N_slice hI.rows
    obtain ⟨AT, cT, evT⟩ := Kd.V_slice hS.tests
    have hvT := hI.vnow hS.tests
    rw [evT] at hvT
    have hTl : images.length < T.length := by have := hS.tlen; omega
    obtain ⟨adT, rfl, _⟩ := (Kd.V_reads' hvT).2.2.2.2 (by omega)
    obtain ⟨ce, hcel, hFKe, hce⟩ := Kd.V_get hvT [] (images.length : Int) (Int.natCast_nonneg _) (by exact_mod_cast hTl)
    obtain ⟨Ae, cce, rfl, hle, hFe⟩ := Kd.FK_slice_open hFKe
    have hx := hce 0 _ rfl
    rw [show ((images.length : Int)).toNat * (Kd.slice 39 (Kd.fixed (Kd.slice 2 (Kd.int .i64)) w0)).sz + 0 = images.length by rw [Int.toNat_natCast, Nat.add_zero]; exact Nat.mul_one _] at hx
    rw [Int.toNat_natCast] at hx hle hFe
    have hFe2 : (Kd.slice 2 (Kd.int .i64)).C W Ae (T.getD images.length []).length (T.getD images.length []) := Kd.C_read (d := (Kd.slice 2 (Kd.int .i64))) (dm := Kd.fixed (Kd.slice 2 (Kd.int .i64)) w0) rfl (fun x cs hxk => (Kd.slice 2 (Kd.int .i64)).K_below hI.below hxk) (Kd.F_now hFe)
    have hc1 : W.cell? ⟨bt, 0, none⟩ = some (.slice (some adT) T.length cT) := by rw [← evT]; exact (blk_cell (hI.blk ⟨by have := hS.ltb; omega, by have := hS.lta; omega, by have := hS.lta; omega⟩ hS.bT) 0).trans rfl
    have hc2 : W.cell? ⟨ba + 1, 0, none⟩ = some (.slice Av images.length cv) := (blk_cell hI.img 0).trans rfl
    have hTz : (images.length : Int) < (T.length : Int) := by exact_mod_cast hTl
    have okn : okS b ba (b + 1) := ⟨by omega, by have := hS.le; omega, by have := hS.le; omega⟩
    have HCF := Aside0.mk fun (bb : Bool) (hbb : anyO (trivQ k n images) (T.getD images.length []) = some bb) => containsRows 2 80 #[.pointer (some ⟨b + 1, 0, none⟩), .pointer (some ⟨ba + 1, 0, none⟩)] (Go.Proofs.enters_of Try.func80 (by kernel_rfl) rfl) (trivQ k n images) Ae cce (T.getD images.length []) bb W hFe2
      (fun W' A c x b' _ hb' hrx hlx hq => growLit_calls k A c x n Av cv images b' (b + 1) (ba + 1) W' ((blk_cell ((hI.step hV hb').blk okn hS.bn) 0).trans rfl) ((blk_cell (hI.step hV hb').img 0).trans rfl) hrx hlx (Kd.N_reads' (hI.step hV hb').rows).2.2 (Kd.N_reads' (hI.step hV hb').rows).2.1 hq) hbb
    have HI := Aside0.mk hI
    have HV := Aside0.mk hV
    have HS := Aside0.mk hS
    have HIL := Aside0.mk (show images.length + (d + 1) = g ∧ g ≤ 24 from ⟨hd, hS.g24⟩)
    have HSG := Aside0.mk (show okS b ba (ba + 2) from ⟨by have := hS.le; omega, by omega, by omega⟩)
    have HSV := Aside0.mk (show okS b ba (b + 2) from ⟨by omega, by have := hS.le; omega, by have := hS.le; omega⟩)
    have HSP := Aside0.mk (show okS b ba b from ⟨by omega, by have := hS.le; omega, by have := hS.le; omega⟩)
    have HSA := Aside0.mk (show okS b ba ba from ⟨by have := hS.le; omega, by omega, by omega⟩)
    rw [growG] at h
    obtain ⟨bb, ha, h⟩ := Option.bind_eq_some_iff.mp h
    have HA := Aside0.mk ha
    cases bb with
    | true =>
      rw [if_pos rfl] at h
      obtain ⟨rfl, rfl⟩ := Prod.mk.inj (Option.some.inj h)
      clear hd hI h ha hvT hcel hFKe hce hFe hFe2 hle hTl okn hV hS evT ih
      go_enter Try.func78, Try.ntmps78
      go_wp2_with (go_at_call 79; refine (HCF.out _ HA.out).mono ?_; rintro e w1 ⟨rfl, hb1⟩; have HI1 := Aside0.mk (HI.out.step HV.out hb1); have hc2b : w1.cell? ⟨ba + 1, 0, none⟩ = some (.slice Av images.length cv) := (blk_cell HI1.out.img 0).trans rfl; have hcp : w1.cell? ⟨b, 0, none⟩ = some (.int .i64 (g : Int)) := (blk_cell (HI1.out.blk HSP.out HS.out.bp) 0).trans rfl; clear hb1 HCF HI hc1 hc2 hx hTz)
      go_ret
      exact ⟨rfl, _, _, HI1.out⟩
    | false =>
      rw [if_neg (by simp)] at h
      have H := Aside0.mk h
      have eg := Go.Proofs.enters_of Try.func78 (by kernel_rfl) rfl
      have ht : ((images.length : Int) == (g : Int)) = false := beq_eq_false_iff_ne.2 (by omega)
      obtain ⟨AA, cA, evA⟩ := Kd.V_slice hS.rowsA
      clear hd hI h ha hvT hcel hFKe hce hFe hFe2 hle hTl okn hV hS evT
      go_enter Try.func78, Try.ntmps78
      go_wp2_with (go_at_call 79; refine (HCF.out _ HA.out).mono ?_; rintro e w1 ⟨rfl, hb1⟩; have HI1 := Aside0.mk (HI.out.step HV.out hb1); have hc2b : w1.cell? ⟨ba + 1, 0, none⟩ = some (.slice Av images.length cv) := (blk_cell HI1.out.img 0).trans rfl; have hcp : w1.cell? ⟨b, 0, none⟩ = some (.int .i64 (g : Int)) := (blk_cell (HI1.out.blk HSP.out HS.out.bp) 0).trans rfl; clear hb1 HCF HI hc1 hc2 hx hTz)
      go_quiet ((go_at_call 82; exact Calls.quiet_of_same (size_rowsQ _ _ _ _)))
      have HI2 := Aside0.mk (HI1.out.step HV.out (pw_below_drewN (Below.refl _ w1) nq))
      have hcA : w1.cell? ⟨ba, 0, none⟩ = some (.slice AA all.length cA) := by rw [← evA]; exact (blk_cell (HI1.out.blk HSA.out HS.out.bA) 0).trans rfl
      have HEA := Aside0.mk evA
      clear HI1 evA
      go_wp2
      go_loopg [9, 10, 28] all.length (fun gg _ _ s28 wr => ∃ (kk : Nat) (sk : σ) (vk : Value) (Pfk : Nat → Prop), kk ≤ all.length ∧ all.length - kk ≤ gg ∧ s28 = .int .i64 kk ∧ Aside0 (GInv w0 Ws b ba J wr sk Pfk images vk) ∧ Aside0 (foldG (fun l s => growG k n T all vis d (images ++ [l]) s) (all.drop kk) sk = some (r, s')))
      case atStart => exact ⟨0, s, _, Pf, Nat.zero_le _, by omega, rfl, HI2, H⟩
      case round =>
        clear hc2b hcp hcA ht HI2 H HA
        obtain ⟨kk, sk, vk, Pfk, hkk, hg, rfl, HI, HF⟩ := hrel
        obtain ⟨Ax, cx, rfl⟩ := Kd.N_slice HI.out.rows
        by_cases hlt : kk < all.length
        · have hltz0 : (kk : Int) < (all.length : Int) := by omega
          have hF := HF.out
          rw [List.drop_eq_getElem_cons hlt] at hF
          obtain ⟨l, hl⟩ : ∃ l, l = all[kk] := ⟨_, rfl⟩
          rw [← hl] at hF
          rw [foldG] at hF
          obtain ⟨⟨b1, s1⟩, hg1, hF⟩ := Option.bind_eq_some_iff.mp hF
          have HG1 := Aside0.mk hg1
          have hvA := HI.out.vnow HS.out.rowsA
          rw [HEA.out] at hvA
          have hbigA : all.length ≤ 9223372036854775807 := (Kd.V_reads' hvA).2.2.2.1
          obtain ⟨adA, rfl, _⟩ := (Kd.V_reads' hvA).2.2.2.2 (by omega)
          obtain ⟨ce, hcel, hFKe, hce⟩ := Kd.V_get hvA [] (kk : Int) (Int.natCast_nonneg _) (by exact_mod_cast hlt)
          obtain ⟨Al, cl, rfl, hle, hFe⟩ := Kd.FK_slice_open hFKe
          have hgl : all.getD kk [] = l := by rw [hl]; simp [List.getD, List.getElem?_eq_getElem hlt]
          have hx := hce 0 _ rfl
          rw [show ((kk : Int)).toNat * (Kd.slice 2 (Kd.int .i64)).sz + 0 = kk by rw [Int.toNat_natCast, Nat.add_zero]; exact Nat.mul_one _] at hx
          rw [Int.toNat_natCast, hgl] at hx hle hFe
          have HLC := Aside0.mk hle
          have HFL := Aside0.mk hFe
          have hci : wr.cell? ⟨ba + 1, 0, none⟩ = some (.slice Ax images.length cx) := (blk_cell HI.out.img 0).trans rfl
          have hcg : wr.cell? ⟨ba + 2, 0, none⟩ = some (.func (.func 78) #[] #[.pointer (some ⟨bt, 0, none⟩), .pointer (some ⟨ba + 1, 0, none⟩), .pointer (some ⟨b + 1, 0, none⟩), .pointer (some ⟨b, 0, none⟩), .pointer (some ⟨b + 2, 0, none⟩), .pointer (some ⟨ba, 0, none⟩), .pointer (some ⟨ba + 2, 0, none⟩)]) := (blk_cell (HI.out.blk HSG.out HS.out.bg) 0).trans rfl
          cases b1 with
          | true =>
            have HF2 := Aside0.mk (show foldG (fun l s => growG k n T all vis d (images ++ [l]) s) (all.drop (kk + 1)) s1 = some (r, s') from (if_pos rfl).symm.trans hF)
            clear hl hF hg1 hvA hcel hFKe hce hle hFe hgl HF
            go_wp2_with (first | ((with_reducible refine gate_builtin (b := .append) (xs := #[.tmp 32, .tmp 34]) rfl ?_); at_builtin; refine Kd.N_append (Kd.slice 2 (Kd.int .i64)) (w0 := wr) b rfl (.tmp 32) (.tmp 34) 22 39 (.slice none 0 0) 24 rfl Try.underlying22 info39 rfl (by decide) (by omega) (.slice Ax images.length cx) images l [.slice Al l.length cl] (fun k => b ≤ k ∧ k ≠ ba + 1 ∧ ¬ Pfk k) (fun k => (b ≤ k ∧ k ≠ ba + 1 ∧ ¬ Pfk k) ∧ some k ≠ (Value.slice Ax images.length cx).ownBlock) rfl rfl ?aP (fun _ hk => hk) ?aF ?aO ?aB ?aS ?aL ?_; (case aP => exact Kd.FK_slice_mk HLC.out (Kd.F_mono HFL.out (fun k hk => ⟨⟨hk.1, hk.2.2, fun hp => HI.out.pf k hp ⟨hk.1, hk.2.1⟩⟩, fun he => by have h1_ := HI.out.own k he.symm; have h2_ := hk.2.1; omega⟩))); (case aF => exact (fun k hk => ⟨Nat.le_trans (by have := HS.out.le; omega) (Nat.le_trans HI.out.size hk), (by have := HI.out.size; omega), fun hp => by have := (HV.out.bound HI.out.st k hp).2; omega⟩)); (case aO => exact HI.out.rows); (case aB => exact Below.refl _ _); (case aS => have := HI.out.size; have := HS.out.le; omega); (case aL => have := HIL.out; omega); intro v1 w1 ho hb hg hat; obtain ⟨A1, c1, e1⟩ := Kd.N_slice ho; rw [List.length_append, List.length_singleton] at e1; subst e1; have HI2 := Aside0.mk (GInv.put HV.out HS.out.le0 HS.out.le HI.out hg hat ho); have hne_ : some (ba + 1) ≠ (Value.slice Ax images.length cx).ownBlock := (fun he => by have := HI.out.own _ he.symm; omega); have hne2_ : some (ba + 2) ≠ (Value.slice Ax images.length cx).ownBlock := (fun he => by have := HI.out.own _ he.symm; omega); have hcz : w1.cell? ⟨ba + 1, 0, none⟩ = some (.slice Ax images.length cx) := (blk_cell (blk_grown HI.out.img hg hne_) 0).trans rfl; have hfz : w1.frozen? ⟨ba + 1, 0, none⟩ = false := blk_frozen (blk_grown HI.out.img hg hne_) 0; have hcg1 : w1.cell? ⟨ba + 2, 0, none⟩ = some (.func (.func 78) #[] #[.pointer (some ⟨bt, 0, none⟩), .pointer (some ⟨ba + 1, 0, none⟩), .pointer (some ⟨b + 1, 0, none⟩), .pointer (some ⟨b, 0, none⟩), .pointer (some ⟨b + 2, 0, none⟩), .pointer (some ⟨ba, 0, none⟩), .pointer (some ⟨ba + 2, 0, none⟩)]) := (blk_cell (blk_grown (HI.out.blk HSG.out HS.out.bg) hg hne2_) 0).trans rfl; have hcg2 : (w1.setCell ⟨ba + 1, 0, none⟩ (.slice A1 (images.length + 1) c1)).cell? ⟨ba + 2, 0, none⟩ = some (.func (.func 78) #[] #[.pointer (some ⟨bt, 0, none⟩), .pointer (some ⟨ba + 1, 0, none⟩), .pointer (some ⟨b + 1, 0, none⟩), .pointer (some ⟨b, 0, none⟩), .pointer (some ⟨b + 2, 0, none⟩), .pointer (some ⟨ba, 0, none⟩), .pointer (some ⟨ba + 2, 0, none⟩)]) := (blk_cell (HI2.out.blk HSG.out HS.out.bg) 0).trans rfl; clear ho hb hg hat hne_ hne2_ hcg HI) | (go_at_call 78; have HIH := ih (images ++ [l]) sk (.slice A1 (images.length + 1) c1) Pfk (w1.setCell ⟨ba + 1, 0, none⟩ (.slice A1 (images.length + 1) c1)) _ s1 (by have := HIL.out; rw [List.length_append, List.length_singleton]; omega) HI2.out HG1.out; (with_reducible refine HIH.mono ?_); rintro e w3 ⟨rfl, v3, Pf3, I3⟩; obtain ⟨A3, c3, e3⟩ := Kd.N_slice I3.rows; rw [List.length_append, List.length_singleton] at e3; subst e3; have HI3 := Aside0.mk I3; have hcy : w3.cell? ⟨ba + 1, 0, none⟩ = some (.slice A3 (images.length + 1) c3) := (blk_cell I3.img 0).trans rfl; have hfy : w3.frozen? ⟨ba + 1, 0, none⟩ = false := blk_frozen I3.img 0; have hm0 : (0 : Int) ≤ (images.length : Int) := Int.natCast_nonneg _; have hm1 : (images.length : Int) ≤ (c3 : Int) := (by have := (Kd.N_reads' I3.rows).2.1; omega); have hm2 : (images.length : Int) ≤ 24 := (by have := HIL.out; omega); clear I3 HIH HI2 hcg1 hcg2 hcz hfz))
            go_roundg (all.length - (kk + 1))
            case measure => omega
            case rel => exact ⟨kk + 1, s1, _, Pf3, by omega, by omega, by go_num, ⟨GInv.cut HV.out HS.out.le0 HS.out.le rfl HI3.out⟩, HF2⟩
          | false =>
            have HF2 := Aside0.mk (Prod.mk.inj (Option.some.inj ((if_neg (by simp)).symm.trans hF)))
            clear hl hF hg1 hvA hcel hFKe hce hle hFe hgl HF
            go_wp2_with (first | ((with_reducible refine gate_builtin (b := .append) (xs := #[.tmp 32, .tmp 34]) rfl ?_); at_builtin; refine Kd.N_append (Kd.slice 2 (Kd.int .i64)) (w0 := wr) b rfl (.tmp 32) (.tmp 34) 22 39 (.slice none 0 0) 24 rfl Try.underlying22 info39 rfl (by decide) (by omega) (.slice Ax images.length cx) images l [.slice Al l.length cl] (fun k => b ≤ k ∧ k ≠ ba + 1 ∧ ¬ Pfk k) (fun k => (b ≤ k ∧ k ≠ ba + 1 ∧ ¬ Pfk k) ∧ some k ≠ (Value.slice Ax images.length cx).ownBlock) rfl rfl ?aP (fun _ hk => hk) ?aF ?aO ?aB ?aS ?aL ?_; (case aP => exact Kd.FK_slice_mk HLC.out (Kd.F_mono HFL.out (fun k hk => ⟨⟨hk.1, hk.2.2, fun hp => HI.out.pf k hp ⟨hk.1, hk.2.1⟩⟩, fun he => by have h1_ := HI.out.own k he.symm; have h2_ := hk.2.1; omega⟩))); (case aF => exact (fun k hk => ⟨Nat.le_trans (by have := HS.out.le; omega) (Nat.le_trans HI.out.size hk), (by have := HI.out.size; omega), fun hp => by have := (HV.out.bound HI.out.st k hp).2; omega⟩)); (case aO => exact HI.out.rows); (case aB => exact Below.refl _ _); (case aS => have := HI.out.size; have := HS.out.le; omega); (case aL => have := HIL.out; omega); intro v1 w1 ho hb hg hat; obtain ⟨A1, c1, e1⟩ := Kd.N_slice ho; rw [List.length_append, List.length_singleton] at e1; subst e1; have HI2 := Aside0.mk (GInv.put HV.out HS.out.le0 HS.out.le HI.out hg hat ho); have hne_ : some (ba + 1) ≠ (Value.slice Ax images.length cx).ownBlock := (fun he => by have := HI.out.own _ he.symm; omega); have hne2_ : some (ba + 2) ≠ (Value.slice Ax images.length cx).ownBlock := (fun he => by have := HI.out.own _ he.symm; omega); have hcz : w1.cell? ⟨ba + 1, 0, none⟩ = some (.slice Ax images.length cx) := (blk_cell (blk_grown HI.out.img hg hne_) 0).trans rfl; have hfz : w1.frozen? ⟨ba + 1, 0, none⟩ = false := blk_frozen (blk_grown HI.out.img hg hne_) 0; have hcg1 : w1.cell? ⟨ba + 2, 0, none⟩ = some (.func (.func 78) #[] #[.pointer (some ⟨bt, 0, none⟩), .pointer (some ⟨ba + 1, 0, none⟩), .pointer (some ⟨b + 1, 0, none⟩), .pointer (some ⟨b, 0, none⟩), .pointer (some ⟨b + 2, 0, none⟩), .pointer (some ⟨ba, 0, none⟩), .pointer (some ⟨ba + 2, 0, none⟩)]) := (blk_cell (blk_grown (HI.out.blk HSG.out HS.out.bg) hg hne2_) 0).trans rfl; have hcg2 : (w1.setCell ⟨ba + 1, 0, none⟩ (.slice A1 (images.length + 1) c1)).cell? ⟨ba + 2, 0, none⟩ = some (.func (.func 78) #[] #[.pointer (some ⟨bt, 0, none⟩), .pointer (some ⟨ba + 1, 0, none⟩), .pointer (some ⟨b + 1, 0, none⟩), .pointer (some ⟨b, 0, none⟩), .pointer (some ⟨b + 2, 0, none⟩), .pointer (some ⟨ba, 0, none⟩), .pointer (some ⟨ba + 2, 0, none⟩)]) := (blk_cell (HI2.out.blk HSG.out HS.out.bg) 0).trans rfl; clear ho hb hg hat hne_ hne2_ hcg HI) | (go_at_call 78; have HIH := ih (images ++ [l]) sk (.slice A1 (images.length + 1) c1) Pfk (w1.setCell ⟨ba + 1, 0, none⟩ (.slice A1 (images.length + 1) c1)) _ s1 (by have := HIL.out; rw [List.length_append, List.length_singleton]; omega) HI2.out HG1.out; (with_reducible refine HIH.mono ?_); rintro e w3 ⟨rfl, v3, Pf3, I3⟩; obtain ⟨A3, c3, e3⟩ := Kd.N_slice I3.rows; rw [List.length_append, List.length_singleton] at e3; subst e3; have HI3 := Aside0.mk I3; have hcy : w3.cell? ⟨ba + 1, 0, none⟩ = some (.slice A3 (images.length + 1) c3) := (blk_cell I3.img 0).trans rfl; have hfy : w3.frozen? ⟨ba + 1, 0, none⟩ = false := blk_frozen I3.img 0; have hm0 : (0 : Int) ≤ (images.length : Int) := Int.natCast_nonneg _; have hm1 : (images.length : Int) ≤ (c3 : Int) := (by have := (Kd.N_reads' I3.rows).2.1; omega); have hm2 : (images.length : Int) ≤ 24 := (by have := HIL.out; omega); clear I3 HIH HI2 hcg1 hcg2 hcz hfz))
            go_ret
            have hr := HF2.out.1
            have hs := HF2.out.2
            try simp only at hr hs
            subst hr
            subst hs
            exact ⟨rfl, _, Pf3, GInv.cut HV.out HS.out.le0 HS.out.le rfl HI3.out⟩
        · have hltz0 : ¬ (kk : Int) < (all.length : Int) := by omega
          have hF := HF.out
          rw [List.drop_of_length_le (by omega)] at hF
          obtain ⟨hr, hs⟩ := Prod.mk.inj (Option.some.inj hF)
          have HRS := Aside0.mk (And.intro hr hs)
          clear hF hr hs
          go_wp2
          go_ret
          obtain ⟨rfl, rfl⟩ := HRS.out
          exact ⟨rfl, _, Pfk, HI.out⟩
/-- The greatest generator of a word. -/
def lastN : List Int → Nat → Nat
  | [], m => m
  | a :: t, m => lastN t (max m a.natAbs)
/-- The relators, each among those that are tested as soon as all its generators have permutations. -/
def testsN : List (List Int) → List (List (List Int)) → List (List (List Int))
  | [], T => T
  | x :: t, T => testsN t (T.set (lastN x 0) (T.getD (lastN x 0) [] ++ [x]))
theorem lastN_le (g : Nat) : ∀ (x : List Int) (m : Nat), m ≤ g → (∀ a ∈ x, a.natAbs ≤ g) → lastN x m ≤ g
  | [], m, hm, _ => hm
  | a :: t, m, hm, h => lastN_le g t (max m a.natAbs) (Nat.max_le.2 ⟨hm, h a (List.mem_cons_self ..)⟩) (fun q hq => h q (List.mem_cons_of_mem _ hq))
theorem reps_abs (x : Int) (h : x.natAbs ≤ 1000) : impl_abs.f x = some (x.natAbs : Int) := by
  unfold impl_abs.f
  split
  · exact congrArg some (by simp only [wrap64]; omega)
  · exact congrArg some (by omega)
theorem reps_drop (x : List Int) (j : Nat) (h : j < x.length) : x.drop j = rd x (j : Int) :: x.drop (j + 1) := by
  rw [List.drop_eq_getElem_cons h]
  congr 1
  simp [rd, List.getElem?_eq_getElem h]
theorem reps_set (T : List (List (List Int))) (m : Nat) (x : List Int) (k : Nat) (h : ∀ i, (T.getD i []).length ≤ k) (i : Nat) : ((T.set m (T.getD m [] ++ [x])).getD i []).length ≤ k + 1 := by
  rw [List.getD_eq_getElem?_getD, List.getElem?_set]
  have h1 := h m
  have h2 := h i
  rw [List.getD_eq_getElem?_getD] at h2
  split
  · split
    · simp only [Option.getD_some, List.length_append, List.length_singleton]
      omega
    · simp
  · omega
structure TInv (w0 W1 W : World) (b bt gT cT : Nat) (T : List (List (List Int))) : Prop where
  bel : Below W1.heap.size W1 W
  bT : W.heap[bt]? = some (.cells #[.slice (some ⟨gT, 0, none⟩) T.length cT] 61 (0, 0))
  lt : b + 4 ≤ bt
  gb : b + 3 ≤ gT
  gn : gT ≠ bt
  rows : Kd.S (Kd.slice 39 (Kd.fixed (Kd.slice 2 (Kd.int .i64)) w0)) 22 W (b + 3) (fun k => k ≠ bt) (.slice (some ⟨gT, 0, none⟩) T.length cT) T
section
variable {w0 W1 W W2 w1 : World} {b bt gT cT : Nat} {T : List (List (List Int))}
theorem TInv.start {T0 : List (List (List Int))} (hW1 : W1.heap.size = b + 3) (hS : Kd.S (Kd.slice 39 (Kd.fixed (Kd.slice 2 (Kd.int .i64)) w0)) 22 w1 W1.heap.size (fun _ => True) (.slice (some ⟨gT, 0, none⟩) T0.length cT) T0) (hb : Below W1.heap.size W1 w1) (hgb : W1.heap.size ≤ gT) (hgl : gT < w1.heap.size) :
    TInv w0 W1 (w1.alloc (.cells #[.slice (some ⟨gT, 0, none⟩) T0.length cT] 61)) b w1.heap.size gT cT T0 := by
  refine ⟨below_alloc hb _, heap_alloc_new w1 _, by omega, by omega, by omega, ?_⟩
  rw [← hW1]
  exact Kd.S_alloc (Kd.S_mono (Kd.S_bound hS) (fun k hk => by have := hk.2.2.1; omega)) _
theorem TInv.old {w : World} (hB : Below w0.heap.size w0 w) (hF : Below w.heap.size w W1) (h : TInv w0 W1 W b bt gT cT T) : Below w0.heap.size w0 W := below_then (below_then hB (below_size hB) hF) (Nat.le_trans (below_size hB) (below_size hF)) h.bel
theorem TInv.step (h : TInv w0 W1 W b bt gT cT T) (hb : Below W.heap.size W W2) : TInv w0 W1 W2 b bt gT cT T :=
  ⟨below_then h.bel (below_size h.bel) hb, (hb.block _ (blk_lt h.bT)).trans h.bT, h.lt, h.gb, h.gn, Kd.S_below h.rows hb⟩
theorem TInv.kept {m : Nat} {y : List (List Int)} (h : TInv w0 W1 W b bt gT cT (T.set m y)) : W.cell? ⟨bt, 0, none⟩ = some (.slice (some ⟨gT, 0, none⟩) T.length cT) := by
  have h1 := (blk_cell h.bT 0).trans rfl
  rwa [List.length_set] at h1
theorem TInv.lend (h : TInv w0 W1 W b bt gT cT T) (i : Nat) (hi : i < T.length) : ∃ (oki : Nat → Prop) (A : Option Addr) (c : Nat), W.cell? ⟨gT, i, none⟩ = some (.slice A (T.getD i []).length c) ∧ W.frozen? ⟨gT, i, none⟩ = false ∧ (Kd.fixed (Kd.slice 2 (Kd.int .i64)) w0).R 39 W (b + 3) oki (.slice A (T.getD i []).length c) (T.getD i []) ∧
    Kd.H (Kd.slice 39 (Kd.fixed (Kd.slice 2 (Kd.int .i64)) w0)) 22 W (b + 3) (fun k => k ≠ bt) (.slice (some ⟨gT, 0, none⟩) T.length cT) T (i : Int) oki [.slice A (T.getD i []).length c] ∧ ∀ k, oki k → k ≠ bt ∧ k ≠ gT := by
  obtain ⟨oki, c, _, hM, hcc, hfr, hoki, hH⟩ := Kd.S_elem h.rows [] (i : Int) (Int.natCast_nonneg _) (by exact_mod_cast hi)
  obtain ⟨v, rfl, hR⟩ := hM
  rw [Int.toNat_natCast] at hR hcc hfr
  obtain ⟨A, cc, rfl⟩ := Kd.R_slice hR
  have e1 : i * ((Kd.slice 39 (Kd.fixed (Kd.slice 2 (Kd.int .i64)) w0))).sz + 0 = i := by rw [Nat.add_zero]; exact Nat.mul_one _
  have h1 := hcc 0 _ rfl
  have h2 := hfr 0
  rw [e1] at h1 h2
  exact ⟨oki, A, cc, h1, h2, hR, hH, hoki⟩
theorem TInv.put (hW1 : W1.heap.size = b + 3) (h : TInv w0 W1 W b bt gT cT T) {i : Nat} (hi : i < T.length) {oki : Nat → Prop} {u v1 : Value} {x : List (List Int)} (hok : ∀ k, oki k → k ≠ bt ∧ k ≠ gT) (hu : ∀ k, u.ownBlock = some k → oki k) (hub : ∀ k, u.ownBlock = some k → b + 3 ≤ k)
    (hH : Kd.H (Kd.slice 39 (Kd.fixed (Kd.slice 2 (Kd.int .i64)) w0)) 22 W (b + 3) (fun k => k ≠ bt) (.slice (some ⟨gT, 0, none⟩) T.length cT) T (i : Int) oki [u]) (hg : W.grownBy w1 u.ownBlock) (hR : (Kd.fixed (Kd.slice 2 (Kd.int .i64)) w0).R 39 w1 (b + 3) (fun k => oki k ∨ k ≠ bt ∧ W.heap.size ≤ k) v1 x) :
    TInv w0 W1 (w1.setCell ⟨gT, i, none⟩ v1) b bt gT cT (T.set i x) := by
  have hlt := blk_lt h.bT
  have hH2 := Kd.H_grown (Kd.H_widen hH) hg (fun k hk => .inl (hu k hk))
  have hS := (Kd.S_seg0 hH2 (Int.natCast_nonneg _) (by exact_mod_cast hi) (seg := [v1]) (j := 0) (Nat.le_refl _) (x' := x) (okp := fun k => oki k ∨ k ≠ bt ∧ W.heap.size ≤ k) ⟨v1, rfl, hR⟩ (fun _ hk => hk)).1
  rw [Int.toNat_natCast, show i * ((Kd.slice 39 (Kd.fixed (Kd.slice 2 (Kd.int .i64)) w0))).sz + 0 = i by rw [Nat.add_zero]; exact Nat.mul_one _] at hS
  refine ⟨below_set (pw_below_grown h.bel u.ownBlock (below_size h.bel) hg (fun k hk => by rw [hW1]; exact hub k hk)) (by rw [hW1]; exact h.gb), ?_, h.lt, h.gb, h.gn, ?_⟩
  · rw [List.length_set]
    exact blk_far (p := ⟨gT, i, none⟩) (blk_grown h.bT hg (fun he => (hok bt (hu bt he.symm)).1 rfl)) (fun he => h.gn he.symm) v1
  · rw [List.length_set]
    exact hS
end
def repsW (w : World) (g : Nat) (n : Int) (pr vf : Value) : World := ((w.alloc (.cells #[.int .i64 (g : Int), pr] 28)).alloc (.cells #[.int .i64 n] 2)).alloc (.cells #[vf] 66)
theorem repsW_facts (w : World) (g : Nat) (n : Int) (pr vf : Value) : (repsW w g n pr vf).heap[w.heap.size]? = some (.cells #[.int .i64 (g : Int), pr] 28 (0, 0)) ∧ (repsW w g n pr vf).heap[w.heap.size + 1]? = some (.cells #[.int .i64 n] 2 (0, 0)) ∧ (repsW w g n pr vf).heap[w.heap.size + 2]? = some (.cells #[vf] 66 (0, 0)) ∧ Below w.heap.size w (repsW w g n pr vf) ∧ (repsW w g n pr vf).heap.size = w.heap.size + 3 := by
  have h1 := heap_alloc_new w (.cells #[.int .i64 (g : Int), pr] 28)
  have b1 := below_alloc (Below.refl _ (w.alloc (.cells #[.int .i64 (g : Int), pr] 28))) (.cells #[.int .i64 n] 2)
  have h2 := heap_alloc_new (w.alloc (.cells #[.int .i64 (g : Int), pr] 28)) (.cells #[.int .i64 n] 2)
  have b2 := below_alloc (Below.refl _ ((w.alloc (.cells #[.int .i64 (g : Int), pr] 28)).alloc (.cells #[.int .i64 n] 2))) (.cells #[vf] 66)
  have h3 := heap_alloc_new ((w.alloc (.cells #[.int .i64 (g : Int), pr] 28)).alloc (.cells #[.int .i64 n] 2)) (.cells #[vf] 66)
  have s1 : (w.alloc (.cells #[.int .i64 (g : Int), pr] 28)).heap.size = w.heap.size + 1 := by simp
  have s2 : ((w.alloc (.cells #[.int .i64 (g : Int), pr] 28)).alloc (.cells #[.int .i64 n] 2)).heap.size = w.heap.size + 1 + 1 := by simp
  rw [s1] at h2
  rw [s2] at h3
  exact ⟨(b2.block _ (by omega)).trans ((b1.block _ (by omega)).trans h1), (b2.block _ (by omega)).trans h2, h3, below_alloc (below_alloc (below_alloc (Below.refl _ _) _) _) _, by simp [repsW]⟩
def repsV (w : World) (vA : Value) : World := ((w.alloc (.cells #[vA] 22)).alloc (.cells #[.slice none 0 0] 22)).alloc (.cells #[.nilFunc] 88)
theorem repsV_facts (w : World) (vA : Value) : (repsV w vA).heap[w.heap.size]? = some (.cells #[vA] 22 (0, 0)) ∧ (repsV w vA).heap[w.heap.size + 1]? = some (.cells #[.slice none 0 0] 22 (0, 0)) ∧ (repsV w vA).heap[w.heap.size + 2]? = some (.cells #[.nilFunc] 88 (0, 0)) ∧ Below w.heap.size w (repsV w vA) := by
  have h1 := heap_alloc_new w (.cells #[vA] 22)
  have b1 := below_alloc (Below.refl _ (w.alloc (.cells #[vA] 22))) (.cells #[.slice none 0 0] 22)
  have h2 := heap_alloc_new (w.alloc (.cells #[vA] 22)) (.cells #[.slice none 0 0] 22)
  have b2 := below_alloc (Below.refl _ ((w.alloc (.cells #[vA] 22)).alloc (.cells #[.slice none 0 0] 22))) (.cells #[.nilFunc] 88)
  have h3 := heap_alloc_new ((w.alloc (.cells #[vA] 22)).alloc (.cells #[.slice none 0 0] 22)) (.cells #[.nilFunc] 88)
  have s1 : (w.alloc (.cells #[vA] 22)).heap.size = w.heap.size + 1 := by simp
  have s2 : ((w.alloc (.cells #[vA] 22)).alloc (.cells #[.slice none 0 0] 22)).heap.size = w.heap.size + 1 + 1 := by simp
  rw [s1] at h2
  rw [s2] at h3
  exact ⟨(b2.block _ (by omega)).trans ((b1.block _ (by omega)).trans h1), (b2.block _ (by omega)).trans h2, h3, below_alloc (below_alloc (below_alloc (Below.refl _ _) _) _) _⟩
theorem reps_start {σ : Type} {J : σ → World → (Nat → Prop) → Prop} {lbv : Array Value} {vis : List (List Int) → σ → Option (Bool × σ)} {w0 w W4 w5 : World} {gv b bt gT cT g : Nat} {n : Int} {pr vf vA : Value} {T : List (List (List Int))} {all : List (List Int)} {s : σ} {Pf : Nat → Prop} (hV : Vis w0 gv lbv vis J)
    (hb : w.heap.size = b) (hB : Below w0.heap.size w0 w) (hJ : J s w Pf) (hg : g ≤ 24) (hTl : T.length = g + 1) (hT : TInv w0 (repsW w g n pr vf) W4 b bt gT cT T) (h5 : Below W4.heap.size W4 w5) (hN : Kd.N (Kd.slice 2 (Kd.int .i64)) 39 w5 W4.heap.size (fun k => W4.heap.size ≤ k) vA all) (ba : Nat) (hba : w5.heap.size = ba) :
    RStat w0 ((repsV w5 vA).setCell ⟨ba + 2, 0, none⟩ (.func (.func 78) #[] #[.pointer (some ⟨bt, 0, none⟩), .pointer (some ⟨ba + 1, 0, none⟩), .pointer (some ⟨b + 1, 0, none⟩), .pointer (some ⟨b, 0, none⟩), .pointer (some ⟨b + 2, 0, none⟩), .pointer (some ⟨ba, 0, none⟩), .pointer (some ⟨ba + 2, 0, none⟩)])) b bt ba g n pr vf (.slice (some ⟨gT, 0, none⟩) T.length cT) vA T all ∧ GInv w0 ((repsV w5 vA).setCell ⟨ba + 2, 0, none⟩ (.func (.func 78) #[] #[.pointer (some ⟨bt, 0, none⟩), .pointer (some ⟨ba + 1, 0, none⟩), .pointer (some ⟨b + 1, 0, none⟩), .pointer (some ⟨b, 0, none⟩), .pointer (some ⟨b + 2, 0, none⟩), .pointer (some ⟨ba, 0, none⟩), .pointer (some ⟨ba + 2, 0, none⟩)])) b ba J ((repsV w5 vA).setCell ⟨ba + 2, 0, none⟩ (.func (.func 78) #[] #[.pointer (some ⟨bt, 0, none⟩), .pointer (some ⟨ba + 1, 0, none⟩), .pointer (some ⟨b + 1, 0, none⟩), .pointer (some ⟨b, 0, none⟩), .pointer (some ⟨b + 2, 0, none⟩), .pointer (some ⟨ba, 0, none⟩), .pointer (some ⟨ba + 2, 0, none⟩)])) s Pf [] (.slice none 0 0) := by
  subst hb
  subst hba
  obtain ⟨p1, p2, p3, pB, pz⟩ := repsW_facts w g n pr vf
  obtain ⟨q1, q2, q3, qB⟩ := repsV_facts w5 vA
  have hbt := blk_lt hT.bT
  have h45 := below_size h5
  have hle0 := below_size hB
  have B15 : Below (repsW w g n pr vf).heap.size (repsW w g n pr vf) (repsV w5 vA) := below_then (below_then hT.bel (below_size hT.bel) h5) (by have := below_size hT.bel; omega) qB
  have hW1 : ∀ {k : Nat} {ob : Obj}, (repsW w g n pr vf).heap[k]? = some ob → ((repsV w5 vA).setCell ⟨w5.heap.size + 2, 0, none⟩ (.func (.func 78) #[] #[.pointer (some ⟨bt, 0, none⟩), .pointer (some ⟨w5.heap.size + 1, 0, none⟩), .pointer (some ⟨w.heap.size + 1, 0, none⟩), .pointer (some ⟨w.heap.size, 0, none⟩), .pointer (some ⟨w.heap.size + 2, 0, none⟩), .pointer (some ⟨w5.heap.size, 0, none⟩), .pointer (some ⟨w5.heap.size + 2, 0, none⟩)])).heap[k]? = some ob := fun {k ob} hk => (Below.heap_setCell _ _ _ k (by have h1_ := blk_lt hk; have h2_ := below_size hT.bel; show k ≠ w5.heap.size + 2; omega)).trans ((B15.block k (blk_lt hk)).trans hk)
  have h4s : ∀ k, k < W4.heap.size → ((repsV w5 vA).setCell ⟨w5.heap.size + 2, 0, none⟩ (.func (.func 78) #[] #[.pointer (some ⟨bt, 0, none⟩), .pointer (some ⟨w5.heap.size + 1, 0, none⟩), .pointer (some ⟨w.heap.size + 1, 0, none⟩), .pointer (some ⟨w.heap.size, 0, none⟩), .pointer (some ⟨w.heap.size + 2, 0, none⟩), .pointer (some ⟨w5.heap.size, 0, none⟩), .pointer (some ⟨w5.heap.size + 2, 0, none⟩)])).heap[k]? = W4.heap[k]? := fun k hk => (Below.heap_setCell _ _ _ k (by show k ≠ w5.heap.size + 2; omega)).trans ((qB.block k (by omega)).trans (h5.block k hk))
  have h5s : ∀ k, k < w5.heap.size → ((repsV w5 vA).setCell ⟨w5.heap.size + 2, 0, none⟩ (.func (.func 78) #[] #[.pointer (some ⟨bt, 0, none⟩), .pointer (some ⟨w5.heap.size + 1, 0, none⟩), .pointer (some ⟨w.heap.size + 1, 0, none⟩), .pointer (some ⟨w.heap.size, 0, none⟩), .pointer (some ⟨w.heap.size + 2, 0, none⟩), .pointer (some ⟨w5.heap.size, 0, none⟩), .pointer (some ⟨w5.heap.size + 2, 0, none⟩)])).heap[k]? = w5.heap[k]? := fun k hk => (Below.heap_setCell _ _ _ k (by show k ≠ w5.heap.size + 2; omega)).trans (qB.block k hk)
  have hlt := hT.lt
  have hbz : Below w0.heap.size w0 ((repsV w5 vA).setCell ⟨w5.heap.size + 2, 0, none⟩ (.func (.func 78) #[] #[.pointer (some ⟨bt, 0, none⟩), .pointer (some ⟨w5.heap.size + 1, 0, none⟩), .pointer (some ⟨w.heap.size + 1, 0, none⟩), .pointer (some ⟨w.heap.size, 0, none⟩), .pointer (some ⟨w.heap.size + 2, 0, none⟩), .pointer (some ⟨w5.heap.size, 0, none⟩), .pointer (some ⟨w5.heap.size + 2, 0, none⟩)])) := below_set (below_then (below_then hB hle0 pB) (by omega) B15) (by omega)
  refine ⟨⟨hle0, by omega, by omega, by omega, hg, hTl, hW1 p1, hW1 p2, hW1 p3, (h4s bt hbt).trans hT.bT, blk_far (p := ⟨w5.heap.size + 2, 0, none⟩) q1 (by show w5.heap.size ≠ w5.heap.size + 2; omega) _, (blk_set q3 0 _).trans rfl, ?_, ?_⟩, ⟨hbz, fun _ _ => rfl, ?_, blk_far (p := ⟨w5.heap.size + 2, 0, none⟩) q2 (by show w5.heap.size + 1 ≠ w5.heap.size + 2; omega) _, Kd.N_nil _ _ _ _ _, fun k hk => by simp [Value.ownBlock] at hk, ?_, fun k hk h2 => ?_, by omega⟩⟩
  · refine Kd.V_mono (Kd.V_step (Kd.V_bound (Kd.S_V (base' := w.heap.size) (Kd.S_bound hT.rows))) (fun k hk _ => h4s k hk.2)) (fun k hk => ⟨?_, ?_, ?_⟩)
    · have := hk.1.2.1
      omega
    · have := hk.2
      omega
    · have := hk.2
      omega
  · refine Kd.V_mono (Kd.V_step (Kd.V_bound (Kd.N_V (base' := w.heap.size) hN)) (fun k hk _ => h5s k hk.2)) (fun k hk => ⟨?_, ?_, ?_⟩)
    · have := hk.1
      omega
    · have := hk.2
      omega
    · have := hk.2
      omega
  · have := blk_lt q3
    simp only [World.setCell, Array.size_modify]
    omega
  · refine hV.kept hJ ?_ (fun k hk => ?_)
    · have h1_ := blk_lt q3
      simp only [World.setCell, Array.size_modify]
      omega
    · have h2_ := (hV.bound hJ k hk).2
      exact (h4s k (by omega)).trans ((hT.bel.block k (by omega)).trans (pB.block k h2_))
  · have := (hV.bound hJ k hk).2
    omega
set_option maxHeartbeats 8000000 in
set_option maxRecDepth 100000 in
theorem impl_representations.calls {σ : Type} {J : σ → World → (Nat → Prop) → Prop} {lbv : Array Value} {vis : List (List Int) → σ → Option (Bool × σ)} {w0 : World} {gv : Nat} (hV : Vis w0 gv lbv vis J) (k g : Nat) (n : Int) (A : Option Addr) (c : Nat) (rels : List (List Int)) (s s' : σ) (r : Bool) (Pf : Nat → Prop) (w : World)
    (hB : Below w0.heap.size w0 w) (hJ : J s w Pf) (hr : Kd.C (Kd.slice 2 (Kd.int .i64)) w0 A rels.length rels) (hc : rels.length ≤ c) (hg : g ≤ 24) (hn : 1 ≤ n ∧ n ≤ 4) (hrl : rels.length ≤ 48) (hlet : ∀ x ∈ rels, ∀ a ∈ x, a.natAbs ≤ g)
    (h : growG k n (testsN rels (List.replicate (g + 1) [])) (permsF n.toNat n.toNat [] []) vis g [] s = some (r, s')) :
    Calls Try.prog 42 #[.agg #[.int .i64 (g : Int), .slice A rels.length c], .int .i64 n, .func (.func gv) #[] lbv] w fun e w' => e = .returned (.tuple #[]) ∧ ∃ Pf', J s' w' Pf' ∧ Below w0.heap.size w0 w' := by
  obtain ⟨W1, hW1⟩ : ∃ W1, W1 = repsW w g n (.slice A rels.length c) (.func (.func gv) #[] lbv) := ⟨_, rfl⟩
  obtain ⟨b, hbw⟩ : ∃ b, b = w.heap.size := ⟨_, rfl⟩
  have HF := Aside0.mk (repsW_facts w g n (.slice A rels.length c) (.func (.func gv) #[] lbv))
  rw [← hW1, ← hbw] at HF
  have hg1 : ((g : Int) + 1).toNat = g + 1 := by omega
  have hc1 : W1.cell? ⟨b, 0, none⟩ = some (.int .i64 (g : Int)) := (blk_cell HF.out.1 0).trans rfl
  have hc2 : W1.cell? ⟨b, 1, none⟩ = some (.slice A rels.length c) := (blk_cell HF.out.1 1).trans rfl
  have hc3 : W1.cell? ⟨b + 1, 0, none⟩ = some (.int .i64 n) := (blk_cell HF.out.2.1 0).trans rfl
  obtain ⟨T0, hT0⟩ : ∃ T0 : List (List (List Int)), T0 = List.replicate (g + 1) [] := ⟨_, rfl⟩
  rw [← hT0] at h
  have HT0 := Aside0.mk hT0
  clear hT0
  have HH := Aside0.mk h
  have HBW := Aside0.mk hB
  have HJ := Aside0.mk hJ
  have HR := Aside0.mk hr
  have HV := Aside0.mk hV
  have HLT := Aside0.mk hlet
  have HW1 := Aside0.mk hW1
  have HBB := Aside0.mk hbw
  clear h hB hJ hr hV hlet
  go_enter Try.func42, Try.ntmps42
  go_upto_region 1 with (fail)
  change Code.wp Try.prog _ _ _ (repsW w g n (.slice A rels.length c) (.func (.func gv) #[] lbv))
  rw [← hW1]
  try rw [← hbw]
  clear hW1 hbw
  go_upto_region 2 with ((with_reducible refine gate_dst (N := 18) rfl ?_); refine Kd.S_make (Kd.slice 39 (Kd.fixed (Kd.slice 2 (Kd.int .i64)) w0)) (w0 := W1) (W1.heap.size) 22 rfl (N := 18) rfl 61 _ _ rfl ((g : Int) + 1) rfl rfl Try.underlying61 (.slice none 0 0) 24 info22 rfl Nat.one_pos (by omega) [] (ok := fun _ => True) (okp := fun _ => True) ⟨_, rfl, Kd.R_nil _ _ _ _ _⟩ (fun _ hk => hk) trivial (by omega) (by omega) (Below.refl _ _) (Nat.le_refl _) ?_; intro v1 w1 ho hb hg_ hnew; clear hg_ hnew; rw [hg1, ← HT0.out] at ho; obtain ⟨gT, cT, e1, hgb, hgl, _⟩ := Kd.S_form ho (by rw [HT0.out, List.length_replicate]; omega); subst e1; have HS1 := Aside0.mk ho; have HB1 := Aside0.mk (And.intro hb (And.intro hgb hgl)); clear ho hb hgb hgl)
  have HT := Aside0.mk (TInv.start (w0 := w0) HF.out.2.2.2.2 HS1.out HB1.out.1 HB1.out.2.1 HB1.out.2.2)
  have HT0L : Aside0 (T0.length = g + 1) ∧ Aside0 (∀ i, (T0.getD i []).length ≤ 0) := ⟨⟨by rw [HT0.out, List.length_replicate]⟩, ⟨fun i => by rw [HT0.out, List.getD_eq_getElem?_getD, List.getElem?_replicate]; split <;> simp⟩⟩
  obtain ⟨bt, hbt⟩ : ∃ bt, bt = w1.heap.size := ⟨_, rfl⟩
  rw [← hbt] at HT ⊢
  clear HS1 HB1 hbt HT0 hc1 hc2 hc3 hg1
  generalize w1.alloc (.cells #[.slice (some ⟨gT, 0, none⟩) T0.length cT] 61) = W2 at *
  have hc2 : W2.cell? ⟨b, 1, none⟩ = some (.slice A rels.length c) := (blk_cell ((HT.out.bel.block b (by have := HF.out.2.2.2.2; omega)).trans HF.out.1) 1).trans rfl
  go_wp2
  clear hc2
  go_loopg [8, 9, 11, 22] rels.length (fun gg _ _ _ s22 wr => ∃ (kk : Nat) (T : List (List (List Int))), kk ≤ rels.length ∧ rels.length - kk ≤ gg ∧ s22 = .int .i64 kk ∧ Aside0 (TInv w0 W1 wr b bt gT cT T) ∧ Aside0 (testsN (rels.drop kk) T = testsN rels T0) ∧ Aside0 (T.length = g + 1) ∧ Aside0 (∀ i, (T.getD i []).length ≤ kk))
  case atStart => exact ⟨0, T0, Nat.zero_le _, by omega, rfl, HT, ⟨rfl⟩, HT0L.1, HT0L.2⟩
  case round =>
    clear HT HT0L
    obtain ⟨kk, T, hkk, hgg, rfl, HI, HTs, HTL, HRL0⟩ := hrel
    by_cases hlt : kk < rels.length
    · have hltz : (kk : Int) < (rels.length : Int) := by omega
      obtain ⟨ad, A', c', e, hx0, hle, hrow⟩ := Kd.at_row HR.out kk hlt
      cases e
      have hBr : Below w0.heap.size w0 wr := TInv.old HBW.out (by have := HF.out.2.2.2.1; rw [HBB.out] at this; exact this) HI.out
      have hx : wr.cell? (ad.add kk) = some (.slice A' rels[kk].length c') := (hBr.cell (World.block_lt_of_cell? w0 _ hx0)).trans hx0
      have HROW := Aside0.mk hrow
      have HLE := Aside0.mk hle
      have HLX := Aside0.mk (show ∀ a ∈ rels[kk], a.natAbs ≤ g from HLT.out _ (List.getElem_mem hlt))
      have HDR := Aside0.mk (List.drop_eq_getElem_cons hlt)
      have hbx : rels[kk].length ≤ 9223372036854775807 := hrow.2.1
      have HBR := Aside0.mk hBr
      clear hx0 hrow hle hBr
      generalize rels[kk] = x at hx HROW HLE HLX HDR hbx
      go_wp2
      clear hx
      generalize wr = wo at *
      go_loopg [9, 11, 28] x.length (fun g2 s9 _ s28 wr2 => ∃ (jj m : Nat), jj ≤ x.length ∧ x.length - jj ≤ g2 ∧ s9 = .int .i64 m ∧ s28 = .int .i64 jj ∧ Aside0 (m ≤ g) ∧ Aside0 (lastN (x.drop jj) m = lastN x 0) ∧ Aside0 (Below wo.heap.size wo wr2))
      case atStart => exact ⟨0, 0, Nat.zero_le _, by omega, rfl, rfl, ⟨Nat.zero_le _⟩, ⟨rfl⟩, ⟨Below.refl _ _⟩⟩
      case round =>
        obtain ⟨jj, m, hjj, hg2, rfl, rfl, HM, HLN, HB2⟩ := hrel
        by_cases hlj : jj < x.length
        · have hljz : (jj : Int) < (x.length : Int) := by omega
          obtain ⟨adx, e, hx0⟩ := Kd.at_int HROW.out (jj : Int) (by omega) (by omega)
          cases e
          have hxx : wr.cell? (adx.add jj) = some (.int .i64 (rd x jj)) := by
            have h1 : w0.cell? (adx.add jj) = some (.int .i64 (rd x jj)) := by simpa using hx0
            exact (HB2.out.cell (Nat.lt_of_lt_of_le (World.block_lt_of_cell? w0 _ h1) (below_size HBR.out))).trans ((HBR.out.cell (World.block_lt_of_cell? w0 _ h1)).trans h1)
          clear hx0
          have hdj := reps_drop x jj hlj
          have hmem : (rd x (jj : Int)).natAbs ≤ g := HLX.out _ (by have h2 : rd x (jj : Int) ∈ x.drop jj := by rw [hdj]; exact List.mem_cons_self ..
                                                                    exact List.mem_of_mem_drop h2)
          have habs := reps_abs (rd x (jj : Int)) (by omega)
          have HLN2 := Aside0.mk (show lastN (x.drop (jj + 1)) (max m (rd x (jj : Int)).natAbs) = lastN x 0 by have := HLN.out; rw [hdj] at this; exact this)
          have HM2 := Aside0.mk (show max m (rd x (jj : Int)).natAbs ≤ g from Nat.max_le.2 ⟨HM.out, hmem⟩)
          clear hdj hmem
          generalize rd x (jj : Int) = y at hxx habs HLN2 HM2
          obtain ⟨q, hq⟩ : ∃ q, q = y.natAbs := ⟨_, rfl⟩
          rw [← hq] at habs HLN2 HM2
          clear hq
          by_cases hmq : (m : Int) < (q : Int)
          · have emx : max m q = q := by omega
            rw [emx] at HLN2 HM2
            clear emx
            go_wp2_with (go_at_call 76; (with_reducible refine (impl_abs.calls y (q : Int) _ habs).mono ?_); rintro e w5 ⟨rfl, ⟨nd, rfl⟩⟩)
            go_roundg (x.length - (jj + 1))
            case measure => omega
            case rel => exact ⟨jj + 1, q, by omega, by omega, rfl, by go_num, HM2, HLN2, ⟨pw_below_drewN HB2.out nd⟩⟩
          · have emx : max m q = m := by omega
            rw [emx] at HLN2 HM2
            clear emx
            go_wp2_with (go_at_call 76; (with_reducible refine (impl_abs.calls y (q : Int) _ habs).mono ?_); rintro e w5 ⟨rfl, ⟨nd, rfl⟩⟩)
            go_roundg (x.length - (jj + 1))
            case measure => omega
            case rel => exact ⟨jj + 1, m, by omega, by omega, rfl, by go_num, HM2, HLN2, ⟨pw_below_drewN HB2.out nd⟩⟩
        · have hljz : ¬ (jj : Int) < (x.length : Int) := by omega
          have HLA := Aside0.mk (show m = lastN x 0 by have := HLN.out; rw [List.drop_of_length_le (by omega)] at this; exact this)
          have HI2 := Aside0.mk (TInv.step (TInv.step HI.out HB2.out) (below_drew (Below.refl _ wr)))
          have hmT : m < T.length := by rw [HTL.out]; have := HM.out; omega
          have hmT0 : (0 : Int) ≤ (m : Int) := Int.natCast_nonneg _
          have hmT1 : (m : Int) < (T.length : Int) := by exact_mod_cast hmT
          obtain ⟨oki, Av, cv, hvc, hvf, hvR, hvH, hvk⟩ := HI2.out.lend m hmT
          have HTN : Aside0 (testsN (rels.drop (kk + 1)) (T.set m (T.getD m [] ++ [x])) = testsN rels T0) := ⟨by have := HTs.out; rw [HDR.out, testsN, ← HLA.out] at this; exact this⟩
          have HRL : Aside0 ((T.getD m []).length ≤ 1000) := ⟨by have := HRL0.out m; omega⟩
          have HRN : Aside0 (∀ i, ((T.set m (T.getD m [] ++ [x])).getD i []).length ≤ kk + 1) := ⟨reps_set T m x kk HRL0.out⟩
          generalize T.getD m [] = row at *
          have HVR := Aside0.mk hvR
          have HVH := Aside0.mk hvH
          have HVK := Aside0.mk hvk
          clear hvR hvH hvk
          go_wp2
          refine wp_region_held_drew (S := (fun w' => w'.cell? ⟨bt, 0, none⟩ = some (.slice (some ⟨gT, 0, none⟩) T.length cT))) (by kernel_rfl) ?g_s (fun hHeld => ?g_0)
          case g_s => exact (blk_cell HI2.out.bT 0).trans rfl
          case g_0 =>
          refine takeP (i := 0) (some 37) (v := ?g5_v) rfl rfl (by kernel_rfl) (by kernel_rfl) (by kernel_rfl) (fun _ _ _ h => h) (Or.inl ⟨by rfl, ?g5_y⟩) hHeld ?g5_n
          case g5_y => intro w_ hS_; (try dsimp only at hS_); go_simp; try (with_reducible rfl)
          simp only [Act.put, List.setIfInBounds_toArray, List.set_cons_zero, List.set_cons_succ]
          refine takeP (i := 1) (some 38) (v := ?g6_v) rfl rfl (by kernel_rfl) (by kernel_rfl) (by kernel_rfl) (fun _ _ _ h => h) (Or.inl ⟨by rfl, ?g6_y⟩) hHeld ?g6_n
          case g6_y => intro w_ hS_; (try dsimp only at hS_); go_simp; try (with_reducible rfl)
          simp only [Act.put, List.setIfInBounds_toArray, List.set_cons_zero, List.set_cons_succ]
          refine takeP (i := 2) (some 39) (v := ?g7_v) rfl rfl (by kernel_rfl) (by kernel_rfl) (by kernel_rfl) (fun _ _ _ h => h) (Or.inl ⟨by rfl, ?g7_y⟩) hHeld ?g7_n
          case g7_y => intro w_ hS_; (try dsimp only at hS_); go_simp; try (with_reducible rfl)
          simp only [Act.put, List.setIfInBounds_toArray, List.set_cons_zero, List.set_cons_succ]
          refine takeP (i := 3) (some 40) (v := ?g8_v) rfl rfl (by kernel_rfl) (by kernel_rfl) (by kernel_rfl) (fun _ _ _ h => h) (Or.inl ⟨by rfl, ?g8_y⟩) hHeld ?g8_n
          case g8_y => intro w_ hS_; (try dsimp only at hS_); go_simp; try (with_reducible rfl)
          simp only [Act.put, List.setIfInBounds_toArray, List.set_cons_zero, List.set_cons_succ]
          refine takeP (i := 4) (some 41) (v := ?g9_v) rfl rfl (by kernel_rfl) (by kernel_rfl) (by kernel_rfl) (fun _ _ _ h => h) (Or.inl ⟨by rfl, ?g9_y⟩) hHeld ?g9_n
          case g9_y => intro w_ hS_; (try dsimp only at hS_); go_simp; try (with_reducible rfl)
          simp only [Act.put, List.setIfInBounds_toArray, List.set_cons_zero, List.set_cons_succ]
          refine takeP (i := 6) (some 43) (v := ?g10_v) rfl rfl (by kernel_rfl) (by kernel_rfl) (by kernel_rfl) (fun _ _ _ h => h) (Or.inl ⟨by rfl, ?g10_y⟩) hHeld ?g10_n
          case g10_y => intro w_ hS_; (try dsimp only at hS_); go_simp; try (with_reducible rfl)
          simp only [Act.put, List.setIfInBounds_toArray, List.set_cons_zero, List.set_cons_succ]
          refine wpAnyH_ready (rs := [5, 7]) (by kernel_rfl) (by simp) ?_
          refine AllReadyH.cons rfl (fun K hK => ?pA) (AllReadyH.cons rfl (fun K hK => ?pB) AllReadyH.nil)
          case pA =>
            go_simp
            refine hK.out _ _ ?g1_s (fun hHeld2 => ?g1_n)
            case g1_s => (try dsimp only); exact (blk_cell HI2.out.bT 0).trans rfl
            clear hK K hHeld; have hHeld := hHeld2; clear hHeld2
            refine wpAnyH_ready (rs := [7]) (by kernel_rfl) (by simp) ?_
            refine AllReadyH.cons rfl (fun K hK => ?_) AllReadyH.nil
            go_simp
            refine hK.out _ _ ?g2_s (fun hHeld2 => ?g2_n)
            case g2_s => (try dsimp only); exact (blk_cell (HI2.out.step (below_alloc (Below.refl _ _) _)).bT 0).trans rfl
            clear hK K hHeld; have hHeld := hHeld2; clear hHeld2
            refine wpAnyH_ready (rs := [8]) (by kernel_rfl) (by simp) ?_
            refine AllReadyH.cons rfl (fun K hK => ?_) AllReadyH.nil
            refine Kd.R_append_step (Kd.fixed (Kd.slice 2 (Kd.int .i64)) w0) (w0 := wr.drew) (W := wr.drew) (b + 3) (by rfl) (.tmp 42) (.tmp 44) 22 39 (.slice none 0 0) 24 rfl Try.underlying22 info39 rfl Nat.one_pos (by omega) (.slice Av row.length cv) row x [.slice A' x.length c'] (fun k => oki k ∨ k ≠ bt ∧ wr.drew.heap.size ≤ k) (fun _ => False) rfl rfl ⟨A', c', rfl, HLE.out, HROW.out⟩ (fun _ h => h.elim) (fun k hk => .inr ⟨by have := blk_lt HI2.out.bT; omega, hk⟩) (Kd.R_mono HVR.out (fun k hk => .inl hk)) (Below.refl _ _) (by have h1_ := blk_lt HI2.out.bT; have h2_ := HI2.out.lt; omega) (by have := HRL.out; omega) ?_
            intro v1 w4 ho hb hg hat
            obtain ⟨A1, c1, e1⟩ := Kd.R_slice ho
            rw [List.length_append, List.length_singleton] at e1
            subst e1
            have HP4 := Aside0.mk (TInv.put HF.out.2.2.2.2 HI2.out hmT HVK.out (fun k hk => HVR.out.1 k hk) (Kd.R_base HVR.out) HVH.out hg ho)
            have hne4 : some gT ≠ (Value.slice Av row.length cv).ownBlock := fun he => (HVK.out gT (HVR.out.1 gT he.symm)).2 rfl
            have hnb4 : some bt ≠ (Value.slice Av row.length cv).ownBlock := fun he => (HVK.out bt (HVR.out.1 bt he.symm)).1 rfl
            have hc4 : w4.cell? ⟨gT, m, none⟩ = some (.slice Av row.length cv) := cell_grown hg hvc hne4
            have hf4 : w4.frozen? ⟨gT, m, none⟩ = false := by have h1 := hg.block gT (World.block_lt_of_cell? _ _ hvc) hne4; simpa [World.frozen?, h1] using hvf
            have HK4 := Aside0.mk ((blk_cell (blk_grown HI2.out.bT hg hnb4) 0).trans rfl)
            have HK5 := Aside0.mk HP4.out.kept
            clear ho hb hg hat hne4 hnb4 hvc hvf
            skip
            refine hK.out (Act.put _ (some 45) _) _ ?g11_s (fun hHeld2 => ?g11_n)
            case g11_s => (try dsimp only); exact HK4.out
            clear hK K hHeld; have hHeld := hHeld2; clear hHeld2
            simp only [Act.put, List.setIfInBounds_toArray, List.set_cons_zero, List.set_cons_succ]
            refine takeP (i := 9) (some 46) (v := ?g12_v) rfl rfl (by kernel_rfl) (by kernel_rfl) (by kernel_rfl) (fun _ _ _ h => h) (Or.inl ⟨by rfl, ?g12_y⟩) hHeld ?g12_n
            case g12_y => intro w_ hS_; (try dsimp only at hS_); go_simp; try (with_reducible rfl)
            simp only [Act.put, List.setIfInBounds_toArray, List.set_cons_zero, List.set_cons_succ]
            refine wpAnyH_ready (rs := [10]) (by kernel_rfl) (by simp) ?_
            refine AllReadyH.cons rfl (fun K hK => ?_) AllReadyH.nil
            go_simp
            refine hK.out _ _ ?g13_s (fun hHeld2 => ?g13_n)
            case g13_s => (try dsimp only); exact HK5.out
            clear hK K hHeld; have hHeld := hHeld2; clear hHeld2
            refine wpAnyH_done (by kernel_rfl) ?_ _
            clear hHeld HK4 HK5
            go_wp2
            go_roundg (rels.length - (kk + 1))
            case measure => omega
            case rel => exact ⟨kk + 1, T.set m (row ++ [x]), by omega, by omega, by go_num, HP4, HTN, ⟨by rw [List.length_set]; exact HTL.out⟩, HRN⟩
          case pB =>
            have hvc2 : (wr.alloc (.cells #[.slice A' x.length c'] 39)).cell? ⟨gT, m, none⟩ = some (.slice Av row.length cv) := pw_cell_below (below_alloc (Below.refl _ wr) (.cells #[.slice A' x.length c'] 39)) (show wr.cell? ⟨gT, m, none⟩ = some (.slice Av row.length cv) from hvc)
            go_simp
            refine hK.out _ _ ?g3_s (fun hHeld2 => ?g3_n)
            case g3_s => (try dsimp only); exact (blk_cell (HI2.out.step (below_alloc (Below.refl _ _) _)).bT 0).trans rfl
            clear hK K hHeld; have hHeld := hHeld2; clear hHeld2
            refine wpAnyH_ready (rs := [5]) (by kernel_rfl) (by simp) ?_
            refine AllReadyH.cons rfl (fun K hK => ?_) AllReadyH.nil
            go_simp
            refine hK.out _ _ ?g4_s (fun hHeld2 => ?g4_n)
            case g4_s => (try dsimp only); exact (blk_cell (HI2.out.step (below_alloc (Below.refl _ _) _)).bT 0).trans rfl
            clear hK K hHeld; have hHeld := hHeld2; clear hHeld2
            clear hvc2
            refine wpAnyH_ready (rs := [8]) (by kernel_rfl) (by simp) ?_
            refine AllReadyH.cons rfl (fun K hK => ?_) AllReadyH.nil
            refine Kd.R_append_step (Kd.fixed (Kd.slice 2 (Kd.int .i64)) w0) (w0 := wr.drew) (W := wr.drew) (b + 3) (by rfl) (.tmp 42) (.tmp 44) 22 39 (.slice none 0 0) 24 rfl Try.underlying22 info39 rfl Nat.one_pos (by omega) (.slice Av row.length cv) row x [.slice A' x.length c'] (fun k => oki k ∨ k ≠ bt ∧ wr.drew.heap.size ≤ k) (fun _ => False) rfl rfl ⟨A', c', rfl, HLE.out, HROW.out⟩ (fun _ h => h.elim) (fun k hk => .inr ⟨by have := blk_lt HI2.out.bT; omega, hk⟩) (Kd.R_mono HVR.out (fun k hk => .inl hk)) (Below.refl _ _) (by have h1_ := blk_lt HI2.out.bT; have h2_ := HI2.out.lt; omega) (by have := HRL.out; omega) ?_
            intro v1 w4 ho hb hg hat
            obtain ⟨A1, c1, e1⟩ := Kd.R_slice ho
            rw [List.length_append, List.length_singleton] at e1
            subst e1
            have HP4 := Aside0.mk (TInv.put HF.out.2.2.2.2 HI2.out hmT HVK.out (fun k hk => HVR.out.1 k hk) (Kd.R_base HVR.out) HVH.out hg ho)
            have hne4 : some gT ≠ (Value.slice Av row.length cv).ownBlock := fun he => (HVK.out gT (HVR.out.1 gT he.symm)).2 rfl
            have hnb4 : some bt ≠ (Value.slice Av row.length cv).ownBlock := fun he => (HVK.out bt (HVR.out.1 bt he.symm)).1 rfl
            have hc4 : w4.cell? ⟨gT, m, none⟩ = some (.slice Av row.length cv) := cell_grown hg hvc hne4
            have hf4 : w4.frozen? ⟨gT, m, none⟩ = false := by have h1 := hg.block gT (World.block_lt_of_cell? _ _ hvc) hne4; simpa [World.frozen?, h1] using hvf
            have HK4 := Aside0.mk ((blk_cell (blk_grown HI2.out.bT hg hnb4) 0).trans rfl)
            have HK5 := Aside0.mk HP4.out.kept
            clear ho hb hg hat hne4 hnb4 hvc hvf
            skip
            refine hK.out (Act.put _ (some 45) _) _ ?g14_s (fun hHeld2 => ?g14_n)
            case g14_s => (try dsimp only); exact HK4.out
            clear hK K hHeld; have hHeld := hHeld2; clear hHeld2
            simp only [Act.put, List.setIfInBounds_toArray, List.set_cons_zero, List.set_cons_succ]
            refine takeP (i := 9) (some 46) (v := ?g15_v) rfl rfl (by kernel_rfl) (by kernel_rfl) (by kernel_rfl) (fun _ _ _ h => h) (Or.inl ⟨by rfl, ?g15_y⟩) hHeld ?g15_n
            case g15_y => intro w_ hS_; (try dsimp only at hS_); go_simp; try (with_reducible rfl)
            simp only [Act.put, List.setIfInBounds_toArray, List.set_cons_zero, List.set_cons_succ]
            refine wpAnyH_ready (rs := [10]) (by kernel_rfl) (by simp) ?_
            refine AllReadyH.cons rfl (fun K hK => ?_) AllReadyH.nil
            go_simp
            refine hK.out _ _ ?g16_s (fun hHeld2 => ?g16_n)
            case g16_s => (try dsimp only); exact HK5.out
            clear hK K hHeld; have hHeld := hHeld2; clear hHeld2
            refine wpAnyH_done (by kernel_rfl) ?_ _
            clear hHeld HK4 HK5
            go_wp2
            go_roundg (rels.length - (kk + 1))
            case measure => omega
            case rel => exact ⟨kk + 1, T.set m (row ++ [x]), by omega, by omega, by go_num, HP4, HTN, ⟨by rw [List.length_set]; exact HTL.out⟩, HRN⟩
    · have hltz : ¬ (kk : Int) < (rels.length : Int) := by omega
      have hTE : T = testsN rels T0 := by have := HTs.out; rw [List.drop_of_length_le (by omega)] at this; exact this
      have hHT := HH.out
      rw [← hTE] at hHT
      have HHT := Aside0.mk hHT
      clear hTE hHT HH
      have HP := Aside0.mk (show impl_permutationsOf.f n = some (permsF n.toNat n.toNat [] []) from if_pos hn)
      generalize permsF n.toNat n.toNat [] [] = all at *
      have hc3 : wr.cell? ⟨b + 1, 0, none⟩ = some (.int .i64 n) := (blk_cell ((HI.out.bel.block (b + 1) (by have := HF.out.2.2.2.2; omega)).trans HF.out.2.1) 0).trans rfl
      go_upto_region 16 with (go_at_call 77; refine (impl_permutationsOf.calls n all _ HP.out).mono ?_; rintro e w5 ⟨vA, rfl, hN, h5⟩; obtain ⟨AA, cA, ev⟩ := Kd.N_slice hN; subst ev; have HN5 := Aside0.mk hN; have H5 := Aside0.mk h5; clear hN h5 hc3)
      change Code.wp Try.prog _ _ _ (repsV w5 (.slice AA all.length cA))
      have HRS := Aside0.mk (reps_start HV.out HBB.out.symm HBW.out HJ.out hg HTL.out (by rw [← HW1.out]; exact HI.out) H5.out HN5.out w5.heap.size rfl)
      have HG := Aside0.mk (growG_calls (vf := .nilFunc) HV.out HRS.out.1 k g [] s _ Pf _ r s' (by simp) HRS.out.2 HHT.out)
      have hz : (repsV w5 (.slice AA all.length cA)).cell? ⟨w5.heap.size + 1 + 1, 0, none⟩ = some .nilFunc := (blk_cell (repsV_facts w5 (.slice AA all.length cA)).2.2.1 0).trans rfl
      have hfz : (repsV w5 (.slice AA all.length cA)).frozen? ⟨w5.heap.size + 1 + 1, 0, none⟩ = false := blk_frozen (repsV_facts w5 (.slice AA all.length cA)).2.2.1 0
      have hcz : ((repsV w5 (.slice AA all.length cA)).setCell ⟨w5.heap.size + 1 + 1, 0, none⟩ (.func (.func 78) #[] #[.pointer (some ⟨bt, 0, none⟩), .pointer (some ⟨w5.heap.size + 1, 0, none⟩), .pointer (some ⟨b + 1, 0, none⟩), .pointer (some ⟨b, 0, none⟩), .pointer (some ⟨b + 1 + 1, 0, none⟩), .pointer (some ⟨w5.heap.size, 0, none⟩), .pointer (some ⟨w5.heap.size + 1 + 1, 0, none⟩)])).cell? ⟨w5.heap.size + 1 + 1, 0, none⟩ = some (.func (.func 78) #[] #[.pointer (some ⟨bt, 0, none⟩), .pointer (some ⟨w5.heap.size + 1, 0, none⟩), .pointer (some ⟨b + 1, 0, none⟩), .pointer (some ⟨b, 0, none⟩), .pointer (some ⟨b + 1 + 1, 0, none⟩), .pointer (some ⟨w5.heap.size, 0, none⟩), .pointer (some ⟨w5.heap.size + 1 + 1, 0, none⟩)]) := (blk_cell HRS.out.1.bg 0).trans rfl
      have eg := Go.Proofs.enters_of Try.func78 (by kernel_rfl) rfl
      clear HRS
      generalize repsV w5 (.slice AA all.length cA) = Wp at *
      go_wp2_with (go_at_call 78; refine HG.out.mono ?_; rintro e w6 ⟨rfl, v6, Pf6, I6⟩; have HI6 := Aside0.mk I6; clear I6)
      first | go_end0 | ((try simp only [Exit.inBlock, Exit.then]); refine bodyPost_ret (results_none rfl _ _ _) rfl ?_)
      exact ⟨rfl, Pf6, HI6.out.st, HI6.out.below⟩
theorem foldG_le {σ : Type} {f f' : List Int → σ → Option (Bool × σ)} (h : ∀ x s, LeO (f x s) (f' x s)) : ∀ (l : List (List Int)) (s : σ), LeO (foldG f l s) (foldG f' l s)
  | [], s => LeO.refl _
  | x :: t, s => by
    simp only [foldG]
    exact LeO.bind (h x s) fun r => LeO.ite (foldG_le h t r.2) (LeO.refl _)
theorem growG_le {σ : Type} (n : Int) (T : List (List (List Int))) (all : List (List Int)) {vis vis' : List (List Int) → σ → Option (Bool × σ)} (hv : ∀ G s, LeO (vis G s) (vis' G s)) (k : Nat) : ∀ (d : Nat) (G : List (List Int)) (s : σ), LeO (growG k n T all vis d G s) (growG (k + 1) n T all vis' d G s)
  | 0, G, s => by
    simp only [growG]
    exact LeO.bind (anyO_le (fun x => LeO.bind (impl_isTrivial.mono _ _ _ _) fun _ => LeO.refl _) _) fun _ => LeO.ite (LeO.refl _) (hv G s)
  | d + 1, G, s => by
    simp only [growG]
    exact LeO.bind (anyO_le (fun x => LeO.bind (impl_isTrivial.mono _ _ _ _) fun _ => LeO.refl _) _) fun _ => LeO.ite (LeO.refl _) (foldG_le (fun x s => growG_le n T all hv k d (G ++ [x]) s) _ _)
/-- What representations asks of its arguments. -/
def okReps (g : Int) (rels : List (List Int)) (n : Int) : Prop := 0 ≤ g ∧ g ≤ 24 ∧ 1 ≤ n ∧ n ≤ 4 ∧ rels.length ≤ 48 ∧ ∀ x ∈ rels, ∀ a ∈ x, a.natAbs ≤ g.toNat
instance (g : Int) (rels : List (List Int)) (n : Int) : Decidable (okReps g rels n) := by
  unfold okReps
  infer_instance
/-- All representations in their order, shown to a visitor. -/
def repsRun {σ : Type} (k : Nat) (g : Int) (rels : List (List Int)) (n : Int) (vis : List (List Int) → σ → Option (Bool × σ)) (s : σ) : Option (Bool × σ) :=
  if okReps g rels n then growG k n (testsN rels (List.replicate (g.toNat + 1) [])) (permsF n.toNat n.toNat [] []) vis g.toNat [] s else none
theorem repsRun_le {σ : Type} (g : Int) (rels : List (List Int)) (n : Int) {vis vis' : List (List Int) → σ → Option (Bool × σ)} (hv : ∀ G s, LeO (vis G s) (vis' G s)) (s : σ) (k : Nat) : LeO (repsRun k g rels n vis s) (repsRun (k + 1) g rels n vis' s) := by
  unfold repsRun
  exact LeO.ite (growG_le n _ _ hv k _ _ _) (LeO.refl _)
theorem impl_representations.run {σ : Type} {J : σ → World → (Nat → Prop) → Prop} {lbv : Array Value} {vis : List (List Int) → σ → Option (Bool × σ)} {w0 : World} {gv : Nat} (hV : Vis w0 gv lbv vis J) (k : Nat) (g n : Int) (A : Option Addr) (c : Nat) (rels : List (List Int)) (s s' : σ) (r : Bool) (Pf : Nat → Prop) (w : World)
    (hB : Below w0.heap.size w0 w) (hJ : J s w Pf) (hr : Kd.C (Kd.slice 2 (Kd.int .i64)) w0 A rels.length rels) (hc : rels.length ≤ c) (h : repsRun k g rels n vis s = some (r, s')) :
    Calls Try.prog 42 #[.agg #[.int .i64 g, .slice A rels.length c], .int .i64 n, .func (.func gv) #[] lbv] w fun e w' => e = .returned (.tuple #[]) ∧ ∃ Pf', J s' w' Pf' ∧ Below w0.heap.size w0 w' := by
  unfold repsRun at h
  by_cases hk : okReps g rels n
  · rw [if_pos hk] at h
    obtain ⟨h1, h2, h3, h4, h5, h6⟩ := hk
    obtain ⟨g, rfl⟩ : ∃ m : Nat, g = m := ⟨g.toNat, by omega⟩
    rw [Int.toNat_natCast] at h h6
    exact impl_representations.calls hV k g n A c rels s s' r Pf w hB hJ hr hc (by omega) ⟨h3, h4⟩ h5 h6 h
  · rw [if_neg hk] at h
    cases h
def transW (w : World) (g n : Int) (pr : Value) : World := (w.alloc (.cells #[.int .i64 g, pr] 28)).alloc (.cells #[.int .i64 n] 2)
theorem transW_facts (w : World) (g n : Int) (pr : Value) : (transW w g n pr).heap[w.heap.size]? = some (.cells #[.int .i64 g, pr] 28 (0, 0)) ∧ (transW w g n pr).heap[w.heap.size + 1]? = some (.cells #[.int .i64 n] 2 (0, 0)) ∧ Below w.heap.size w (transW w g n pr) := by
  have h1 := heap_alloc_new w (.cells #[.int .i64 g, pr] 28)
  have h2 := heap_alloc_new (w.alloc (.cells #[.int .i64 g, pr] 28)) (.cells #[.int .i64 n] 2)
  have s1 : (w.alloc (.cells #[.int .i64 g, pr] 28)).heap.size = w.heap.size + 1 := by simp
  rw [s1] at h2
  exact ⟨blk_alloc h1 _, h2, below_alloc (below_alloc (Below.refl _ _) _) _⟩

/-! ### impl_copyLists: function 44 -/
def impl_copyLists.l0 : Nat → List (List Int) → List (List Int) → Int → Int → Option ((List (List Int)))
  | 0, _, _, _, _ => none
  | k + 1, x3, x6, x7, x8 => if x8 < x7 then (if 0 ≤ x8 then (if x8 < (x6.length : Int) then ((slices_Clone_int64_int64.f (rd_L1 x6 x8)).bind fun t289 => (if x3.length < 5864062014805 then (impl_copyLists.l0 k (x3 ++ [t289]) x6 x7 (wrap64 (x8 + 1))) else (none))) else (none)) else (none)) else (some x3)
def impl_copyLists.f (k : Nat) (l0 : List (List Int)) : Option ((List (List Int))) := impl_copyLists.l0 k ([] : List (List Int)) l0 (l0.length : Int) 0
theorem impl_copyLists.mono_l : ∀ k, (∀ y0 y1 y2 y3, LeO (impl_copyLists.l0 k y0 y1 y2 y3) (impl_copyLists.l0 (k + 1) y0 y1 y2 y3))
  | 0 => fun _ _ _ _ r h => by simp [impl_copyLists.l0] at h
  | k + 1 => by
    have ih0 := impl_copyLists.mono_l k
    · intro y0 y1 y2 y3
      unfold impl_copyLists.l0
      repeat' first
      | (with_reducible exact ih0 _ _ _ _)
      | (with_reducible exact LeO.refl _)
      | (with_reducible exact LeO.none _)
      | (with_reducible refine LeO.ite ?_ ?_)
      | (with_reducible refine LeO.bind ?_ (fun _ => ?_))
      | exact ih0 _ _ _ _
      | exact LeO.none _
      | refine LeO.ite ?_ ?_
      | refine LeO.bind ?_ (fun _ => ?_)
theorem impl_copyLists.mono : ∀ a0 k, LeO (impl_copyLists.f k a0) (impl_copyLists.f (k + 1) a0) := by
  intro a0 k
  have ih0 := impl_copyLists.mono_l k
  unfold impl_copyLists.f
  repeat' first
      | (with_reducible exact ih0 _ _ _ _)
      | (with_reducible exact LeO.refl _)
      | (with_reducible exact LeO.none _)
      | (with_reducible refine LeO.ite ?_ ?_)
      | (with_reducible refine LeO.bind ?_ (fun _ => ?_))
      | exact ih0 _ _ _ _
      | exact LeO.none _
      | refine LeO.ite ?_ ?_
      | refine LeO.bind ?_ (fun _ => ?_)
set_option maxHeartbeats 8000000 in
set_option maxRecDepth 100000 in
theorem impl_copyLists.calls (k : Nat) (A0 : Option Addr) (c0 : Nat) (l0 : List (List Int)) (r : List (List Int)) (w : World) (hr0 : Kd.C (Kd.slice 2 (Kd.int .i64)) w A0 l0.length l0) (hc0 : l0.length ≤ c0) (h : impl_copyLists.f k l0 = some r) :
    Calls Try.prog 44 #[.slice A0 l0.length c0] w fun e w' => ∃ v0_ : Value, e = .returned (v0_) ∧ Kd.S (Kd.slice 2 (Kd.int .i64)) 39 w' w.heap.size (fun _ => True) v0_ r ∧ Below w.heap.size w w' := by
  have HR0 := Aside0.mk hr0
  have HC0 := Aside0.mk hc0
  clear hr0 hc0
  have HB := Aside0.mk (Below.refl w.heap.size w)
  have H : (impl_copyLists.l0 k ([] : List (List Int)) l0 (l0.length : Int) 0) = some r := h
  clear h
  have H' := Aside0.mk H
  clear H
  go_enter Try.func44, Try.ntmps44
  go_wp2
  go_loopg [3, 8] k (fun kq v3 v8 w' => ∃ (x3_1 : List (List Int)) (x8_1 : Int), v8 = .int .i64 x8_1 ∧ Aside0 (impl_copyLists.l0 kq x3_1 l0 (l0.length : Int) x8_1 = some r) ∧ Aside0 (kq ≤ k) ∧ Aside0 (Kd.S (Kd.slice 2 (Kd.int .i64)) 39 w' w.heap.size (fun _ => True) v3 x3_1) ∧ Aside0 (Below w.heap.size w w'))
  case atStart => exact ⟨(([] : List (List Int))), (0), (by first | rfl | (simp; done) | (simp [*]; done)), H', ⟨Nat.le_refl _⟩, ⟨by first | exact Kd.S_nil _ _ _ _ _ | exact Kd.N_nil _ _ _ _ _ | exact Kd.V_nil _ _ _ _ _ | exact Kd.Q_nil _ _ _ _ _ | exact Kd.R_nil _ _ _ _ _⟩, ⟨by repeat (first | (with_reducible first | exact HB.out | apply below_alloc | apply pw_below_drewN | apply below_drew1) | exact HB.out)⟩⟩
  case round =>
    clear H'
    obtain ⟨x3_1, x8_1, rfl, HA, HK1, HO_3, HB⟩ := hrel
    cases gk with
    | zero => exact absurd HA.out (by simp [impl_copyLists.l0])
    | succ k1 =>
      have H := HA.out
      clear HA
      simp only [impl_copyLists.l0] at H
      by_cases c2 : x8_1 < (l0.length : Int)
      · rw [if_pos c2] at H
        have c2b0 : decide (x8_1 < (l0.length : Int)) = true := decide_eq_true c2
        clear c2
        by_cases c3 : 0 ≤ x8_1
        · rw [if_pos c3] at H
          have c3b0 : decide (0 ≤ x8_1) = true := decide_eq_true c3
          clear c3
          by_cases c4 : x8_1 < (l0.length : Int)
          · rw [if_pos c4] at H
            have c4b0 : decide (x8_1 < (l0.length : Int)) = true := decide_eq_true c4
            clear c4
            replace H := Option.bind_eq_some_iff.mp H
            obtain ⟨t289, A50, H⟩ := H
            replace H : (if x3_1.length < 5864062014805 then (impl_copyLists.l0 k1 (x3_1 ++ [t289]) l0 (l0.length : Int) (wrap64 (x8_1 + 1))) else (none)) = some r := H
            have A5 := Aside0.mk A50
            clear A50
            by_cases c6 : x3_1.length < 5864062014805
            · rw [if_pos c6] at H
              have LMc6 := Aside0.mk c6
              clear c6
              obtain ⟨y292, hy292⟩ : ∃ y_ : List (List Int), y_ = (x3_1 ++ [t289]) := ⟨_, rfl⟩
              replace H : (impl_copyLists.l0 k1 y292 l0 (l0.length : Int) (wrap64 (x8_1 + 1))) = some r := by first | (rw [hy292]; with_reducible exact H) | (have H2_ := (Option.bind_some _ _).symm.trans H; rw [hy292]; with_reducible exact H2_) | (have H2_ := (Option.bind_some _ _).symm.trans H; with_reducible exact H2_) | with_reducible exact H | (rw [hy292]; exact H) | exact H
              have Ny292 := Aside0.mk hy292
              clear hy292
              have H' := Aside0.mk H
              clear H
              have p288 : 0 ≤ (x8_1 : Int) := of_decide_eq_true (by first | (with_reducible assumption) | assumption)
              have q288 : x8_1 < (l0.length : Int) := of_decide_eq_true (by first | (with_reducible assumption) | assumption)
              obtain ⟨ad288, A288_0, c288_0, e288, hx288_0, hl288_0, hi288_0⟩ := at_L1 HR0.out x8_1 p288 q288
              cases e288
              replace hx288_0 := (HB.out.cell (World.block_lt_of_cell? w _ hx288_0)).trans hx288_0
              have HR288_0 := Aside0.mk hi288_0
              have HC288_0 := Aside0.mk hl288_0
              clear hi288_0 hl288_0
              replace p288 := eq_true p288
              replace q288 := eq_true q288
              go_wp2_with (first | ((with_reducible refine gate_callee (f := 83) rfl ?_); refine goesL_ (some 14) rfl rfl Try.func83 (by kernel_rfl) rfl #[.slice A288_0 (rd_L1 l0 x8_1).length c288_0] rfl (by (try simp only [List.map_toArray, List.map_cons, List.map_nil]); first | done | rfl | (simp only [List.length_drop, List.length_take]; rfl)) ?_; (with_reducible refine (slices_Clone_int64_int64.calls _ _ (rd_L1 l0 x8_1) t289 _ ?side1 ?side2 A5.out).mono ?_); (case side1 => repeat (first | exact (Kd.C_below HR288_0.out HB.out) | (with_reducible refine Kd.C_alloc ?_ _) | (with_reducible refine Kd.C_drewN ?_ _) | (with_reducible refine Kd.C_drew ?_))); (case side2 => exact HC288_0.out); rintro e w7 ⟨v290, rfl, ho0, hb⟩; refine ⟨_, rfl, ?_⟩; have n0_ := Aside0.mk (Kd.S_elder' (by (with_reducible repeat (first | apply Kd.S_alloc | apply Kd.S_drewN | apply Kd.S_drew)); exact HO_3.out) (Kd.R_base ho0) hb); have n1_ := Aside0.mk (Kd.R_lower ho0 (below_size (by repeat (first | (with_reducible first | exact HB.out | apply below_alloc | apply pw_below_drewN | apply below_drew1) | exact HB.out)))); have n2_ := Aside0.mk (below_step (by repeat (first | (with_reducible first | exact HB.out | apply below_alloc | apply pw_below_drewN | apply below_drew1) | exact HB.out)) hb); clear HO_3; clear HB; have HO_3 := n0_; have HO291 := n1_; have HB := n2_; clear n0_ n1_ n2_; (try clear hb); (try clear hb2); (try clear hk); (try clear hi); (try clear ho0); obtain ⟨Ao9, co9, eo9⟩ := Kd.R_slice HO291.out; subst eo9) | ((with_reducible refine gate_builtin (b := .append) (xs := #[.tmp 12, .tmp 15]) rfl ?_); at_builtin; refine Kd.S_append (Kd.slice 2 (Kd.int .i64)) (w0 := w) w.heap.size rfl (.tmp 12) (.tmp 15) 22 39 (.slice none 0 0) 24 rfl Try.underlying22 info39 rfl (by decide) (by omega) u3 x3_1 t289 [.slice Ao9 t289.length co9] (fun _ => True) (fun k_ => some k_ = (.slice Ao9 t289.length co9 : Value).ownBlock) rfl rfl ?aP (fun k_ hk_ => ((Kd.R_mono (ok' := fun k_ => ((fun _ => True)) k_ ∧ some k_ ≠ (u3 : Value).ownBlock) (Kd.R_apart' (HO291.out) (Kd.S_typed HO_3.out) (by decide)) (fun k_ hk => ⟨trivial, hk.2⟩))).1 k_ hk_.symm) ?aF ?aO ?aB ?aS ?aL ?_; (case aP => exact Kd.M_row (Kd.R_mono (Kd.R_tight rfl (Kd.R_mono (ok' := fun k_ => ((fun _ => True)) k_ ∧ some k_ ≠ (u3 : Value).ownBlock) (Kd.R_apart' (HO291.out) (Kd.S_typed HO_3.out) (by decide)) (fun k_ hk => ⟨trivial, hk.2⟩))) (fun _ h_ => h_))); (case aB => exact (by repeat (first | (with_reducible first | exact HB.out | apply below_alloc | apply pw_below_drewN | apply below_drew1) | exact HB.out))); (case aF => exact (fun _ _ => trivial)); (case aO => exact (by (with_reducible repeat (first | apply Kd.S_alloc | apply Kd.S_drewN | apply Kd.S_drew)); exact Kd.S_mono HO_3.out (fun k_ hk => ⟨trivial, fun e_ => hk.2 e_⟩))); (case aS => exact (below_size (by repeat (first | (with_reducible first | exact HB.out | apply below_alloc | apply pw_below_drewN | apply below_drew1) | exact HB.out)))); (case aL => have := LMc6.out; omega); intro v293 w8 ho hb hg hat; rw [← Ny292.out] at ho; have n0_ := Aside0.mk (hb); have n1_ := Aside0.mk (ho); clear HB; clear HO_3; clear HO291; have HB := n0_; have HO294 := n1_; clear n0_ n1_; clear ho hb hg hat))
              go_roundg k1
              case measure => have := HK1.out; omega
              case rel => exact ⟨(y292), (wrap64 (x8_1 + 1)), (by first | rfl | (simp; done) | (simp [*]; done)), H', ⟨by have := HK1.out; omega⟩, ⟨by (with_reducible repeat (first | apply Kd.S_alloc | apply Kd.S_drewN | apply Kd.S_drew)); exact HO294.out⟩, ⟨by repeat (first | (with_reducible first | exact HB.out | apply below_alloc | apply pw_below_drewN | apply below_drew1) | exact HB.out)⟩⟩
            · rw [if_neg c6] at H
              exact absurd H (by simp)
          · rw [if_neg c4] at H
            exact absurd H (by simp)
        · rw [if_neg c3] at H
          exact absurd H (by simp)
      · rw [if_neg c2] at H
        have c2b0 : decide (x8_1 < (l0.length : Int)) = false := decide_eq_false c2
        clear c2
        obtain rfl := Option.some.inj H
        go_wp2
        go_ret
        exact ⟨_, by first | rfl | (simp [errW_none, errW_some] <;> rfl) | (simp [*, errW_none, errW_some] <;> rfl), by (with_reducible repeat (first | apply Kd.S_alloc | apply Kd.S_drewN | apply Kd.S_drew)); exact HO_3.out, by repeat (first | (with_reducible first | exact HB.out | apply below_alloc | apply pw_below_drewN | apply below_drew1) | exact HB.out)⟩

end Go.Proofs.Ytbcdngjajjgmkaa.PFnExactRepresentationAt
