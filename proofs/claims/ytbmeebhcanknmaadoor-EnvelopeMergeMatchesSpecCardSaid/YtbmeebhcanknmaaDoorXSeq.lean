/- A range over a function whose iterator keeps state of its own in memory: a law of the walk, over any program; no statement of the seat is proved here. -/
import Derived.RangeFuncNested
import Derived.RangeFuncBound
import Derived.RangeFuncCalls
import Derived.RangeFuncLeaves
import Derived.Deep.Draws
namespace Go.Proofs.YtbmeebhcanknmaaDoor.XSeq
open Go Go.RowKit
set_option linter.unusedVariables false

/-- What a round leaves as it was: every block that isn't the body's (O); what becomes the body's is new. -/
structure KeepS (O : World → Nat → Prop) (W W' : World) : Prop where
  os : W'.os = W.os
  tape : W'.tape = W.tape
  output : W'.output = W.output
  size : W.heap.size ≤ W'.heap.size
  block : ∀ k, k < W.heap.size → ¬ O W k → W'.heap[k]? = W.heap[k]?
  own : ∀ k, O W' k → O W k ∨ W.heap.size ≤ k

theorem KeepS.trans {O : World → Nat → Prop} {A B C : World} (h : KeepS O A B) (k : KeepS O B C) : KeepS O A C :=
  ⟨k.os.trans h.os, k.tape.trans h.tape, k.output.trans h.output, Nat.le_trans h.size k.size,
   fun i hi hO => (k.block i (Nat.lt_of_lt_of_le hi h.size) (fun hB => by rcases h.own i hB with hA | hA; exact hO hA; omega)).trans (h.block i hi hO),
   fun i hC => by
     rcases k.own i hC with hB | hB
     · exact h.own i hB
     · have := h.size; exact .inr (by omega)⟩
theorem KeepS.cell {O : World → Nat → Prop} {W W' : World} (h : KeepS O W W') {p : Addr} (hp : p.block < W.heap.size) (hO : ¬ O W p.block) : W'.cell? p = W.cell? p := World.cell?_of_block (h.block _ hp hO)
theorem KeepS.frozen {O : World → Nat → Prop} {W W' : World} (h : KeepS O W W') {p : Addr} (hp : p.block < W.heap.size) (hO : ¬ O W p.block) : W'.frozen? p = W.frozen? p := World.frozen?_of_block (h.block _ hp hO)
theorem KeepS.below {O : World → Nat → Prop} {n₀ : Nat} {W0 W W' : World} (h : KeepS O W W') (hb : Below n₀ W0 W) (hn : n₀ ≤ W.heap.size) (hO : ∀ k, O W k → n₀ ≤ k) : Below n₀ W0 W' :=
  hb.trans ⟨h.os, h.tape, h.output, h.size, fun k hk => h.block k (by omega) (fun hk2 => by have := hO k hk2; omega)⟩

/-! Where the body's blocks are fixed. -/
theorem keepC_refl (Q : Nat → Prop) (W : World) : KeepS (fun _ k => Q k) W W := ⟨rfl, rfl, rfl, Nat.le_refl _, fun _ _ _ => rfl, fun _ h => .inl h⟩
theorem keepC_drewN {Q : Nat → Prop} {A W : World} (h : KeepS (fun _ k => Q k) A W) (m : Nat) : KeepS (fun _ k => Q k) A (W.drewN m) := ⟨h.os, h.tape, h.output, h.size, h.block, h.own⟩
theorem keepC_drew {Q : Nat → Prop} {A W : World} (h : KeepS (fun _ k => Q k) A W) : KeepS (fun _ k => Q k) A W.drew := ⟨h.os, h.tape, h.output, h.size, h.block, h.own⟩
theorem keepC_set {Q : Nat → Prop} {A W : World} (h : KeepS (fun _ k => Q k) A W) {p : Addr} (hp : Q p.block ∨ A.heap.size ≤ p.block) (u : Value) : KeepS (fun _ k => Q k) A (W.setCell p u) :=
  ⟨h.os, h.tape, h.output, by have := h.size; simpa [World.setCell] using this, fun k hk hQ => (Below.heap_setCell _ _ _ _ (fun e => by subst e; rcases hp with hp | hp; exact hQ hp; omega)).trans (h.block k hk hQ), h.own⟩
theorem keepC_alloc {Q : Nat → Prop} {A W : World} (h : KeepS (fun _ k => Q k) A W) (o : Obj) : KeepS (fun _ k => Q k) A (W.alloc o) :=
  ⟨h.os, h.tape, h.output, by have := h.size; simp; omega, fun k hk hQ => (Below.heap_alloc _ _ _ (by have := h.size; omega)).trans (h.block k hk hQ), h.own⟩
theorem keepC_below {Q : Nat → Prop} {A W W2 : World} (h : KeepS (fun _ k => Q k) A W) (hb : Below W.heap.size W W2) : KeepS (fun _ k => Q k) A W2 :=
  ⟨hb.os.trans h.os, hb.tape.trans h.tape, hb.output.trans h.output, Nat.le_trans h.size hb.size, fun k hk hQ => (hb.block k (by have := h.size; omega)).trans (h.block k hk hQ), h.own⟩

/-- A fact that stands while blocks from n₀ on that aren't the body's are turned. -/
def Abides (n₀ : Nat) (O : World → Nat → Prop) (J : World → Prop) : Prop :=
  ∀ A B row, J A → A.grownBy B row → (∀ r, row = some r → n₀ ≤ r ∧ ¬ O A r) → J B ∧ ∀ k, O B k → O A k

/-- The iterator's contract. Mine: the blocks that it holds from before (captured variables). -/
def SeqS {α : Type} (n : Nat) (P : Program) (g : Nat) (lb : Array Value) (encs : α → Array Value) (n₀ : Nat) (Mine : Nat → Prop) (S Sp : List α → Prop) (N : Nat) (X : α → Prop) (w : World) : Prop :=
  ∀ (O : World → Nat → Prop) (l : Nat) (J Jx : List α → World → Prop) (W : World), Below w.heap.size w W → (∀ k, Mine k → ¬ O W k) → (∀ pre, Abides n₀ O (J pre)) → (∀ pre, Abides n₀ O (Jx pre)) → (∀ k, O W k → k < W.heap.size) →
    (∀ pre x W1, J pre W1 → pre.length < N → X x → YieldAt Fence.wide (n - 1) P l (encs x) W1 fun e W' =>
      (e = .returned (.bool true) ∧ J (pre ++ [x]) W' ∧ KeepS O W1 W') ∨ (e = .returned (.bool false) ∧ Jx (pre ++ [x]) W')) →
    J [] W →
    CallsIn Fence.wide n P g (#[.func (.yield l) #[] #[]] ++ lb) W fun e W' => (∃ v, e = .returned v) ∧ ((∃ xs, S xs ∧ J xs W') ∨ (∃ pre, Sp pre ∧ Jx pre W'))

/-- How the body of a round may be left. -/
def postS {α : Type} (OB : World → Nat → Prop) (I : List α → World → Prop) (Ix : Code → List α → World → Prop) (xs : List α) (W : World) : Exit → Act → World → Prop
  | .normal, _, W' => KeepS OB W W' ∧ I xs W'
  | .ret, _, W' => KeepS OB W W' ∧ Ix .ret xs W'
  | .exit id, _, W' => KeepS OB W W' ∧ Ix (.exit id) xs W'
  | .goto t, _, W' => KeepS OB W W' ∧ Ix (.goto t) xs W'
  | .panic _, _, _ => False
  | .outgrown, _, _ => False

variable {n : Nat} {P : Program}

/-- The loop. OB: the body's own blocks (each of cells); D, D + 1: the loop's two blocks. -/
theorem wpIn_rangeFunc_S {α : Type} {g : Operand} {ps : Array Tmp} {assign body : Code} {Q : Exit → Act → World → Prop} {a : Act} {w : World}
    (h1 : 1 ≤ n) {gf : Nat} {lb : Array Value} (hg : a.eval g = .func (.func gf) #[] lb) (eg : ∀ args w, (callFunc gf args).run P w = .ok (.enter gf args) w)
    {encs : α → Array Value} {n₀ : Nat} {Mine : Nat → Prop} {S Sp : List α → Prop} {N : Nat} {X : α → Prop} (hseq : SeqS (n - 1) P gf lb encs n₀ Mine S Sp N X w) (hn : n₀ ≤ w.heap.size)
    (OB : World → Nat → Prop) (hMO : ∀ k, Mine k → ¬ OB w k ∧ k < w.heap.size) (hps : ∀ x, (encs x).size = ps.size)
    (I : List α → World → Prop) (Ix : Code → List α → World → Prop) (hI : ∀ pre, Abides n₀ OB (I pre)) (hIx : ∀ c pre, Abides n₀ OB (Ix c pre))
    (hOI : ∀ pre W k, I pre W → OB W k → ∃ o, W.heap[k]? = some o ∧ o.isCells = true) (hOIx : ∀ c pre W k, Ix c pre W → OB W k → ∃ o, W.heap[k]? = some o ∧ o.isCells = true) (h0 : I [] w) (a₁ : α → Act)
    (hassign : ∀ (l : Nat) (x : α) (W : World) (K : Act → World → Prop), K (a₁ x) W →
      assign.wpIn (Fence.wide.inRound l) (n - 1 - 1) P (Exit.then K (fun _ _ _ => False)) { tmps := (ps.zip (encs x)).foldl (fun t (p, v) => t.setIfInBounds p v) a.tmps, defers := [] } W)
    (hbody : ∀ (l : Nat) (pre : List α) (x : α) (W : World), w.heap.size + 1 < W.heap.size → I pre W → pre.length < N → X x → body.wpIn (Fence.wide.inRound l) (n - 1 - 1) P (postS OB I Ix (pre ++ [x]) W) (a₁ x) W)
    (hdone : ∀ (xs : List α) (W : World), w.heap.size + 1 < W.heap.size → S xs → I xs W → W.heap[w.heap.size]? = some (.deferred (some [])) → Q .normal { a with defers := { target := .collected w.heap.size, args := #[] } :: a.defers } W)
    (hstop : ∀ (c : Code) (pre : List α) (W : World), w.heap.size + 1 < W.heap.size → Sp pre → Ix c pre W → W.heap[w.heap.size]? = some (.deferred (some [])) → c.wpIn Fence.wide n P Q { a with defers := { target := .collected w.heap.size, args := #[] } :: a.defers } W) :
    (Code.rangeFunc g ps assign body).wpIn Fence.wide n P Q a w := by
  refine wpIn_rangeFunc ?_
  intro fn hfn
  obtain ⟨rec, hrec⟩ : ∃ rec : LoopState → Option Code → Loop, rec = fun st pe => { state := st, pending := pe, fn, tmps := a.tmps, params := ps, assign, body, defers := w.heap.size } := ⟨_, rfl⟩
  obtain ⟨D, hD⟩ : ∃ D, D = w.heap.size := ⟨_, rfl⟩
  obtain ⟨W1, hW1⟩ : ∃ W1, (w.alloc (.deferred (some []))).alloc (.loop (rec .ready none)) = W1 := ⟨_, rfl⟩
  have hs1 : W1.heap.size = D + 2 := by rw [← hW1, hD]; simp
  have hL1 : W1.heap[D + 1]? = some (.loop (rec .ready none)) := by
    have h := World.alloc_heap_new (w.alloc (.deferred (some []))) (.loop (rec .ready none))
    rw [World.size_alloc, hW1, ← hD] at h
    exact h
  have hK1 : W1.heap[D]? = some (.deferred (some [])) := by
    rw [← hW1, hD]; exact (Below.heap_alloc _ _ _ (by simp)).trans (World.alloc_heap_new w _)
  have hno : ∀ {W : World} {k : Nat} {o : Obj}, W.heap[k]? = some o → o.isCells = false → ∀ {p : Prop}, (∃ o', W.heap[k]? = some o' ∧ o'.isCells = true) → p := by
    intro W k o h hc p ⟨o', h', hc'⟩
    rw [h] at h'; cases h'; rw [hc] at hc'; cases hc'
  have stepI : ∀ {J : World → Prop} (hJ : Abides n₀ OB J) (W : World) (o : Obj), J W → J (W.alloc o) := fun hJ W o h => (hJ _ _ none h (World.grownBy_alloc W o none) (fun r e => by cases e)).1
  have stepO : ∀ {J : World → Prop} (hJ : Abides n₀ OB J) (W : World) (o : Obj), J W → ∀ k, OB (W.alloc o) k → OB W k := fun hJ W o h => (hJ _ _ none h (World.grownBy_alloc W o none) (fun r e => by cases e)).2
  have putJ : ∀ {J : World → Prop} (hJ : Abides n₀ OB J) (hO : ∀ W k, J W → OB W k → ∃ o, W.heap[k]? = some o ∧ o.isCells = true) (W : World) (k : Nat) (o o' : Obj), n₀ ≤ k → J W → W.heap[k]? = some o → o.isCells = false → J (W.putObj k o') ∧ ∀ j, OB (W.putObj k o') j → OB W j :=
    fun hJ hO W k o o' hk h ho hc => hJ _ _ (some k) h (grownBy_putObj' W k o') (fun r e => by cases e; exact ⟨hk, fun hb => hno ho hc (hO W k h hb)⟩)
  have hI1 : I [] W1 := by rw [← hW1]; exact stepI (hI []) _ _ (stepI (hI []) _ _ h0)
  have hO1 : ∀ k, OB W1 k → OB w k := by
    intro k hk; rw [← hW1] at hk
    exact stepO (hI []) _ _ h0 k (stepO (hI []) _ _ (stepI (hI []) _ _ h0) k hk)
  have hb1 : Below w.heap.size w W1 := by rw [← hW1]; exact ((Below.refl _ w).alloc (Nat.le_refl _) _).alloc (by simp) _
  refine ⟨D + 1, [{ target := .collected D, args := #[] }], W1, { target := .fn (.func gf) lb, args := #[.func (.yield (D + 1)) #[] #[]] }, W1, gf,
    #[.func (.yield (D + 1)) #[] #[]] ++ lb, W1, ?_, ?_, ?_, ?_, fun _ => h1, ?_⟩
  · rw [← hW1, hrec, hD]; exact run_enterLoop_outer _ _ _ _ _
  · simp only [resolve, hg]
    simp [go_sem]
  · intro f' hf'; trivial
  · simp [invoke, go_sem, eg]
  · refine (hseq (fun W k => OB W k ∨ k = D ∨ k = D + 1) (D + 1)
      (fun pre W => I pre W ∧ W.heap[D + 1]? = some (.loop (rec .ready none)) ∧ W.heap[D]? = some (.deferred (some [])))
      (fun pre W => ∃ c, Ix c pre W ∧ W.heap[D + 1]? = some (.loop (rec .done (some c))) ∧ W.heap[D]? = some (.deferred (some [])))
      W1 hb1 ?_ ?_ ?_ ?_ ?_ ⟨hI1, hL1, hK1⟩).mono ?_
    · rintro k hk (h | h | h)
      · exact (hMO k hk).1 (hO1 k h)
      · have := (hMO k hk).2; omega
      · have := (hMO k hk).2; omega
    · rintro pre A B row ⟨hi, hl, hd⟩ hg' hr
      obtain ⟨hi2, ho2⟩ := hI pre A B row hi hg' (fun r e => ⟨(hr r e).1, fun hb => (hr r e).2 (.inl hb)⟩)
      refine ⟨⟨hi2, (hg'.block _ (Array.getElem?_eq_some_iff.1 hl).1 (fun e => (hr _ e.symm).2 (.inr (.inr rfl)))).trans hl, (hg'.block _ (Array.getElem?_eq_some_iff.1 hd).1 (fun e => (hr _ e.symm).2 (.inr (.inl rfl)))).trans hd⟩, ?_⟩
      rintro k (h | h)
      · exact .inl (ho2 k h)
      · exact .inr h
    · rintro pre A B row ⟨c, hi, hl, hd⟩ hg' hr
      obtain ⟨hi2, ho2⟩ := hIx c pre A B row hi hg' (fun r e => ⟨(hr r e).1, fun hb => (hr r e).2 (.inl hb)⟩)
      refine ⟨⟨c, hi2, (hg'.block _ (Array.getElem?_eq_some_iff.1 hl).1 (fun e => (hr _ e.symm).2 (.inr (.inr rfl)))).trans hl, (hg'.block _ (Array.getElem?_eq_some_iff.1 hd).1 (fun e => (hr _ e.symm).2 (.inr (.inl rfl)))).trans hd⟩, ?_⟩
      rintro k (h | h)
      · exact .inl (ho2 k h)
      · exact .inr h
    · rintro k (h | h | h)
      · obtain ⟨o, ho, _⟩ := hOI [] W1 k hI1 h
        exact (Array.getElem?_eq_some_iff.1 ho).1
      · omega
      · omega
    · rintro pre x W ⟨hi, hl, hk⟩ hlen hX
      have hlt : D + 1 < W.heap.size := (Array.getElem?_eq_some_iff.1 hl).1
      have hy := run_yield (P := P) (args := encs x) hl (by rw [hrec]; exact hps x)
      rw [hrec] at hy
      refine ⟨fn, _, assign, body, hy, roundIn_of_wpIn hfn (hassign _ x W _ ⟨_, run_beginRound hl (by rw [hrec]), ?_⟩)⟩
      have hl2 : (W.putObj (D + 1) (.loop { rec .ready none with state := .busy })).heap[D + 1]? = some (.loop { rec .ready none with state := .busy }) := World.putObj_heap_same hlt
      have hk2 : (W.putObj (D + 1) (.loop { rec .ready none with state := .busy })).heap[D]? = some (.deferred (some [])) := (World.putObj_heap_other (by omega)).trans hk
      obtain ⟨hi2, ho2⟩ := putJ (hI pre) (hOI pre) W (D + 1) _ (.loop { rec .ready none with state := .busy }) (by omega) hi hl rfl
      obtain ⟨W2, hW2⟩ : ∃ W2, W.putObj (D + 1) (.loop { rec .ready none with state := .busy }) = W2 := ⟨_, rfl⟩
      have hW2s : W2.heap.size = W.heap.size := by rw [← hW2]; simp
      have hW2b : ∀ k, k ≠ D + 1 → W2.heap[k]? = W.heap[k]? := fun k hk => by rw [← hW2]; exact World.putObj_heap_other hk
      have hW2o : W2.os = W.os ∧ W2.tape = W.tape ∧ W2.output = W.output := by rw [← hW2]; exact ⟨rfl, rfl, rfl⟩
      rw [hW2] at hl2 hk2 hi2 ho2
      have hbd := hbody (D + 1) pre x W2 (by rw [hW2s]; omega) hi2 hlen hX
      rw [← hW2] at hbd
      refine wpIn_mono hbd ?_
      rw [hW2]
      have fin : ∀ (jump : Option Code) (W3 : World) (J : World → Prop) (hJ : Abides n₀ OB J) (hOJ : ∀ W k, J W → OB W k → ∃ o, W.heap[k]? = some o ∧ o.isCells = true), KeepS OB W2 W3 → J W3 →
          ∃ v, (Instr.endRound (D + 1) jump).run P W3 = .ok (.bool jump.isNone) v ∧ J v ∧ v.heap[D + 1]? = some (.loop (rec (if jump.isNone then .ready else .done) jump)) ∧ v.heap[D]? = some (.deferred (some [])) ∧ KeepS (fun W k => OB W k ∨ k = D ∨ k = D + 1) W v := by
        intro jump W3 J hJ hOJ hk3 hj
        have hl3 : W3.heap[D + 1]? = some (.loop { rec .ready none with state := .busy }) := (hk3.block _ (Array.getElem?_eq_some_iff.1 hl2).1 (fun hb => hno hl2 rfl (hOI pre W2 _ hi2 hb))).trans hl2
        have hd3 : W3.heap[D]? = some (.deferred (some [])) := (hk3.block _ (Array.getElem?_eq_some_iff.1 hk2).1 (fun hb => hno hk2 rfl (hOI pre W2 _ hi2 hb))).trans hk2
        have hr := run_endRound (P := P) jump hl3
        obtain ⟨hj2, hoj⟩ := putJ hJ hOJ W3 (D + 1) _ (.loop (rec (if jump.isNone then .ready else .done) jump)) (by omega) hj hl3 rfl
        refine ⟨W3.putObj (D + 1) (.loop (rec (if jump.isNone then .ready else .done) jump)), by rw [hrec] at hr ⊢; exact hr, hj2, World.putObj_heap_same (Array.getElem?_eq_some_iff.1 hl3).1, (World.putObj_heap_other (by omega)).trans hd3, ?_⟩
        refine ⟨hk3.os.trans hW2o.1, hk3.tape.trans hW2o.2.1, hk3.output.trans hW2o.2.2, by have := hk3.size; simp; omega, ?_, ?_⟩
        · intro k hk hO
          have n1 : k ≠ D + 1 := fun e => hO (.inr (.inr e))
          have n2 : ¬ OB W2 k := fun e => hO (.inl (ho2 k e))
          exact (World.putObj_heap_other n1).trans ((hk3.block k (by omega) n2).trans (hW2b k n1))
        · rintro k (h | h)
          · rcases hk3.own k (hoj k h) with h2 | h2
            · exact .inl (.inl (ho2 k h2))
            · exact .inr (by omega)
          · exact .inl (.inr h)
      rintro e a3 W3 hp
      cases e with
      | normal =>
        obtain ⟨hk3, hi3⟩ := hp
        obtain ⟨v, hr, hj, hl4, hd4, hkk⟩ := fin none W3 (I (pre ++ [x])) (hI _) (hOI _) hk3 hi3
        exact ⟨_, v, hr, .inl ⟨rfl, ⟨hj, hl4, hd4⟩, hkk⟩⟩
      | ret =>
        obtain ⟨hk3, hi3⟩ := hp
        obtain ⟨v, hr, hj, hl4, hd4, _⟩ := fin (some .ret) W3 (Ix .ret (pre ++ [x])) (hIx _ _) (hOIx _ _) hk3 hi3
        exact ⟨_, v, hr, .inr ⟨rfl, .ret, hj, hl4, hd4⟩⟩
      | exit id =>
        obtain ⟨hk3, hi3⟩ := hp
        obtain ⟨v, hr, hj, hl4, hd4, _⟩ := fin (some (.exit id)) W3 (Ix (.exit id) (pre ++ [x])) (hIx _ _) (hOIx _ _) hk3 hi3
        exact ⟨_, v, hr, .inr ⟨rfl, .exit id, hj, hl4, hd4⟩⟩
      | goto t =>
        obtain ⟨hk3, hi3⟩ := hp
        obtain ⟨v, hr, hj, hl4, hd4, _⟩ := fin (some (.goto t)) W3 (Ix (.goto t) (pre ++ [x])) (hIx _ _) (hOIx _ _) hk3 hi3
        exact ⟨_, v, hr, .inr ⟨rfl, .goto t, hj, hl4, hd4⟩⟩
      | panic ch => exact hp.elim
      | outgrown => exact hp.elim
    · rintro e W2 ⟨⟨v, rfl⟩, (⟨xs, hS, hi, hl, hk⟩ | ⟨pre, hSp, c, hi, hl, hk⟩)⟩
      · have hr := run_endLoop (P := P) hl (by rw [hrec]; simp)
        rw [hrec] at hr
        obtain ⟨hj, _⟩ := putJ (hI xs) (hOI xs) W2 (D + 1) _ (.loop { rec .ready none with state := .exhausted }) (by omega) hi hl rfl
        have hlt : D + 1 < W2.heap.size := (Array.getElem?_eq_some_iff.1 hl).1
        rw [hrec] at hj
        have hd := hdone xs _ (by rw [← hD]; simpa using hlt) hS hj (by rw [← hD]; exact (World.putObj_heap_other (by omega)).trans hk)
        rw [← hD] at hd hr
        exact ⟨none, _, hr, hd⟩
      · have hr := run_endLoop (P := P) hl (by rw [hrec]; simp)
        rw [hrec] at hr
        obtain ⟨hj, _⟩ := putJ (hIx c pre) (hOIx c pre) W2 (D + 1) _ (.loop { rec .done (some c) with state := .exhausted }) (by omega) hi hl rfl
        have hlt : D + 1 < W2.heap.size := (Array.getElem?_eq_some_iff.1 hl).1
        rw [hrec] at hj
        have hd := hstop c pre _ (by rw [← hD]; simpa using hlt) hSp hj (by rw [← hD]; exact (World.putObj_heap_other (by omega)).trans hk)
        rw [← hD] at hd hr
        exact ⟨some c, _, hr, hd⟩
end Go.Proofs.YtbmeebhcanknmaaDoor.XSeq
