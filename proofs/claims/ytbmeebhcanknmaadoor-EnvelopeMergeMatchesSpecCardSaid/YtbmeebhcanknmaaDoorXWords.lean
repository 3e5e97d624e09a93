/- Words of ours: laws over the readings of rows, over any program; no statement of the seat is proved here. -/
import Derived.Test.YtbmeebhcanknmaaDoorWWords
import Derived.Test.YtbmeebhcanknmaaDoorWLast
import Derived.Test.YtbmeebhcanknmaaDoorWApart
import Derived.Maps.Own
import Derived.Maps.OwnOps
import Derived.Maps.OwnSet
import Derived.Outline
import Derived.WalkArith
namespace Go.Proofs.YtbmeebhcanknmaaDoor.XWords
open Go Go.RowKit Go.Proofs.YtbmeebhcanknmaaDoorW.PrintWords Go.Proofs.YtbmeebhcanknmaaDoorW.PrintLast
set_option linter.unusedVariables false

/-- One field of one element of a row of our own is written. -/
theorem R_field {α : Type} {d : Kd α} {e : TypeId} {W : World} {base g n cap : Nat} {ok : Nat → Prop} {xs : List α} (h : d.R e W base ok (.slice (some ⟨g, 0, none⟩) n cap) xs) (j f : Nat) (x x' : α) (u : Value)
    (hx : xs[j]? = some x) (hf : f < d.sz) (hset : ∀ (W1 : World) (ok1 : Nat → Prop) cs, d.M W1 base ok1 x cs → d.M W1 base ok1 x' (cs.set f u)) :
    d.R e (W.setCell ⟨g, j * d.sz + f, none⟩ u) base ok (.slice (some ⟨g, 0, none⟩) n cap) (xs.set j x') := by
  obtain ⟨hok, inner, hown, hr⟩ := h
  have hjl : j < xs.length := (List.getElem?_eq_some_iff.1 hx).1
  refine ⟨hok, inner.set (j * d.sz + f) u, ?_, ?_⟩
  · obtain ⟨hl, ho⟩ := hown
    rw [List.length_set]
    refine ⟨by rw [List.length_set, hl], ?_⟩
    rcases ho with ⟨h0, _⟩ | ⟨g', cap', cur, he, hb, hc, hn, hm, hs, ht⟩
    · cases h0
    · injection he with he1 he2 he3
      injection he1 with he1
      injection he1 with he1
      subst he1 he2 he3
      refine .inr ⟨g, cap, cur.setIfInBounds (j * d.sz + f) u, rfl, hb, blk_set hc _ _, hn, hm, by rw [Array.size_setIfInBounds]; exact hs, ?_⟩
      rw [Array.toList_setIfInBounds, List.take_set, ht]
  · have hr' := hr.imp_ (fun p c hp => Kd.M_far (p := ⟨g, j * d.sz + f, none⟩) hp (fun k hk he => hk.2 (by simp [Value.ownBlock, he])) u)
    refine ⟨by rw [List.length_set, List.length_set]; exact hr.1, fun i p hp => ?_⟩
    by_cases hij : i = j
    · subst hij
      rw [List.getElem?_set_self hjl] at hp
      obtain rfl : x' = p := by simpa using hp
      have := hset _ _ _ (hr'.2 i x hx)
      rwa [List.drop_set, if_neg (by omega), show i * d.sz + f - i * d.sz = f by omega, List.take_set]
    · rw [List.getElem?_set_ne (Ne.symm hij)] at hp
      have := hr'.2 i p hp
      rw [List.drop_set]
      split
      · exact this
      · rename_i hge
        have hlt : i < j := by
          false_or_by_contra
          rename_i hn
          have h1 : (j + 1) * d.sz ≤ i * d.sz := Nat.mul_le_mul_right _ (by omega)
          rw [Nat.add_mul, Nat.one_mul] at h1
          omega
        have h1 : (i + 1) * d.sz ≤ j * d.sz := Nat.mul_le_mul_right _ (by omega)
        rw [Nat.add_mul, Nat.one_mul] at h1
        rw [List.take_set, List.set_eq_of_length_le (by rw [List.length_take]; omega)]
        exact this

/-- The same, at the address as the walk spells it. -/
theorem R_field' {α : Type} {d : Kd α} {e : TypeId} {W : World} {base n cap : Nat} {ad : Addr} {ok : Nat → Prop} {xs : List α} (h : d.R e W base ok (.slice (some ad) n cap) xs) (j f : Nat) (x x' : α) (u : Value)
    (hx : xs[j]? = some x) (hf : f < d.sz) (hset : ∀ (W1 : World) (ok1 : Nat → Prop) cs, d.M W1 base ok1 x cs → d.M W1 base ok1 x' (cs.set f u)) :
    d.R e (W.setCell { block := (ad.add (j * d.sz)).block, off := (ad.add (j * d.sz)).off + f } u) base ok (.slice (some ad) n cap) (xs.set j x') := by
  obtain ⟨inner, hl, ho⟩ := Kd.R_own h
  rcases ho with ⟨h0, _⟩ | ⟨g', cap', cur, he, hb, hc, hn, hm, hs, ht⟩
  · cases h0
  · injection he with he1 he2 he3
    injection he1 with he1
    subst he1
    rw [add_plain]
    exact R_field h j f x x' u hx hf hset
/-- A cell of a row of our own may be written. -/
theorem R_frozen {α : Type} {d : Kd α} {e : TypeId} {W : World} {base n cap : Nat} {ad : Addr} {ok : Nat → Prop} {xs : List α} (h : d.R e W base ok (.slice (some ad) n cap) xs) (j f : Nat) : W.frozen? { block := (ad.add j).block, off := (ad.add j).off + f } = false := by
  obtain ⟨inner, hl, ho⟩ := Kd.R_own h
  rcases ho with ⟨h0, _⟩ | ⟨g', cap', cur, he, hb, hc, hn, hm, hs, ht⟩
  · cases h0
  · injection he with he1 he2 he3
    injection he1 with he1
    subst he1
    rw [add_plain]
    exact blk_frozen hc _

/-! ### functions over rows whose elements a closure judges -/
def idxO {α : Type} (p : α → Option Bool) : Nat → List α → Option Int
  | _, [] => some (-1)
  | i, x :: l => (p x).bind fun b => if b = true then some (i : Int) else idxO p (i + 1) l
def keepO {α : Type} (p : α → Option Bool) : List α → Option (List α)
  | [] => some []
  | x :: l => (p x).bind fun b => (keepO p l).map fun r => if b = true then r else x :: r
theorem idxO_none {α : Type} {p : α → Option Bool} {l : List α} {i : Nat} {r : Int} (h : idxO p i l = some r) : r = -1 ∨ (i : Int) ≤ r := by
  induction l generalizing i with
  | nil => exact .inl (by simpa [idxO] using h.symm)
  | cons x l ih =>
    unfold idxO at h
    obtain ⟨b, _, h⟩ := Option.bind_eq_some_iff.1 h
    cases b
    · rcases ih (by simpa using h) with h | h
      · exact .inl h
      · exact .inr (by omega)
    · exact .inr (by simp at h; omega)
def hasO {α : Type} (p : α → Option Bool) : List α → Option Bool
  | [] => some false
  | x :: l => (p x).bind fun b => if b = true then some true else hasO p l
theorem hasO_idx' {α : Type} {p : α → Option Bool} {l : List α} {r : Bool} (h : hasO p l = some r) (i : Nat) : ∃ k : Int, idxO p i l = some k ∧ decide (0 ≤ k) = r := by
  induction l generalizing i with
  | nil => exact ⟨-1, rfl, by simpa [hasO] using h⟩
  | cons x l ih =>
    unfold hasO at h
    obtain ⟨b, hb, h⟩ := Option.bind_eq_some_iff.1 h
    unfold idxO
    rw [hb]
    cases b
    · obtain ⟨k, h1, h2⟩ := ih (by simpa using h) (i + 1)
      exact ⟨k, by simpa using h1, h2⟩
    · exact ⟨i, by simp, by simpa using h⟩
theorem hasO_idx {α : Type} {p : α → Option Bool} {l : List α} {r : Bool} (h : hasO p l = some r) : ∃ k : Int, idxO p 0 l = some k ∧ decide (0 ≤ k) = r := hasO_idx' h 0
/-- An element's cells, and how it goes to a call. -/
theorem raw_one {sz : Nat} {W : World} {A : Option Addr} {n : Nat} {rows : List (List Value)} (h : Kd.C (Kd.raw sz) W A n rows) (i : Nat) (hi : i < rows.length) :
    ∃ ad, A = some ad ∧ (rows[i]).length = sz ∧ (∀ u ∈ rows[i], u.oneCell' = true) ∧ ∀ j u, (rows[i])[j]? = some u → W.cell? (ad.add (i * sz + j)) = some u := by
  obtain ⟨h1, h2, h3⟩ := h
  obtain ⟨ad, hA, h4⟩ := h3 (by omega)
  obtain ⟨c, hc, hK, hcell⟩ := h4 i rows[i] (List.getElem?_eq_getElem hi)
  obtain ⟨rfl, hl, h1⟩ := hK
  exact ⟨ad, hA, hl, h1, hcell⟩
theorem R_frozen0 {α : Type} {d : Kd α} {e : TypeId} {W : World} {base n cap : Nat} {ad : Addr} {ok : Nat → Prop} {xs : List α} (h : d.R e W base ok (.slice (some ad) n cap) xs) (j : Nat) : W.frozen? (ad.add j) = false := by
  obtain ⟨g, rfl⟩ := Kd.R_head h
  have := R_frozen h j 0
  rw [add_plain] at this ⊢
  exact this
theorem grown_set (W : World) (p : Addr) (u : Value) : W.grownBy (W.setCell p u) (some p.block) := ⟨rfl, rfl, rfl, by simp [World.setCell], fun k _ hk => Below.heap_setCell W p u k (fun e => hk (by rw [e]))⟩
/-- One cell of one element of a row of cells is written. -/
theorem raw_set {sz : Nat} {T : TypeId} {W : World} {base n cap : Nat} {ad : Addr} {ok : Nat → Prop} {rows : List (List Value)} (h : (Kd.raw sz).R T W base ok (.slice (some ad) n cap) rows) (i f : Nat) (r : List Value) (u : Value) (hi : rows[i]? = some r) (hf : f < sz) (h1 : u.oneCell' = true) :
    (Kd.raw sz).R T (W.setCell { block := (ad.add (i * sz)).block, off := (ad.add (i * sz)).off + f } u) base ok (.slice (some ad) n cap) (rows.set i (r.set f u)) :=
  R_field' (d := Kd.raw sz) h i f r (r.set f u) u hi hf (by
    rintro W1 ok1 cs ⟨rfl, hl, h2⟩
    refine ⟨rfl, by rw [List.length_set]; exact hl, fun v hv => ?_⟩
    rcases List.mem_or_eq_of_mem_set hv with hv | rfl
    · exact h2 v hv
    · exact h1)
theorem get_set {α : Type} {l : List α} {i : Nat} {x : α} (hi : i < l.length) : (l.set i x)[i]? = some x := List.getElem?_set_self hi
theorem raw_set0 {sz : Nat} {T : TypeId} {W : World} {base n cap : Nat} {ad : Addr} {ok : Nat → Prop} {rows : List (List Value)} (h : (Kd.raw sz).R T W base ok (.slice (some ad) n cap) rows) (i : Nat) (r : List Value) (u : Value) (hi : rows[i]? = some r) (hf : 0 < sz) (h1 : u.oneCell' = true) :
    (Kd.raw sz).R T (W.setCell (ad.add (i * sz)) u) base ok (.slice (some ad) n cap) (rows.set i (r.set 0 u)) := by
  obtain ⟨g, rfl⟩ := Kd.R_head h
  have := raw_set h i 0 r u hi hf h1
  rw [add_plain] at this ⊢
  exact this
theorem cell_ex {sz : Nat} {T : TypeId} {W : World} {base n cap : Nat} {ad : Addr} {ok : Nat → Prop} {rows : List (List Value)} (h : (Kd.raw sz).R T W base ok (.slice (some ad) n cap) rows) (i f : Nat) (hi : i < rows.length) (hf : f < sz) :
    ∃ u, W.cell? { block := (ad.add (i * sz)).block, off := (ad.add (i * sz)).off + f } = some u := by
  obtain ⟨g, rfl⟩ := Kd.R_head h
  obtain ⟨ad2, e, hl, _, hc⟩ := raw_one (Kd.R_reads' h).2.2 i hi
  injection e with e
  subst e
  have := hc f _ (List.getElem?_eq_getElem (by omega))
  rw [add_plain] at this ⊢
  exact ⟨_, this⟩
theorem grown_add (W : World) (ad : Addr) (m : Nat) (u : Value) : W.grownBy (W.setCell (ad.add m) u) (some ad.block) := by have := grown_set W (ad.add m) u; rwa [add_block] at this
theorem grown_off (W : World) (ad : Addr) (m q : Nat) (u : Value) : W.grownBy (W.setCell { block := (ad.add m).block, off := q } u) (some ad.block) := by rw [add_block]; exact grown_set W { block := ad.block, off := q } u
theorem below_of_grown {base : Nat} {w0 W W' : World} {b : Nat} (h : Below base w0 W) (hg : W.grownBy W' (some b)) (hbs : base ≤ W.heap.size) (hb : base ≤ b) : Below base w0 W' := h.grown hg hbs (by intro k e; cases e; exact hb)
theorem take_set_succ {α : Type} {l : List α} {i : Nat} {x : α} (hi : i < l.length) : (l.set i x).take (i + 1) = l.take i ++ [x] := by
  rw [List.take_succ_eq_append_getElem (by simpa using hi), List.getElem_set_self, List.take_set, List.set_eq_of_length_le (by rw [List.length_take]; omega)]
theorem R_raw {α : Type} {d : Kd α} {e : TypeId} {W : World} {base : Nat} {ok : Nat → Prop} {v : Value} {xs : List α} (enc : α → List Value) (he : ∀ W ok1 x cs, d.M W base ok1 x cs → cs = enc x) (h : d.R e W base ok v xs) : (Kd.raw d.sz).R e W base ok v (xs.map enc) := by
  obtain ⟨h0, inner, ho, hr⟩ := h
  refine ⟨h0, inner, by rw [List.length_map]; exact ho, by rw [List.length_map]; exact hr.1, fun j p hp => ?_⟩
  obtain ⟨x, hx, rfl⟩ := (by simpa using hp : ∃ x, xs[j]? = some x ∧ enc x = p)
  have hm := hr.2 j x hx
  have hk := d.K_of_M hm
  exact ⟨he _ _ _ _ hm, d.K_len hk, d.K_one hk⟩
theorem R_unraw {α : Type} {d : Kd α} {e : TypeId} {W : World} {base : Nat} {ok : Nat → Prop} {v : Value} {xs : List α} (enc : α → List Value) (he : ∀ W ok1 x, d.M W base ok1 x (enc x)) (h : (Kd.raw d.sz).R e W base ok v (xs.map enc)) : d.R e W base ok v xs := by
  obtain ⟨h0, inner, ho, hr⟩ := h
  refine ⟨h0, inner, by rw [List.length_map] at ho; exact ho, by have := hr.1; rw [List.length_map] at this; exact this, fun j x hx => ?_⟩
  have hm := hr.2 j (enc x) (by simp [hx])
  exact (show _ = enc x from hm.1) ▸ he _ _ _
theorem two_cells {l : List Value} (h : l.length = 2) : ∃ c0 c1, l = [c0, c1] := by
  rcases l with _ | ⟨c0, _ | ⟨c1, _ | ⟨_, _⟩⟩⟩ <;> simp at h
  exact ⟨_, _, rfl⟩
theorem one_cells {l : List Value} (h : l.length = 1) : ∃ c0, l = [c0] := by
  rcases l with _ | ⟨c0, _ | ⟨_, _⟩⟩ <;> simp at h
  exact ⟨_, rfl⟩
theorem three_cells {l : List Value} (h : l.length = 3) : ∃ c0 c1 c2, l = [c0, c1, c2] := by
  rcases l with _ | ⟨c0, _ | ⟨c1, _ | ⟨c2, _ | ⟨_, _⟩⟩⟩⟩ <;> simp at h
  exact ⟨_, _, _, rfl⟩
def aggV (cs : List Value) : Value := .agg cs.toArray
def oneV (cs : List Value) : Value := cs.headD undef
theorem keepO_idx {α : Type} {p : α → Option Bool} {l r : List α} (h : keepO p l = some r) (i : Nat) : ∃ k, idxO p i l = some k := by
  induction l generalizing r i with
  | nil => exact ⟨-1, rfl⟩
  | cons x l ih =>
    unfold keepO at h
    obtain ⟨b, hb, h⟩ := Option.bind_eq_some_iff.1 h
    obtain ⟨r', hr, _⟩ := Option.map_eq_some_iff.1 h
    obtain ⟨k, hk⟩ := ih hr (i + 1)
    unfold idxO
    rw [hb]
    cases b
    · exact ⟨k, by simpa using hk⟩
    · exact ⟨i, by simp⟩
theorem idxO_map {α β : Type} (f : β → α) (p : α → Option Bool) (l : List β) (i : Nat) : idxO p i (l.map f) = idxO (fun x => p (f x)) i l := by
  induction l generalizing i with
  | nil => rfl
  | cons x l ih => simp only [List.map_cons, idxO, ih]
theorem keepO_map {α β : Type} (f : β → α) (p : α → Option Bool) (l : List β) : keepO p (l.map f) = (keepO (fun x => p (f x)) l).map (List.map f) := by
  induction l with
  | nil => rfl
  | cons x l ih =>
    simp only [List.map_cons, keepO, ih]
    cases p (f x) with
    | none => rfl
    | some b => cases keepO (fun x => p (f x)) l <;> cases b <;> rfl
/-- What the first hit tells. -/
theorem keepO_miss {α : Type} {p : α → Option Bool} {l : List α} {i : Nat} (h : idxO p i l = some (-1)) : keepO p l = some l := by
  induction l generalizing i with
  | nil => rfl
  | cons x l ih =>
    unfold idxO at h
    obtain ⟨b, hb, h⟩ := Option.bind_eq_some_iff.1 h
    cases b
    · unfold keepO; rw [hb, ih (by simpa using h)]; rfl
    · exfalso; simp at h <;> omega
theorem keepO_hit {α : Type} {p : α → Option Bool} {l r : List α} {i : Nat} {k : Int} (h : idxO p i l = some k) (hk : k ≠ -1) (hr : keepO p l = some r) :
    ∃ j : Nat, k = (i : Int) + j ∧ j < l.length ∧ (keepO p (l.drop (j + 1))).map (l.take j ++ ·) = some r := by
  induction l generalizing i r with
  | nil => exact absurd (by simpa [idxO] using h.symm) hk
  | cons x l ih =>
    unfold idxO at h
    obtain ⟨b, hb, h⟩ := Option.bind_eq_some_iff.1 h
    unfold keepO at hr
    rw [hb] at hr
    obtain ⟨r', hr', e⟩ := Option.map_eq_some_iff.1 (show (keepO p l).map (fun r => if b = true then r else x :: r) = some r from hr)
    cases b
    · obtain ⟨j, h1, h2, h3⟩ := ih (i := i + 1) (by simpa using h) hr'
      refine ⟨j + 1, by omega, by simp; omega, ?_⟩
      obtain ⟨r2, h4, h5⟩ := Option.map_eq_some_iff.1 h3
      rw [List.drop_succ_cons, h4]
      simp only [Option.map_some, List.take_succ_cons, List.cons_append, h5]
      simpa using e
    · refine ⟨0, by simp at h; omega, by simp, ?_⟩
      obtain rfl : r' = r := by simpa using e
      rw [show (x :: l).drop (0 + 1) = l from rfl, hr']
      simp
/-- 'clear(s[i:])' on a row of our own. -/
theorem clear_raw {P : Program} {sz : Nat} {T t : TypeId} {W : World} {base n cap i : Nat} {ok : Nat → Prop} {ad : Addr} {rows : List (List Value)} {z : Value} (h : (Kd.raw sz).R T W base ok (.slice (some ad) n cap) rows) (hi : i < n)
    (ht : P.underlying t = some (.slice T)) (hv : ∀ w, (zeroValue T).run P w = .ok z w) (hz : z.cells.size = sz) (h1 : ∀ u ∈ z.cells.toList, u.oneCell' = true) :
    ∃ w1, (∀ ty c2, (Builtin.clear_ #[t] ty #[.slice (some (ad.add (i * sz))) (n - i) c2]).run P W = .ok (.tuple #[]) w1) ∧ (Kd.raw sz).R T w1 base ok (.slice (some ad) i cap) (rows.take i) ∧ W.grownBy w1 (some ad.block) := by
  obtain ⟨hok, inner, hown, hr⟩ := h
  obtain ⟨hl, ho⟩ := hown
  rcases ho with ⟨h0, _⟩ | ⟨g, cap', cur, he, hb, hc, hn, hm, hs, htk⟩
  · cases h0
  injection he with he1 he2 he3
  injection he1 with he1
  subst he1 he2 he3
  have hzl : (Builtin.zeroCells z.cells (rows.length - i)).toList.length = (rows.length - i) * sz := by simp [Builtin.zeroCells, hz]
  have hle : i * sz + (rows.length - i) * sz = rows.length * sz := by rw [← Nat.add_mul]; congr 1; omega
  have hle2 : rows.length * sz ≤ cap * sz := Nat.mul_le_mul_right _ hn
  have hsz : (Kd.raw sz).sz = sz := rfl
  rw [hsz] at hs htk hl
  have hone : ∀ v ∈ (Builtin.zeroCells z.cells (rows.length - i)).toList, v.oneCell' = true := by
    intro v hv'
    simp only [Builtin.zeroCells, Array.toList_map, List.mem_map] at hv'
    obtain ⟨q, hq, rfl⟩ := hv'
    rcases Nat.eq_zero_or_pos z.cells.size with h0 | h0
    · simp [h0] at hq
    · have hlt : q % z.cells.size < z.cells.size := Nat.mod_lt _ h0
      rw [getElem!_pos z.cells _ hlt]
      exact h1 _ (Array.getElem_mem_toList hlt)
  have hst := run_storeCells_cells (P := P) g (i * sz) (Builtin.zeroCells z.cells (rows.length - i)).toList 0 W
    (fun j hj => by
      rw [hzl] at hj
      rw [blk_cell hc, Array.getElem?_eq_getElem (by omega)]
      rfl)
    (fun j hj => blk_frozen hc _) hone
  obtain ⟨cur', hc', hs', ht'⟩ := setCells_row (Builtin.zeroCells z.cells (rows.length - i)).toList (i * sz) W cur hc (by rw [hzl]; omega)
  have htl : (rows.take i).length = i := by rw [List.length_take]; omega
  have hile : i * sz ≤ cur.toList.length := by rw [Array.length_toList, hs]; exact Nat.mul_le_mul_right _ (by omega)
  have hile2 : i * sz ≤ rows.length * sz := Nat.mul_le_mul_right _ (by omega)
  refine ⟨W.setCells g (i * sz) (Builtin.zeroCells z.cells (rows.length - i)).toList, fun ty c2 => ?_, ⟨hok, inner.take (i * sz), ?_, ?_⟩, ?_⟩
  · obtain ⟨m, hm2⟩ : ∃ m, rows.length - i = m + 1 := ⟨rows.length - i - 1, by omega⟩
    rw [add_plain, hm2]
    rw [hm2] at hst
    simp [Builtin.clear_, run_underlying ht, hv, hst]
  · rw [htl]
    refine ⟨?_, .inr ⟨g, cap, cur', rfl, hb, hc', by omega, hm, by rw [hs']; exact hs, ?_⟩⟩
    · rw [List.length_take, hl, hsz]; omega
    · rw [hsz, ht', List.take_append_of_le_length (by rw [List.length_append, List.length_take]; omega), List.take_append_of_le_length (by rw [List.length_take]; omega), List.take_take, Nat.min_self, ← htk, List.take_take, Nat.min_eq_left hile2]
  · exact Kd.reps_take hr (by omega)
  · refine ⟨?_, ?_, ?_, ?_, fun k _ hk => setCells_far _ _ k (fun e => hk (by rw [e]))⟩
    · exact (setCells_same g _ _ W).1
    · exact (setCells_same g _ _ W).2.1
    · exact (setCells_same g _ _ W).2.2.1
    · exact Nat.le_of_eq (setCells_same g _ _ W).2.2.2.symm
end Go.Proofs.YtbmeebhcanknmaaDoor.XWords
