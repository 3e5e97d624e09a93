/- From a row's reading of its arguments to the print's kinds (Kd), for structs, strings, slices of whatever depth; no statement of the seat is proved here. -/
import Derived.ProofKit
import Derived.ChangeArms
import Derived.SizedLaws
import Derived.Test.YtbmeebhcanknmaaDoorWWords
namespace Go.Proofs.YtbmeebhcanknmaaDoor.XOpen
open Go Go.RowKit Go.Proofs.YtbmeebhcanknmaaDoorW.PrintWords
set_option linter.unusedVariables false
variable {H : Type} {enc : TypeId × Value → H} {P : Program} {W : World}

theorem weightsAll_mem {e : TypeId} : ∀ {l : List (DataW H)} {d : DataW H}, d ∈ l → ∀ n ∈ d.weights P e, n ∈ DataW.weightsAll P e l
  | [], _, h, _, _ => by cases h
  | x :: l, d, h, n, hn => by
    simp only [DataW.weightsAll, List.mem_append]
    rcases List.mem_cons.1 h with rfl | h
    · exact .inl hn
    · exact .inr (weightsAll_mem h n hn)

/-- Cells that read as a datum of type t hold a value of the kind d, well formed and within reach. -/
def Opens (enc : TypeId × Value → H) (P : Program) (W : World) {α : Type} (d : Kd α) (t : TypeId) (WF : α → Prop) : Prop :=
  ∀ fuel cs dd ps, DataW.trod enc P W 0 (fun _ => true) true fuel t cs = some (dd, ps) → (∀ n ∈ dd.weights P t, n ≤ reachBytes) → ∃ x, d.K W x cs ∧ WF x

theorem opens_int {k : IntKind} {t : TypeId} (ht : P.underlying t = some (.int k)) : Opens enc P W (Kd.int k) t (fun x => (Lit.int k x).wf = true) := by
  intro fuel cs dd ps h _
  obtain ⟨n, rfl, _, hw⟩ := DataW.trod_int ht h
  exact ⟨n, rfl, hw⟩
theorem opens_bool {t : TypeId} (ht : P.underlying t = some .bool) : Opens enc P W Kd.bool t (fun _ => True) := by
  intro fuel cs dd ps h _
  obtain ⟨n, rfl, _⟩ := DataW.trod_bool ht h
  exact ⟨n, rfl, trivial⟩
theorem opens_string {t : TypeId} (ht : P.underlying t = some .string) : Opens enc P W Kd.string t (fun x => x.size ≤ 140737488351232) := by
  intro fuel cs dd ps h hs
  obtain ⟨s, rfl, hd, _⟩ := DataW.trod_string ht h
  obtain ⟨rfl, _⟩ := Prod.mk.inj hd
  refine ⟨s, rfl, ?_⟩
  have := hs s.data.toList.length (by simp [DataW.weights])
  rw [data_length] at this
  exact this
/-- A slice: its length, and each of its elements. -/
def WFs {α : Type} (b : Nat) (WF : α → Prop) (l : List α) : Prop := l.length * b ≤ 140737488351232 ∧ ∀ x ∈ l, WF x
theorem opens_slice {α : Type} {d : Kd α} {t e : TypeId} {WF : α → Prop} (ht : P.underlying t = some (.slice e)) (hc : P.cellsOf e = d.sz) (h0 : Opens enc P W d e WF) {b : Nat} (hb : P.bytesOf e = b) :
    Opens enc P W (Kd.slice e d) t (WFs b WF) := by
  intro fuel cs dd ps h hs
  rcases DataW.trod_slice ht h with ⟨rfl, hx⟩ | ⟨a, len, cap, elems, rest, n, rfl, rfl, hx, _, hl, hm, hel, hget, _, _⟩
  · exact ⟨[], ⟨none, 0, rfl, Nat.le_refl _, rfl, by simp, fun h => by simp at h⟩, by simp [WFs]⟩
  · obtain ⟨rfl, _⟩ := Prod.mk.inj hx
    have hlen : (len + rest.length) * b ≤ 140737488351232 := by
      have := hs ((elems.length + rest.length) * P.bytesOf e) (by simp [DataW.weights, ht])
      rw [hel, hb] at this
      exact this
    have key : ∀ i, i < len → ∃ x c, c.length = d.sz ∧ d.K W x c ∧ WF x ∧ ∀ j u, c[j]? = some u → W.cell? (a.add (i * d.sz + j)) = some u := by
      intro i hi
      have hg := hget i hi
      have hie : i < elems.length := by omega
      rw [List.getElem?_eq_getElem hie] at hg
      obtain ⟨c, hcs, ht2⟩ := Option.bind_eq_some_iff.1 hg
      obtain ⟨x, hK, hw⟩ := h0 n c elems[i].1 elems[i].2 ht2 (fun m hm2 => hs m (by
        simp only [DataW.weights, ht, List.mem_cons, List.mem_append]
        exact .inr (.inl (weightsAll_mem (List.mem_map.2 ⟨elems[i], List.getElem_mem hie, rfl⟩) m hm2))))
      refine ⟨x, c, d.K_len hK, hK, hw, ?_⟩
      intro j u hu
      unfold World.cells? at hcs
      rw [if_pos (Nat.zero_le _), hc] at hcs
      have hj : j < d.sz := by
        have := (List.getElem?_eq_some_iff.1 hu).1
        rw [d.K_len hK] at this; exact this
      have := mapM_some_get hcs j j (by simp [hj])
      rw [hu] at this
      rw [← this]
      congr 1
      unfold Addr.add
      have key2 : ∀ (x y : Nat) (p : Addr), (p.add x).add y = p.add (x + y) := by
        intro x y p; unfold Addr.add; split <;> split <;> simp_all <;> omega
      exact (key2 _ _ a).symm
    have hch : ∀ m, m ≤ len → ∃ xs : List α, xs.length = m ∧ (∀ x ∈ xs, WF x) ∧ ∀ j p, xs[j]? = some p → ∃ c, c.length = d.sz ∧ d.K W p c ∧ ∀ i u, c[i]? = some u → W.cell? (a.add (j * d.sz + i)) = some u := by
      intro m
      induction m with
      | zero => exact fun _ => ⟨[], rfl, by simp, by simp⟩
      | succ m ih =>
        intro hm2
        obtain ⟨xs, h1, h2, h3⟩ := ih (by omega)
        obtain ⟨x, c, k1, k2, k3, k4⟩ := key m (by omega)
        refine ⟨xs ++ [x], by simp [h1], ?_, ?_⟩
        · intro y hy
          rcases List.mem_append.1 hy with hy | hy
          · exact h2 y hy
          · rw [List.mem_singleton.1 hy]; exact k3
        · intro j p hp
          rcases Nat.lt_or_ge j xs.length with hj | hj
          · rw [List.getElem?_append_left hj] at hp; exact h3 j p hp
          · rw [List.getElem?_append_right hj] at hp
            obtain ⟨hjj, hp2⟩ := List.getElem?_eq_some_iff.1 hp
            simp at hjj hp2
            have : j = m := by omega
            subst this; subst hp2
            exact ⟨c, k1, k2, k4⟩
    obtain ⟨xs, h1, h2, h3⟩ := hch len (Nat.le_refl _)
    refine ⟨xs, ⟨some a, cap, by rw [h1], by omega, by rw [h1]; exact ⟨h1, by unfold maxLen at hm; omega, fun _ => ⟨a, rfl, h3⟩⟩⟩, ?_, h2⟩
    rw [h1]
    exact Nat.le_trans (Nat.mul_le_mul_right _ (Nat.le_add_right _ _)) hlen
/-- The fields of a struct from the one at offset o on. -/
def OpensF (enc : TypeId × Value → H) (P : Program) (W : World) {α : Type} (d : Kd α) (fs : List Field) (o : Nat) (WF : α → Prop) : Prop :=
  ∀ n (cs : List Value) (xs : List (DataW H × List MemPlace)), xs.length = fs.length → (∀ (i : Nat) (f : Field), fs[i]? = some f → DataW.trod enc P W 0 (fun _ => true) true n f.type ((cs.drop f.offset).take (P.cellsOf f.type)) = xs[i]?) →
    (∀ m ∈ DataW.weightsEach P (fs.map (·.type)) (xs.map (·.1)), m ≤ reachBytes) → ∃ x, d.K W x ((cs.drop o).take d.sz) ∧ WF x
theorem opensF_last {α : Type} {d : Kd α} {f : Field} {WF : α → Prop} {t o : Nat} (h : Opens enc P W d t WF) (ht : f.type = t) (ho : f.offset = o) (hc : P.cellsOf t = d.sz) : OpensF enc P W d [f] o WF := by
  intro n cs xs hl hg hs
  obtain ⟨x, rfl⟩ : ∃ x, xs = [x] := by
    match xs, hl with
    | [x], _ => exact ⟨x, rfl⟩
  have h1 := hg 0 f rfl
  rw [ht, ho, hc] at h1
  refine h n _ x.1 x.2 h1 (fun m hm => hs m ?_)
  simp only [List.map_cons, List.map_nil, DataW.weightsEach, List.append_nil, ht]
  exact hm
theorem opensF_cons {α β : Type} {d : Kd α} {b : Kd β} {f : Field} {fs : List Field} {WF : α → Prop} {WG : β → Prop} {t o : Nat} (h : Opens enc P W d t WF) (ht : f.type = t) (ho : f.offset = o) (hc : P.cellsOf t = d.sz) (hr : OpensF enc P W b fs (o + d.sz) WG) :
    OpensF enc P W (Kd.pair d b) (f :: fs) o (fun x => WF x.1 ∧ WG x.2) := by
  intro n cs xs hl hg hs
  obtain ⟨x, xs, rfl⟩ : ∃ x ys, xs = x :: ys := by
    match xs, hl with
    | x :: ys, _ => exact ⟨x, ys, rfl⟩
  have h1 := hg 0 f rfl
  rw [ht, ho, hc] at h1
  obtain ⟨y, hK, hw⟩ := h n _ x.1 x.2 h1 (fun m hm => hs m (by simp only [List.map_cons, DataW.weightsEach, List.mem_append, ht]; exact .inl hm))
  obtain ⟨z, hK2, hw2⟩ := hr n cs xs (by simpa using hl) (fun i g hi => by have := hg (i + 1) g (by simpa using hi); simpa using this)
    (fun m hm => hs m (by simp only [List.map_cons, DataW.weightsEach, List.mem_append]; exact .inr hm))
  refine ⟨(y, z), ⟨_, _, ?_, hK, hK2⟩, hw, hw2⟩
  show (cs.drop o).take (d.sz + b.sz) = _
  rw [List.take_add, List.drop_drop]
theorem opens_struct {α β : Type} {d : Kd α} {fs : Array Field} {t : TypeId} {WF : α → Prop} {g : β → α} {gi : α → β} (ht : P.underlying t = some (.struct fs)) (hc : P.cellsOf t = d.sz) (h : OpensF enc P W d fs.toList 0 WF) (hg : ∀ y, g (gi y) = y) :
    Opens enc P W (Kd.iso d g) t (fun x => WF (g x)) := by
  intro fuel cs dd ps hh hs
  obtain ⟨xs, n, rfl, hx, hl, hxl, hget⟩ := DataW.trod_struct ht hh
  obtain ⟨rfl, _⟩ := Prod.mk.inj hx
  obtain ⟨y, hK, hw⟩ := h n cs xs (by simpa using hxl) (fun i f hf => hget i f (by simpa using hf)) (fun m hm => hs m (by simp only [DataW.weights, ht]; exact hm))
  refine ⟨gi y, ?_, by show WF (g (gi y)); rw [hg]; exact hw⟩
  show d.K W (g (gi y)) cs
  rw [hg]
  rw [List.drop_zero, List.take_of_length_le (by omega)] at hK
  exact hK
/-- What a parameter holds. -/
theorem opens_param {α : Type} {d : Kd α} {t : TypeId} {WF : α → Prop} (h : Opens enc P W d t WF) {v : Value} {dd : DataW H} {p : List MemPlace} {ts : List TypeId} {ds : List (DataW H)} {j : Nat}
    (hsz : (DataW.weightsEach P ts ds).all (· ≤ reachBytes) = true) (ht : ts[j]? = some t) (hd : ds[j]? = some dd) (hr : DataW.Trod enc P W 0 (fun _ => true) true t v dd p) : ∃ x, d.K W x v.cells.toList ∧ WF x := by
  obtain ⟨fuel, hf⟩ := hr
  exact h fuel _ _ _ hf (fun n hn => by simpa using List.all_eq_true.1 hsz _ (DataW.weights_mem_each ht hd n hn))
end Go.Proofs.YtbmeebhcanknmaaDoor.XOpen
