/- Words of ours: a literal of bytes that is converted ('[]byte("..")'), a string appended to a row of bytes that is told apart from others; over any program; no statement of the seat is proved here. -/
import Derived.Test.YtmicgojonpdelaaVLida
import Derived.Lib.SlBytesConst
import Derived.Lib.AppendStr
import Derived.Laws.Append
namespace Go.Proofs.Ytmicgojonpdelaa.XStr
open Go Go.RowKit Go.Proofs.YtmicgojonpdelaaW.PrintWords Go.Proofs.YtmicgojonpdelaaW.PrintLast Go.Proofs.YtmicgojonpdelaaW.PrintMore
set_option linter.unusedVariables false
variable {P : Program} {ops : Array Oper} {rest : List Oper} {o o2 : Oper} {a : Act} {Q : Exit → Act → World → Prop} {W w0 : World}

theorem marked_cell (W : World) (C : Array Value) (e : TypeId) (fr : Nat × Nat) (j : Nat) : (W.alloc (.cells C e fr)).cell? ⟨W.heap.size, j, none⟩ = C[j]? := by
  have : (W.alloc (.cells C e fr)).heap[W.heap.size]? = some (.cells C e fr) := by
    show (W.heap.push (.cells C e fr))[W.heap.size]? = _
    simp
  unfold World.cell?
  simp only [this]
  rfl
/-- '[]byte("..")' of a constant: the literal and its conversion, which marks the row. -/
theorem V_lit_conv (e t : TypeId) (hgd : o.guard = none) {N : Tmp} (hd : o.dst = some N) (hw2 : ∀ v : Value, Region.wanted o2 (yielded ops (a.put (some N) v).tmps) = true) (ho2 : o2.op = .convert t t (.tmp N)) (ht : P.underlying t = some (.slice e)) (he : P.underlying e = some (.int .u8)) {xs : List Int}
    (hev : ∀ v : Value, (a.put (some N) v).eval (.tmp N) = v)
    (hrun : (execOp a.eval o).run P W = .ok (.value (.slice (some ⟨W.heap.size, 0, none⟩) xs.length xs.length)) (W.alloc (.cells (nums .u8 xs).toArray e))) (hm : xs.length ≤ 9223372036854775807)
    (h : ∀ v1 w1, Kd.V (Kd.int .u8) e w1 W.heap.size (fun k_ => W.heap.size ≤ k_) v1 xs → Below W.heap.size W w1 → (∀ k, v1.ownBlock = some k → W.heap.size ≤ k) → True → wpList P ops Q rest ((a.put (some N) v1).put o2.dst v1) w1) :
    wpList P ops Q (o :: o2 :: rest) a W := by
  refine Kd.event_run hgd hrun ?_
  rw [hd]
  have hc : (execOp (a.put (some N) (.slice (some ⟨W.heap.size, 0, none⟩) xs.length xs.length)).eval o2).run P (W.alloc (.cells (nums .u8 xs).toArray e)) = .ok (.value (.slice (some ⟨W.heap.size, 0, none⟩) xs.length xs.length)) (W.alloc (.cells (nums .u8 xs).toArray e ((nums .u8 xs).toArray.size, (nums .u8 xs).toArray.size + 1))) := by
    have h2 := Lib.run_convert_bytes_const (P := P) W t e (nums .u8 xs).toArray xs.length xs.length ht he
    unfold execOp
    simp only [ho2, hev, Sem.run_bind, h2, Result.andThen_ok, Sem.run_pure]
  refine gate_guard (hw2 _) (Kd.event_run rfl hc (h _ _ ?_ ((Below.refl _ _).alloc (Nat.le_refl _) _) (fun k hk => ?_) trivial))
  · refine ⟨some ⟨W.heap.size, 0, none⟩, xs.length, rfl, Nat.le_refl _, fun W' hW => ?_⟩
    refine ⟨rfl, hm, fun h0 => ⟨_, rfl, fun j p hp => ⟨[.int .u8 p], rfl, rfl, fun i u hu => ?_⟩⟩⟩
    have hj : j < xs.length := (List.getElem?_eq_some_iff.1 hp).1
    have hb := hW W.heap.size (Nat.le_refl _) (by show W.heap.size < (W.heap.push _).size; simp)
    have hi : i = 0 := by
      rcases i with _ | i
      · rfl
      · simp at hu
    subst hi
    have hu' : u = .int .u8 p := by simpa using hu.symm
    subst hu'
    have hcell : W'.cell? ⟨W.heap.size, j, none⟩ = (W.alloc (.cells (nums .u8 xs).toArray e ((nums .u8 xs).toArray.size, (nums .u8 xs).toArray.size + 1))).cell? ⟨W.heap.size, j, none⟩ := by
      simp only [World.cell?, hb]
    have hadd : (⟨W.heap.size, 0, none⟩ : Addr).add (j * (Kd.int .u8).sz + 0) = ⟨W.heap.size, j, none⟩ := by
      show (⟨W.heap.size, 0, none⟩ : Addr).add (j * 1 + 0) = _
      rw [Addr.add_lit]
      congr 1
      omega
    rw [hadd, hcell, marked_cell]
    simp [nums, hp]
  · have : W.heap.size = k := by simpa [Value.ownBlock] using hk
    omega
theorem str_hat {base : Nat} {t u ty e : TypeId} {i : TypeInfo} (ht : P.underlying t = some (.slice e)) (hu : P.underlying u = some .string) (hi : P.info? e = some i) (hz : i.zero = some (.int .u8 0)) (hsize : i.size = 1) (hby : i.bytes = 1)
    {v : Value} {n : Nat} {xs : List Value} (hown : W.ownsRow base e 1 v n xs) (s : ByteArray) (h63 : n + s.size ≤ maxLen) (hb : n + s.size ≤ 140737488355328) {v' : Value} {w' : World}
    (hr : (Builtin.append_ #[t, u] ty #[v, .string s]).run P W = .ok v' w') (hnil : v' = .slice none 0 0 ↔ v = .slice none 0 0 ∧ s.size = 0) : v'.ownBlock = v.ownBlock ∨ ∃ b, v'.ownBlock = some b ∧ W.heap.size ≤ b := by
  have hsm : n + s.size ≤ 9223372036854775807 := by simp only [maxLen] at h63; omega
  have hcells := hown
  rcases hown.2 with ⟨rfl, rfl⟩ | ⟨g, cap, cur, rfl, hbg, hg, hnc, hcm, hcs, htake⟩
  · by_cases h0 : s.size = 0
    · left
      rw [hnil.2 ⟨rfl, h0⟩]
    · have h1 := run_append_nil_string (P := P) W t u ty e i (.int .u8 0) ht hu hi hz s (by omega) (by omega) (by rw [hby]; omega)
      rw [h1] at hr
      cases hr
      exact .inr ⟨W.heap.size, rfl, Nat.le_refl _⟩
  · have hcs' : cur.size = cap := by simpa using hcs
    by_cases hroom : n + s.size ≤ cap
    · have h1 := Lib.run_append_room_string (P := P) (w := W) t u ty e i ht hu hi hsize g n cap cur hg s hroom (by omega)
      rw [h1] at hr
      cases hr
      exact .inl rfl
    · have hxl : xs.length = n := by simpa using hown.1
      have h1 := Lib.run_append_grow_string (P := P) (w := W) t u ty e i (.int .u8 0) ht hu hi hz ⟨g, 0, none⟩ n cap xs (by rw [hsize]; simpa using hxl) (hcells.cells (g := g) rfl) s (by omega) (by omega) (by rw [hby]; exact growslice_fits (by omega) (by omega))
      rw [h1] at hr
      cases hr
      exact .inr ⟨W.heap.size, rfl, Nat.le_refl _⟩
/-- 'append(b, s...)' of a string, to a row that is told apart from others. -/
theorem R_append_str (base : Nat) (hgd : o.guard = none) (s x : Operand) (t u e : TypeId) (ho : o.op = .call { callee := .builtin .append, args := #[s, x], argTypes := #[t, u] })
    (ht : P.underlying t = some (.slice e)) (hu : P.underlying u = some .string) (hinfo : (P.info? e).map (fun i => (i.zero, i.size, i.bytes)) = some (some (.int .u8 0), 1, 1))
    (v : Value) (xs : List Int) (y : ByteArray) (ok : Nat → Prop) (hs : a.eval s = v) (hx : a.eval x = .string y)
    (hfresh : ∀ k, W.heap.size ≤ k → ok k) (HO : Kd.R (Kd.int .u8) e W base ok v xs) (HB : Below base w0 W) (hbase : base ≤ W.heap.size) (hl : xs.length + y.size ≤ 140737488355328)
    (h : ∀ v1 w1, Kd.R (Kd.int .u8) e w1 base ok v1 (xs ++ bytesOf y) → Below base w0 w1 → W.grownBy w1 v.ownBlock → (v1.ownBlock = v.ownBlock ∨ ∃ b, v1.ownBlock = some b ∧ W.heap.size ≤ b) → wpList P ops Q rest (a.put o.dst v1) w1) :
    wpList P ops Q (o :: rest) a W := by
  obtain ⟨i0, hi, hzz⟩ := Option.map_eq_some_iff.1 hinfo
  simp only [Prod.mk.injEq] at hzz
  obtain ⟨hz0, hz1, hz2⟩ := hzz
  have hown : W.ownsRow base e 1 v xs.length (nums .u8 xs) := Kd.own_of_R HO
  obtain ⟨v1, w1, hr, ho1, hg, hn⟩ := Lib.run_append_own_string (P := P) W base t u o.type e i0 ht hu hi hz0 hz1 hz2 v xs.length (nums .u8 xs) hown y (by simp only [maxLen]; omega) hl hbase
  have hat := str_hat ht hu hi hz0 hz1 hz2 hown y (by simp only [maxLen]; omega) hl hr hn
  refine wpList_plain hgd fun K hK => ?_
  unfold Oper.wp execOp
  simp only [ho, resolve, invoke, builtin, Sem.run_bind, Sem.run_pure, Result.andThen_ok, List.map_toArray, List.map_cons, List.map_nil, hs, hx, hr]
  refine hK _ _ (h v1 w1 ?_ (HB.grown hg hbase (own_base hown)) hg hat)
  have hl2 : (xs ++ bytesOf y).length = xs.length + y.size := by rw [List.length_append, bytesOf_length]
  have hc : nums .u8 (xs ++ bytesOf y) = nums .u8 xs ++ Lib.strCells y := by
    rw [nums_append]
    congr 1
    simp [nums, bytesOf, Lib.strCells]
  refine Kd.R_of_own (h1 := fun _ => rfl) (by rw [hl2]; rw [← hc] at ho1; exact ho1) (fun k hk => ?_)
  rcases hat with h1 | ⟨b, h1, h2⟩
  · exact HO.1 k (by rw [← h1]; exact hk)
  · rw [h1] at hk
    cases hk
    exact hfresh _ h2
/-- The string of a row that may be shared. -/
theorem V_string {P : Program} {src dst e e' : TypeId} {w : World} {base : Nat} {ok : Nat → Prop} {v : Value} {xs : List Int} (hs : P.underlying src = some (.slice e)) (he : P.underlying e = some (.int .u8)) (hd : P.underlying dst = some .string)
    (h : Kd.V (Kd.int .u8) e' w base ok v xs) : (convert src dst v).run P w = .ok (.string (strOfNums xs)) w := by
  obtain ⟨A, c, rfl⟩ := Kd.V_slice h
  exact Kd.C_string (A := A) (c := c) hs he hd (Kd.V_reads' h).2.2
theorem V_stringD {P : Program} {src dst e e' : TypeId} {w : World} {base : Nat} {ok : Nat → Prop} {v : Value} {xs : List Int} (hs : P.underlying src = some (.slice e)) (he : P.underlying e = some (.int .u8)) (hd : P.underlying dst = some .string)
    (h : Kd.V (Kd.int .u8) e' w base ok v xs) : ∀ q, (convert src dst v).run P (w.drewN q) = .ok (.string (strOfNums xs)) (w.drewN q) := fun q => V_string hs he hd (Kd.V_drewN h q)
theorem R_stringD {P : Program} {src dst e e' : TypeId} {w : World} {base : Nat} {ok : Nat → Prop} {v : Value} {xs : List Int} (hs : P.underlying src = some (.slice e)) (he : P.underlying e = some (.int .u8)) (hd : P.underlying dst = some .string)
    (h : Kd.R (Kd.int .u8) e' w base ok v xs) : ∀ q, (convert src dst v).run P (w.drewN q) = .ok (.string (strOfNums xs)) (w.drewN q) := fun q => own_string hs he hd (Kd.own_of_R (Kd.R_drewN h q))
/-- The same behind two stores to a block of another type. -/
theorem R_string2 {P : Program} {src dst e e' : TypeId} {w : World} {base : Nat} {ok : Nat → Prop} {v : Value} {xs : List Int} (hs : P.underlying src = some (.slice e)) (he : P.underlying e = some (.int .u8)) (hd : P.underlying dst = some .string)
    (h : Kd.R (Kd.int .u8) e' w base ok v xs) {g t : Nat} {cells : Array Value} (hb : w.heap[g]? = some (.cells cells t (0, 0))) (ht : e' ≠ t) :
    ∀ (i j : Nat) (u u' : Value), (convert src dst v).run P ((w.setCell ⟨g, i, none⟩ u).setCell ⟨g, j, none⟩ u') = .ok (.string (strOfNums xs)) ((w.setCell ⟨g, i, none⟩ u).setCell ⟨g, j, none⟩ u') := fun i j u u' => by
  have hq : ∀ q, q ∈ e' :: (Kd.int .u8).E → q ≠ t := by
    intro q hq
    rcases List.mem_cons.1 hq with rfl | hq
    · exact ht
    · cases hq
  have h1 := Kd.R_set h hb hq i u
  exact own_string hs he hd (Kd.own_of_R (Kd.R_set h1 (blk_set hb i u) hq j u'))
/-- An operation that yields a value and turns nothing. -/
theorem value_same {oi : Oper} {N : Option Tmp} {w : World} {v : Value} {K : Act → World → Prop} (hw : Region.wanted oi (yielded ops a.tmps) = true) (hN : oi.dst = N) (hrun : (execOp a.eval oi).run P w = .ok (.value v) w)
    (h : K (a.put N v) w) : if Region.wanted oi (yielded ops a.tmps) = true then Oper.wp P oi a w K Q else K (a.put N undef) w := value_ hw hN hrun h
end Go.Proofs.Ytmicgojonpdelaa.XStr
