/- Domains, and the envelopes for them, with all errors, are as specified: for every envelope and every domain within reach the law's own function answers true. -/
import Derived.Test.YtbmeebhcanknmaaDoorXDomSEnvelopeDomainsMatchSpec
import Derived.Test.YtbmeebhcanknmaaDoorVDoma
namespace Go.Proofs.YtbmeebhcanknmaaDoor.XDom.PEnvelopeDomainsMatchSpec
open Go Go.RowKit Go.Proofs.YtbmeebhcanknmaaDoorW.PrintWords Go.Proofs.YtbmeebhcanknmaaDoor.XDom
set_option linter.unusedVariables false
set_option linter.unusedSimpArgs false
/-- From some number of rounds on. -/
def Ev {β : Type} (f : Nat → Option β) (v : β) : Prop := ∃ K, ∀ k, K ≤ k → f k = some v
theorem Ev.const {β : Type} {f : Nat → Option β} {v : β} (h : ∀ k, f k = some v) : Ev f v := ⟨0, fun k _ => h k⟩
theorem Ev.some_ {β : Type} (v : β) : Ev (fun _ => some v) v := .const fun _ => rfl
theorem Ev.bind {α β : Type} {f : Nat → Option α} {g : Nat → α → Option β} {a : α} {v : β} (h : Ev f a) (h2 : Ev (fun k => g k a) v) : Ev (fun k => (f k).bind (g k)) v := by
  obtain ⟨K, hK⟩ := h
  obtain ⟨M, hM⟩ := h2
  refine ⟨max K M, fun k hk => ?_⟩
  show (f k).bind (g k) = some v
  rw [hK k (by omega)]
  exact hM k (by omega)
theorem Ev.succ {β : Type} {f : Nat → Option β} {v : β} (h : Ev (fun k => f (k + 1)) v) : Ev f v := by
  obtain ⟨K, hK⟩ := h
  refine ⟨K + 1, fun k hk => ?_⟩
  obtain ⟨k, rfl⟩ : ∃ j, k = j + 1 := ⟨k - 1, by omega⟩
  exact hK k (by omega)
theorem Ev.congr {β : Type} {f g : Nat → Option β} {v : β} (h : Ev f v) (e : ∀ k, g k = f k) : Ev g v := by
  obtain ⟨K, hK⟩ := h
  exact ⟨K, fun k hk => (e k).trans (hK k hk)⟩
theorem Ev.val {β : Type} {f : Nat → Option β} {v v' : β} (h : Ev f v) (e : v = v') : Ev f v' := e ▸ h
theorem Ev.ex {β : Type} {f : Nat → Option β} {v : β} (h : Ev f v) : ∃ k, f k = some v := by
  obtain ⟨K, hK⟩ := h
  exact ⟨K, hK K (Nat.le_refl _)⟩
theorem w64 (n : Int) (h : -9223372036854775808 ≤ n ∧ n ≤ 9223372036854775807) : wrap64 n = n := by unfold wrap64; omega
/-- A text's bytes, as natural numbers. -/
def by_ (a : ByteArray) : List Nat := a.data.toList.map UInt8.toNat
theorem by_len (a : ByteArray) : (by_ a).length = a.size := by unfold by_; rw [List.length_map]; exact Array.length_toList
theorem by_lt (a : ByteArray) : ∀ n ∈ by_ a, n < 256 := by
  intro n hn
  obtain ⟨b, _, rfl⟩ := List.mem_map.1 hn
  exact b.toNat_lt
theorem bt_by (a : ByteArray) (i : Nat) (h : i < a.size) : bt a i = ((by_ a)[i]'(by rw [by_len]; exact h) : Nat) := by
  unfold bt
  rw [dif_pos (by simpa using h)]
  simp [by_]
  rfl
def okl (n : Nat) : Bool := decide (97 ≤ n ∧ n ≤ 122) || decide (65 ≤ n ∧ n ≤ 90) || decide (48 ≤ n ∧ n ≤ 57) || n == 45 || n == 95 || n == 46 || n == 43 || n == 61
def isLet (n : Nat) : Bool := decide (97 ≤ n ∧ n ≤ 122) || decide (65 ≤ n ∧ n ≤ 90)
def isDig (n : Nat) : Bool := decide (48 ≤ n ∧ n ≤ 57)
theorem letter_val (n : Nat) : envelope_letter.f (n : Int) = some (isLet n) := by
  unfold envelope_letter.f isLet
  repeat' split
  all_goals (congr 1; rw [Bool.eq_iff_iff]; simp; try omega)
theorem digit_val (n : Nat) : envelope_digit.f (n : Int) = some (isDig n) := by
  unfold envelope_digit.f isDig
  repeat' split
  all_goals (congr 1; rw [Bool.eq_iff_iff]; simp; try omega)
theorem local_body : ∀ n : Nat, n < 256 → (strings_IndexByte.f (⟨#[45, 95, 46, 43, 61]⟩ : ByteArray) (n : Int)).map (fun t => decide (t < 0)) = some (!(n == 45 || n == 95 || n == 46 || n == 43 || n == 61)) := by decide +kernel
def lenOk (n : Nat) : Bool := decide (1 ≤ n ∧ n ≤ 60)
theorem isLocal_loop (a : ByteArray) (hs : a.size ≤ 140737488351232) : ∀ d i, i + d = a.size → Ev (fun k => envelope_isLocal.l0 k a (a.size : Int) (i : Int)) (((by_ a).drop i).all okl && lenOk a.size)
  | 0, i, h => by
    refine Ev.succ (Ev.const fun k => ?_)
    unfold envelope_isLocal.l0
    rw [if_neg (by omega), List.drop_eq_nil_of_le (by rw [by_len]; omega)]
    unfold lenOk
    split
    all_goals (congr 1; rw [Bool.eq_iff_iff]; simp; omega)
  | d + 1, i, h => by
    have ih := isLocal_loop a hs d (i + 1) (by omega)
    have hi : i < (by_ a).length := by rw [by_len]; omega
    refine Ev.succ ?_
    unfold envelope_isLocal.l0
    have h2 : wrap64 ((i : Int) + 1) = ((i + 1 : Nat) : Int) := by rw [w64 _ (by omega)]; omega
    simp only [if_pos (show (i : Int) < (a.size : Int) by omega), if_pos (show (0 : Int) ≤ (i : Int) by omega), bt_by a i (by omega), letter_val, digit_val, h2, Option.bind_some]
    have hlt := by_lt a _ (List.getElem_mem hi)
    rw [List.drop_eq_getElem_cons hi, List.all_cons]
    generalize (by_ a)[i] = n at hlt ⊢
    have hb := local_body n hlt
    obtain ⟨t, ht, htb⟩ := Option.map_eq_some_iff.1 hb
    simp only [ht, Option.bind_some]
    by_cases h1 : isLet n = true
    · have : okl n = true := by unfold okl; unfold isLet at h1; simp only [h1, Bool.true_or]
      simp only [h1, if_true, this, Bool.true_and]
      exact ih
    · by_cases h3 : isDig n = true
      · have : okl n = true := by unfold okl; unfold isDig at h3; simp only [h3, Bool.true_or, Bool.or_true]
        simp only [h1, h3, if_true, this, Bool.true_and]
        exact ih
      · by_cases h4 : t < 0
        · have : okl n = false := by
            unfold okl
            unfold isLet at h1
            unfold isDig at h3
            rw [decide_eq_true h4] at htb
            simp only [Bool.not_eq_true] at h1 h3
            simp only [h1, h3, Bool.false_or]
            simpa using htb.symm
          simp only [h1, h3, h4, if_true, this, Bool.false_and]
          exact Ev.some_ _
        · have : okl n = true := by
            unfold okl
            unfold isLet at h1
            unfold isDig at h3
            rw [decide_eq_false h4] at htb
            simp only [Bool.not_eq_true] at h1 h3
            simp only [h1, h3, Bool.false_or]
            cases hx : (n == 45 || n == 95 || n == 46 || n == 43 || n == 61) with
            | true => rfl
            | false => rw [hx] at htb; cases htb
          simp only [h1, h3, h4, if_false, this, Bool.true_and]
          exact ih
theorem isLocal_ev (a : ByteArray) (hs : a.size ≤ 140737488351232) : Ev (fun k => envelope_isLocal.f k a) ((by_ a).all okl && lenOk a.size) := by
  have := isLocal_loop a hs a.size 0 (by omega)
  simpa [envelope_isLocal.f] using this
def okc (n : Nat) : Bool := decide (97 ≤ n ∧ n ≤ 122) || decide (48 ≤ n ∧ n ≤ 57) || n == 45
/-- A domain's letters; b: a label begins here. -/
def dz : Bool → List Nat → Bool
  | b, [] => !b
  | b, c :: l => if c = 46 then !b && dz true l else okc c && dz false l
theorem In_val (a b c : Int) : posthouseref3_In.f a b c = some (decide (b ≤ a ∧ a ≤ c)) := by
  unfold posthouseref3_In.f
  split
  all_goals (congr 1; rw [Bool.eq_iff_iff]; simp; try omega)
theorem dom_loop (a : ByteArray) (hs : a.size ≤ 140737488351232) : ∀ d i, i + d = a.size → (d = 0 → i ≠ 0 → (by_ a)[i - 1]? ≠ some 46) → Ev (fun k => posthouseref3_DomainOk.l0 k a (i : Int)) (dz (decide (i = 0) || (by_ a)[i - 1]? == some 46) ((by_ a).drop i) && lenOk a.size)
  | 0, i, h, hd => by
    refine Ev.succ (Ev.const fun k => ?_)
    unfold posthouseref3_DomainOk.l0
    rw [if_neg (by omega), List.drop_eq_nil_of_le (by rw [by_len]; omega), In_val]
    simp only [Option.bind_some, dz]
    congr 1
    unfold lenOk
    rw [Bool.eq_iff_iff]
    by_cases h0 : i = 0
    · simp [h0]; omega
    · have := hd rfl h0
      simp [h0, this]
      try omega
  | d + 1, i, h, hd => by
    have hi : i < (by_ a).length := by rw [by_len]; omega
    have h2 : wrap64 ((i : Int) + 1) = ((i + 1 : Nat) : Int) := by rw [w64 _ (by omega)]; omega
    have h3 : wrap64 ((a.size : Int) - 1) = ((a.size - 1 : Nat) : Int) := by rw [w64 _ (by omega)]; omega
    have hget : (by_ a)[i]? = some (by_ a)[i] := List.getElem?_eq_getElem hi
    refine Ev.succ ?_
    unfold posthouseref3_DomainOk.l0
    simp only [if_pos (show (i : Int) < (a.size : Int) by omega), if_pos (show (0 : Int) ≤ (i : Int) by omega), bt_by a i (by omega), h3]
    have hlt := by_lt a _ (List.getElem_mem hi)
    rw [List.drop_eq_getElem_cons hi]
    have hw : wrap64 (((by_ a)[i] : Nat) : Int) = (((by_ a)[i] : Nat) : Int) := w64 _ (by omega)
    rw [hw]
    -- what j1 does
    have hj : ∀ c : Nat, (by_ a)[i] = c → c ≠ 46 ∨ d ≠ 0 → Ev (fun k => posthouseref3_DomainOk.j1 k a (i : Int) (c : Int) false) ((okc c || c == 46) && (dz (c == 46) ((by_ a).drop (i + 1)) && lenOk a.size)) := by
      intro c hc hcd
      have ih := dom_loop a hs d (i + 1) (by omega) (fun hd0 _ he => by
        rw [Nat.add_sub_cancel, hget, hc] at he
        have he : c = 46 := by simpa using he
        rcases hcd with h | h
        · exact h he
        · exact h hd0)
      rw [Nat.add_sub_cancel, hget, hc] at ih
      have ih2 : Ev (fun k => posthouseref3_DomainOk.l0 k a (((i + 1 : Nat)) : Int)) (dz (c == 46) ((by_ a).drop (i + 1)) && lenOk a.size) := by
        refine ih.val ?_
        congr 1
      refine Ev.succ ?_
      unfold posthouseref3_DomainOk.j1
      simp only [In_val, Option.bind_some, h2, if_pos (show (i : Int) < (a.size : Int) by omega), if_pos (show (0 : Int) ≤ (i : Int) by omega), bt_by a i (by omega), hc, Bool.false_eq_true, if_false]
      by_cases h1 : 97 ≤ c ∧ c ≤ 122
      · have e1 : okc c = true := by unfold okc; simp [h1]
        rw [e1, Bool.true_or, Bool.true_and]
        refine ih2.congr fun k => ?_
        rw [if_pos (by simp; omega)]
      · by_cases h4 : 48 ≤ c ∧ c ≤ 57
        · have e1 : okc c = true := by unfold okc; simp [h4]
          rw [e1, Bool.true_or, Bool.true_and]
          refine ih2.congr fun k => ?_
          rw [if_neg (by simp; omega), if_pos (by simp; omega)]
        · by_cases h5 : c = 45
          · have e1 : okc c = true := by unfold okc; simp [h5]
            rw [e1, Bool.true_or, Bool.true_and]
            refine ih2.congr fun k => ?_
            rw [if_neg (by simp; omega), if_neg (by simp; omega), if_pos (by omega)]
          · have e1 : okc c = false := by
              unfold okc
              rw [decide_eq_false h1, decide_eq_false h4]
              simpa using h5
            rw [e1, Bool.false_or]
            by_cases h6 : c = 46
            · rw [beq_iff_eq.2 h6, Bool.true_and]
              rw [beq_iff_eq.2 h6] at ih2
              refine ih2.congr fun k => ?_
              rw [if_neg (by simp; omega), if_neg (by simp; omega), if_neg (by omega), if_pos (by omega)]
            · have e6 : (c == 46) = false := by simpa using h6
              rw [e6, Bool.false_and]
              refine Ev.const fun k => ?_
              rw [if_neg (by simp; omega), if_neg (by simp; omega), if_neg (by omega), if_neg (by omega)]
    have hbad : ∀ c : Int, Ev (fun k => posthouseref3_DomainOk.j1 k a (i : Int) c true) false := fun c => by
      refine Ev.succ (Ev.const fun k => ?_)
      unfold posthouseref3_DomainOk.j1
      rw [if_pos rfl]
    by_cases hc : (by_ a)[i] = 46
    · have e46 : okc 46 = false := by decide
      by_cases h0 : i = 0
      · subst h0
        refine ((hbad (((by_ a)[0]'(by omega) : Nat) : Int)).congr fun k => ?_).val (by simp [hc, dz])
        rw [if_pos (by omega), if_pos (by omega)]
      · by_cases hl : d = 0
        · refine ((hbad (((by_ a)[i] : Nat) : Int)).congr fun k => ?_).val ?_
          · rw [if_pos (by omega), if_neg (by omega), if_pos (by omega)]
          · rw [List.drop_eq_nil_of_le (by rw [by_len]; omega)]
            simp [hc, dz]
        · have h5 : wrap64 ((i : Int) - 1) = ((i - 1 : Nat) : Int) := by rw [w64 _ (by omega)]; omega
          have hp : (by_ a)[i - 1]? = some ((by_ a)[i - 1]'(by rw [by_len]; omega)) := List.getElem?_eq_getElem (by rw [by_len]; omega)
          have hbt := bt_by a (i - 1) (by omega)
          simp only [if_pos (show (((by_ a)[i] : Nat) : Int) = 46 by omega), if_neg (show ¬ (i : Int) = 0 by omega), if_neg (show ¬ (i : Int) = ((a.size - 1 : Nat) : Int) by omega), h5, if_pos (show (0 : Int) ≤ ((i - 1 : Nat) : Int) by omega), if_pos (show ((i - 1 : Nat) : Int) < (a.size : Int) by omega), hbt]
          rw [hp]
          generalize (by_ a)[i - 1]'(by rw [by_len]; omega) = q
          by_cases hq : q = 46
          · subst hq
            refine ((hbad (((by_ a)[i] : Nat) : Int)).congr fun k => rfl).val (by simp [hc, dz])
          · have h6 : (((q : Nat) : Int) == 46) = false := by rw [beq_eq_false_iff_ne]; omega
            have := hj _ rfl (.inr hl)
            rw [h6]
            refine this.val ?_
            rw [hc, dz, if_pos rfl, e46]
            have hqb : (q == 46) = false := by simpa using hq
            simp [h0, hqb]
    · have hcb : ((by_ a)[i] == 46) = false := by simpa using hc
      have := hj _ rfl (.inl hc)
      rw [hcb, Bool.or_false] at this
      rw [dz, if_neg hc]
      refine (this.congr fun k => ?_).val (by rw [Bool.and_assoc])
      rw [if_neg (by omega)]

theorem DomainOk_ev (a : ByteArray) (hs : a.size ≤ 140737488351232) : Ev (fun k => posthouseref3_DomainOk.f k a) (dz true (by_ a) && lenOk a.size) := by
  have := dom_loop a hs a.size 0 (by omega) (fun _ h => absurd rfl h)
  simpa [posthouseref3_DomainOk.f] using this
/-- The split says the same. -/
theorem okc_C (b : UInt8) : IsDomainX.okC (b.toNat : Int) = okc b.toNat := by
  unfold IsDomainX.okC okc
  rw [Bool.eq_iff_iff]
  simp
  omega
theorem all_split : ∀ l : List UInt8, ((SplitSeq.split1 46 l).all IsDomainX.okL = dz true (l.map UInt8.toNat)) ∧ ∃ h t, SplitSeq.split1 46 l = h :: t ∧ ((h.all fun c => IsDomainX.okC (c.toNat : Int)) && t.all IsDomainX.okL) = dz false (l.map UInt8.toNat)
  | [] => by
    refine ⟨by decide, [], [], ?_, by decide⟩
    rfl
  | c :: l => by
    obtain ⟨h1, h, t, h2, h3⟩ := all_split l
    by_cases hc : c = 46
    · subst hc
      have e : SplitSeq.split1 46 (46 :: l) = [] :: SplitSeq.split1 46 l := by rw [SplitSeq.split1, if_pos (by decide)]
      refine ⟨?_, [], _, e, ?_⟩
      · rw [e, List.all_cons, List.map_cons, show (46 : UInt8).toNat = 46 from rfl, dz, if_pos rfl]
        rw [show IsDomainX.okL [] = false by decide]
        rfl
      · rw [h1, List.map_cons, show (46 : UInt8).toNat = 46 from rfl, dz, if_pos rfl]
        rfl
    · have e : SplitSeq.split1 46 (c :: l) = (c :: h) :: t := by rw [SplitSeq.split1, if_neg (by simpa using hc), h2]
      have hn : c.toNat ≠ 46 := fun he => hc (UInt8.toNat_inj.1 (by rw [he]; rfl))
      have hd : ∀ b, dz b ((c :: l).map UInt8.toNat) = (okc c.toNat && dz false (l.map UInt8.toNat)) := fun b => by rw [List.map_cons, dz, if_neg hn]
      refine ⟨?_, c :: h, t, e, ?_⟩
      · rw [e, hd, ← h3, List.all_cons, ← okc_C, IsDomainX.okL, List.all_cons]
        simp [Bool.and_assoc]
      · rw [hd, ← h3, List.all_cons, okc_C, Bool.and_assoc]
theorem IsDomain_val (a : ByteArray) : envelope_IsDomain.f a = some (dz true (by_ a) && decide (a.size ≤ 60)) := by
  unfold envelope_IsDomain.f
  congr 1
  unfold IsDomainX.okD
  rw [(all_split _).1]
  by_cases h : 60 < a.size
  · rw [if_pos (by omega), decide_eq_false (by omega)]; simp
  · rw [if_neg (by omega), decide_eq_true (by omega)]; simp [by_]
theorem dz_nil {l : List Nat} (h : dz true l = true) : 1 ≤ l.length := by
  cases l with
  | nil => simp [dz] at h
  | cons c l => simp
def pos (L : List Nat) : Nat := L.findIdx (· == 64)
theorem pos_le (L : List Nat) : pos L ≤ L.length := List.findIdx_le_length
/-- An address, on its bytes. -/
def adr (L : List Nat) : Bool := (L.take (pos L)).all okl && lenOk (pos L) && decide (pos L < L.length) && (dz true (L.drop (pos L + 1)) && lenOk (L.length - (pos L + 1)))
theorem by_extract (a : ByteArray) (i j : Nat) (h : j ≤ a.size) : by_ (a.extract i j) = ((by_ a).drop i).take (j - i) := by
  unfold by_
  rw [← List.map_drop, ← List.map_take]
  congr 1
  rw [ByteArray.data_extract, Array.toList_extract, List.extract_eq_take_drop]
theorem sign_loop (a : ByteArray) (hs : a.size ≤ 140737488351232) : ∀ d i, i + d = a.size → Ev (fun k => posthouseref3_sign.l0 k a (i : Int)) ((i + pos ((by_ a).drop i) : Nat) : Int)
  | 0, i, h => by
    refine Ev.succ (Ev.const fun k => ?_)
    unfold posthouseref3_sign.l0
    rw [if_neg (by omega), List.drop_eq_nil_of_le (by rw [by_len]; omega)]
    simp [pos]; omega
  | d + 1, i, h => by
    have ih := sign_loop a hs d (i + 1) (by omega)
    have hi : i < (by_ a).length := by rw [by_len]; omega
    have h2 : wrap64 ((i : Int) + 1) = ((i + 1 : Nat) : Int) := by rw [w64 _ (by omega)]; omega
    refine Ev.succ ?_
    unfold posthouseref3_sign.l0
    simp only [if_pos (show (i : Int) < (a.size : Int) by omega), if_pos (show (0 : Int) ≤ (i : Int) by omega), bt_by a i (by omega), h2]
    rw [List.drop_eq_getElem_cons hi]
    unfold pos at ih ⊢
    rw [List.findIdx_cons]
    by_cases hc : (by_ a)[i] = 64
    · refine Ev.const fun k => ?_
      rw [if_pos (by omega), hc]
      simp
    · have hb : ((by_ a)[i] == 64) = false := by simpa using hc
      refine (ih.congr fun k => ?_).val ?_
      · rw [if_neg (by omega)]
      · rw [hb]; simp; omega
theorem sign_ev (a : ByteArray) (hs : a.size ≤ 140737488351232) : Ev (fun k => posthouseref3_sign.f k a) (pos (by_ a) : Int) := by
  have := sign_loop a hs a.size 0 (by omega)
  simpa [posthouseref3_sign.f] using this
theorem lod_val (n : Nat) (h : n < 256) : posthouseref3_letterOrDigit.f (n : Int) = some (isLet n || isDig n) := by
  unfold posthouseref3_letterOrDigit.f
  rw [w64 _ (by omega)]
  simp only [In_val, Option.bind_some]
  unfold isLet isDig
  by_cases h1 : 97 ≤ n ∧ n ≤ 122
  · rw [if_pos (by simp; omega)]; simp [h1]
  · rw [if_neg (by simp; omega)]
    by_cases h2 : 65 ≤ n ∧ n ≤ 90
    · rw [if_pos (by simp; omega)]; simp [h2]
    · rw [if_neg (by simp; omega)]
      congr 1
      rw [Bool.eq_iff_iff]; simp; omega
theorem addr_loop (a : ByteArray) (hs : a.size ≤ 140737488351232) (p : Nat) (hp : p ≤ a.size) : ∀ d i, i + d = p → Ev (fun k => posthouseref3_AddressOk.l0 k a (p : Int) (i : Int)) ((((by_ a).take p).drop i).all okl && lenOk p && decide (p < a.size) && (dz true ((by_ a).drop (p + 1)) && lenOk (a.size - (p + 1))))
  | 0, i, h => by
    refine Ev.succ ?_
    unfold posthouseref3_AddressOk.l0
    have h2 : wrap64 ((p : Int) + 1) = ((p + 1 : Nat) : Int) := by rw [w64 _ (by omega)]; omega
    simp only [if_neg (show ¬ (i : Int) < (p : Int) by omega), In_val, Option.bind_some, h2]
    rw [List.drop_eq_nil_of_le (by rw [List.length_take]; omega)]
    by_cases h1 : 1 ≤ p ∧ p ≤ 60
    · have e1 : lenOk p = true := by unfold lenOk; exact decide_eq_true h1
      rw [e1]
      simp only [if_pos (show decide ((1 : Int) ≤ (p : Int) ∧ (p : Int) ≤ 60) = true by simp; omega)]
      by_cases h3 : p < a.size
      · simp only [if_pos (show (p : Int) < (a.size : Int) by omega), if_pos (show (0 : Int) ≤ ((p + 1 : Nat) : Int) by omega), if_pos (show ((p + 1 : Nat) : Int) ≤ (a.size : Int) by omega), Int.toNat_natCast]
        have hx : (a.extract (p + 1) a.size).size = a.size - (p + 1) := by simp
        have := DomainOk_ev (a.extract (p + 1) a.size) (by omega)
        rw [by_extract _ _ _ (Nat.le_refl _), hx, List.take_of_length_le (by rw [List.length_drop, by_len]; omega)] at this
        refine ((Ev.bind (g := fun _ t => some t) this (Ev.some_ _)).val ?_)
        rw [decide_eq_true h3]; simp
      · refine Ev.const fun k => ?_
        rw [if_neg (by omega), decide_eq_false h3]; simp
    · have e1 : lenOk p = false := by unfold lenOk; exact decide_eq_false h1
      refine Ev.const fun k => ?_
      rw [if_neg (by simp; omega), e1]; simp
  | d + 1, i, h => by
    have ih := addr_loop a hs p hp d (i + 1) (by omega)
    have hi : i < (by_ a).length := by rw [by_len]; omega
    have h2 : wrap64 ((i : Int) + 1) = ((i + 1 : Nat) : Int) := by rw [w64 _ (by omega)]; omega
    have hlt := by_lt a _ (List.getElem_mem hi)
    refine Ev.succ ?_
    unfold posthouseref3_AddressOk.l0
    simp only [if_pos (show (i : Int) < (p : Int) by omega), if_pos (show (i : Int) < (a.size : Int) by omega), if_pos (show (0 : Int) ≤ (i : Int) by omega), bt_by a i (by omega), h2, lod_val _ hlt, Option.bind_some]
    have hi2 : i < ((by_ a).take p).length := by rw [List.length_take]; omega
    rw [List.drop_eq_getElem_cons hi2, List.all_cons, List.getElem_take]
    generalize (by_ a)[i] = n at hlt ⊢
    by_cases h0 : okl n = true
    · rw [h0, Bool.true_and]
      refine ih.congr fun k => ?_
      by_cases h1 : (isLet n || isDig n) = true
      · rw [if_pos h1]
      · rw [if_neg h1]
        have h3 : n = 45 ∨ n = 95 ∨ n = 46 ∨ n = 43 ∨ n = 61 := by
          unfold okl at h0
          unfold isLet isDig at h1
          simp at h0 h1
          omega
        rcases h3 with rfl | rfl | rfl | rfl | rfl <;> simp
    · have h1 : ¬ (isLet n || isDig n) = true := fun h1 => h0 (by
        unfold okl
        unfold isLet isDig at h1
        simp at h1 ⊢
        omega)
      have h3 : n ≠ 45 ∧ n ≠ 95 ∧ n ≠ 46 ∧ n ≠ 43 ∧ n ≠ 61 := by
        refine ⟨?_, ?_, ?_, ?_, ?_⟩ <;> (rintro rfl; exact h0 (by decide))
      have h0' : okl n = false := by simpa using h0
      rw [h0', Bool.false_and]
      refine Ev.const fun k => ?_
      rw [if_neg h1, if_neg (by omega), if_neg (by omega), if_neg (by omega), if_neg (by omega), if_neg (by omega)]
      simp
theorem AddressOk_ev (a : ByteArray) (hs : a.size ≤ 140737488351232) : Ev (fun k => posthouseref3_AddressOk.f k a) (adr (by_ a)) := by
  unfold posthouseref3_AddressOk.f
  have hp := pos_le (by_ a)
  rw [by_len] at hp
  have := addr_loop a hs (pos (by_ a)) hp (pos (by_ a)) 0 (by omega)
  refine (Ev.bind (sign_ev a hs) this).val ?_
  unfold adr
  rw [by_len, List.drop_zero]
theorem index_pos : ∀ l : List UInt8, Lib.index l [64] = if pos (l.map UInt8.toNat) < l.length then (pos (l.map UInt8.toNat) : Int) else -1
  | [] => by decide
  | b :: l => by
    have ih := index_pos l
    unfold Lib.index
    unfold pos at ih ⊢
    rw [List.map_cons, List.findIdx_cons]
    by_cases hb : b = 64
    · subst hb
      rw [if_pos (by simp [List.isPrefixOf])]
      rw [show ((64 : UInt8).toNat == 64) = true from rfl]
      simp
    · have h1 : (b.toNat == 64) = false := by
        rw [beq_eq_false_iff_ne]
        exact fun he => hb (UInt8.toNat_inj.1 (by rw [he]; rfl))
      rw [if_neg (by simp [List.isPrefixOf]; exact fun h => hb h.symm), ih, h1]
      by_cases h : List.findIdx (· == 64) (l.map UInt8.toNat) < l.length
      · rw [if_pos h, if_neg (by rw [beq_iff_eq]; omega), cond_false, if_pos (by rw [List.length_cons]; omega)]
        omega
      · rw [if_neg h, if_pos (by decide), cond_false, if_neg (by rw [List.length_cons]; omega)]
theorem Cut_val (a : ByteArray) (hs : a.size ≤ 140737488351232) : strings_Cut.f a ⟨#[64]⟩ = some (if pos (by_ a) < a.size then (a.extract 0 (pos (by_ a)), a.extract (pos (by_ a) + 1) a.size, true) else (a, ⟨#[]⟩, false)) := by
  unfold strings_Cut.f stringslite_Cut.f stringslite_Index.f
  have hi : Lib.index a.data.toList [64] = if pos (by_ a) < a.size then (pos (by_ a) : Int) else -1 := by
    rw [index_pos]; rfl
  rw [if_pos (by rfl), show (⟨#[64]⟩ : ByteArray).data.toList = [64] from rfl, hi]
  have hw : ∀ p : Nat, p < a.size → wrap64 ((p : Int) + (((⟨#[64]⟩ : ByteArray).size : Nat) : Int)) = ((p + 1 : Nat) : Int) := fun p hp => by
    rw [show (⟨#[64]⟩ : ByteArray).size = 1 from rfl, w64 _ (by omega)]; omega
  by_cases h : pos (by_ a) < a.size
  · rw [if_pos h, if_pos h]
    simp only [Option.bind_some, hw _ h]
    rw [if_pos (by omega), if_pos (by omega), if_pos (by omega), if_pos (by omega), if_pos (by omega)]
    simp
  · rw [if_neg h, if_neg h]
    simp
theorem IsAddress_ev (a : ByteArray) (hs : a.size ≤ 140737488351232) : Ev (fun k => envelope_IsAddress.f k a) (adr (by_ a)) := by
  unfold envelope_IsAddress.f
  rw [Cut_val a hs]
  simp only [Option.bind_some]
  by_cases h : pos (by_ a) < a.size
  · simp only [if_pos h, if_true]
    have h1 := isLocal_ev (a.extract 0 (pos (by_ a))) (by simp; omega)
    have hsz : (a.extract 0 (pos (by_ a))).size = pos (by_ a) := by simp; omega
    rw [by_extract _ _ _ (by omega), List.drop_zero, Nat.sub_zero, hsz] at h1
    have hx : (a.extract (pos (by_ a) + 1) a.size).size = a.size - (pos (by_ a) + 1) := by simp
    have h2 := IsDomain_val (a.extract (pos (by_ a) + 1) a.size)
    rw [by_extract _ _ _ (Nat.le_refl _), hx, List.take_of_length_le (by rw [List.length_drop, by_len]; omega)] at h2
    refine (Ev.bind h1 (v := adr (by_ a)) ?_)
    unfold adr
    rw [by_len, decide_eq_true h]
    by_cases h3 : (((by_ a).take (pos (by_ a))).all okl && lenOk (pos (by_ a))) = true
    · refine Ev.const fun k => ?_
      rw [if_pos h3, h2, h3]
      simp only [Option.bind_some, Bool.true_and, Bool.and_true]
      congr 1
      by_cases h4 : dz true ((by_ a).drop (pos (by_ a) + 1)) = true
      · have := dz_nil h4
        rw [List.length_drop, by_len] at this
        rw [h4, Bool.true_and, Bool.true_and]
        unfold lenOk
        rw [Bool.eq_iff_iff]; simp; omega
      · have h4' : dz true ((by_ a).drop (pos (by_ a) + 1)) = false := by simpa using h4
        rw [h4']; rfl
    · refine Ev.const fun k => ?_
      rw [if_neg h3]
      have h3' : (((by_ a).take (pos (by_ a))).all okl && lenOk (pos (by_ a))) = false := by simpa using h3
      rw [h3']; rfl
  · simp only [if_neg h]
    refine Ev.const fun k => ?_
    unfold adr
    rw [by_len, decide_eq_false h]
    simp
theorem Ev.of_mono {β : Type} {f : Nat → Option β} {v : β} {K : Nat} (h : f K = some v) (hm : ∀ k, LeO (f k) (f (k + 1))) : Ev f v := by
  refine ⟨K, fun k hk => ?_⟩
  obtain ⟨d, rfl⟩ : ∃ d, k = K + d := ⟨k - K, by omega⟩
  clear hk
  induction d with
  | zero => exact h
  | succ d ih => exact hm (K + d) _ ih
theorem envelopes_ev : Ev (fun k => posthouselaw3_envelopes.f k) true := Ev.of_mono (K := 60) (by decide +kernel) posthouselaw3_envelopes.mono
theorem tl_iff {a b : ByteArray} : a.toList = b.toList ↔ a = b := by
  constructor
  · intro h
    rw [ByteArray.toList_eq, ByteArray.toList_eq] at h
    exact Go.WideShapes.bytes_inj h
  · rintro rfl; rfl
/-- All conditions of an address in a list. -/
def orAll (n : Int) (a : ByteArray) : List S48 → Int
  | [] => n
  | r :: l => orAll (if r.f0 = a then Go.bits .or .i64 n r.f1 else n) a l
def hasA (out : List S48) (a : ByteArray) : Bool := out.any fun x => decide (x.f0 = a)
/-- As the reference unites. -/
def uni (out : List S48) : List S48 → List S48
  | [] => out
  | r :: l => if hasA out r.f0 = true then uni out l else uni (out ++ [⟨r.f0, orAll r.f1 r.f0 l⟩]) l
def upd (l : List S48) (out : List S48) : List S48 := out.map fun x => ⟨x.f0, orAll x.f1 x.f0 l⟩
theorem idx_has (out : List S48) (a : ByteArray) : UniteX.idx out a < out.length ↔ hasA out a = true := by
  unfold UniteX.idx hasA
  rw [List.findIdx_lt_length, List.any_eq_true]
theorem upd_has (l out : List S48) (a : ByteArray) : hasA (upd l out) a = hasA out a := by
  unfold hasA upd
  rw [List.any_map]
  rfl
theorem upd_nil (out : List S48) : upd [] out = out := by
  unfold upd
  have : (fun x : S48 => (⟨x.f0, orAll x.f1 x.f0 []⟩ : S48)) = id := rfl
  rw [this, List.map_id]
def dist (out : List S48) : Prop := (out.map S48.f0).Nodup
theorem step_dist {out : List S48} {r : S48} (h : dist out) : dist (UniteX.step out r) := by
  unfold UniteX.step
  split
  · rename_i hk
    unfold dist at h ⊢
    rw [List.map_set]
    have : (out.map S48.f0).set (UniteX.idx out r.f0) r.f0 = out.map S48.f0 := by
      refine List.ext_getElem (by simp) fun i h1 h2 => ?_
      rw [List.getElem_set]
      split
      · rename_i e
        subst e
        have := UniteX.rd_idx hk
        rw [UniteX.rd_get hk] at this
        rw [List.getElem_map, this]
      · rfl
    rw [this]
    exact h
  · rename_i hk
    unfold dist at h ⊢
    rw [List.map_append, List.nodup_append]
    refine ⟨h, by simp, ?_⟩
    intro a ha b hb e
    simp at hb
    subst hb e
    apply hk
    rw [idx_has]
    unfold hasA
    rw [List.any_eq_true]
    obtain ⟨x, hx, he⟩ := List.mem_map.1 ha
    exact ⟨x, hx, decide_eq_true he⟩
theorem upd_step {out : List S48} {r : S48} (l : List S48) (hd : dist out) : upd l (UniteX.step out r) = if hasA out r.f0 = true then upd (r :: l) out else upd (r :: l) out ++ [⟨r.f0, orAll r.f1 r.f0 l⟩] := by
  unfold UniteX.step
  by_cases hk : UniteX.idx out r.f0 < out.length
  · rw [if_pos hk, if_pos ((idx_has _ _).1 hk)]
    unfold upd
    refine List.ext_getElem (by simp) fun i h1 h2 => ?_
    rw [List.getElem_map, List.getElem_map, List.getElem_set]
    have hget := UniteX.rd_idx hk
    rw [UniteX.rd_get hk] at hget
    split
    · rename_i e
      subst e
      rw [UniteX.rd_get hk]
      simp only [orAll, hget, if_true]
    · rename_i e
      have hne : (out[i]'(by simpa using h2)).f0 ≠ r.f0 := by
        intro he
        unfold dist at hd
        have h3 : (out.map S48.f0)[i]'(by simpa using h2) = (out.map S48.f0)[UniteX.idx out r.f0]'(by simpa using hk) := by
          rw [List.getElem_map, List.getElem_map, hget, he]
        exact e ((List.getElem_inj hd).1 h3).symm
      have hne' : ¬ r.f0 = (out[i]'(by simpa using h2)).f0 := fun he => hne he.symm
      simp only [orAll, if_neg hne']
  · rw [if_neg hk, if_neg (fun h => hk ((idx_has _ _).2 h))]
    unfold upd
    rw [List.map_append]
    congr 1
    refine List.map_congr_left fun x hx => ?_
    have : ¬ r.f0 = x.f0 := fun he => hk ((idx_has _ _).2 (by unfold hasA; rw [List.any_eq_true]; exact ⟨x, hx, decide_eq_true he.symm⟩))
    simp only [orAll, if_neg this]
theorem go_uni : ∀ (l out : List S48), dist out → UniteX.go out l = uni (upd l out) l
  | [], out, _ => by rw [upd_nil]; rfl
  | r :: l, out, h => by
    unfold UniteX.go uni
    rw [go_uni l _ (step_dist h), upd_step l h, upd_has]
    split <;> rfl
theorem go_uni0 (l : List S48) : UniteX.go [] l = uni [] l := go_uni l [] (by simp [dist])
def in7 (n : Int) : Prop := 0 ≤ n ∧ n ≤ 7
theorem known_loop (out : List S48) (a : ByteArray) (hl : out.length ≤ 5864062014805) : ∀ d i, i + d = out.length → ∃ v : Int, Ev (fun k => posthouseref3_Known.l0 k out a (i : Int)) v ∧ (0 ≤ v ↔ hasA (out.drop i) a = true)
  | 0, i, h => by
    refine ⟨-1, Ev.succ (Ev.const fun k => ?_), ?_⟩
    · unfold posthouseref3_Known.l0
      rw [if_neg (by omega)]
    · rw [List.drop_eq_nil_of_le (by omega)]
      simp [hasA]
  | d + 1, i, h => by
    obtain ⟨v, h1, h2⟩ := known_loop out a hl d (i + 1) (by omega)
    have hi : i < out.length := by omega
    have hw : wrap64 ((i : Int) + 1) = ((i + 1 : Nat) : Int) := by rw [w64 _ (by omega)]; omega
    rw [List.drop_eq_getElem_cons hi]
    by_cases e : (out[i]).f0 = a
    · refine ⟨i, Ev.succ (Ev.const fun k => ?_), ?_⟩
      · unfold posthouseref3_Known.l0
        rw [if_pos (by omega), if_pos (by omega), UniteX.rd_get hi, if_pos (tl_iff.2 e)]
      · unfold hasA
        rw [List.any_cons, decide_eq_true e, Bool.true_or]
        exact ⟨fun _ => rfl, fun _ => by omega⟩
    · refine ⟨v, Ev.succ ?_, ?_⟩
      · unfold posthouseref3_Known.l0
        refine h1.congr fun k => ?_
        rw [if_pos (by omega), if_pos (by omega), UniteX.rd_get hi, if_neg (fun h => e (tl_iff.1 h)), hw]
      · rw [h2]
        unfold hasA
        rw [List.any_cons, decide_eq_false e, Bool.false_or]
theorem Known_ev (out : List S48) (a : ByteArray) (hl : out.length ≤ 5864062014805) : ∃ v : Int, Ev (fun k => posthouseref3_Known.f k out a) v ∧ (0 ≤ v ↔ hasA out a = true) := by
  have := known_loop out a hl out.length 0 (by omega)
  simpa [posthouseref3_Known.f] using this
theorem same_loop (l : List S48) (hl : l.length ≤ 5864062014805) : ∀ d i, i + d = l.length → Ev (fun k => posthouseref3_SameRecipients.l0 k l l (i : Int)) true
  | 0, i, h => by
    refine Ev.succ (Ev.const fun k => ?_)
    unfold posthouseref3_SameRecipients.l0
    rw [if_neg (by omega)]
  | d + 1, i, h => by
    have hw : wrap64 ((i : Int) + 1) = ((i + 1 : Nat) : Int) := by rw [w64 _ (by omega)]; omega
    refine Ev.succ ?_
    unfold posthouseref3_SameRecipients.l0
    refine (same_loop l hl d (i + 1) (by omega)).congr fun k => ?_
    rw [if_pos (by omega), if_pos (by omega), if_pos (by omega), hw]
    simp
theorem Same_ev (l : List S48) (hl : l.length ≤ 5864062014805) : Ev (fun k => posthouseref3_SameRecipients.f k l l) true := by
  have := same_loop l hl l.length 0 (by omega)
  simpa [posthouseref3_SameRecipients.f] using this
def okn (n : Nat) : Bool := isLet n || isDig n || n == 45 || n == 95 || n == 46
def nam (L : List Nat) : Bool := L.all okn && lenOk L.length
theorem bt_nat (a : ByteArray) (i : Nat) (h : i < (by_ a).length) : bt a i = ((by_ a)[i] : Nat) := bt_by a i (by rwa [by_len] at h)
theorem nameOk_loop (a : ByteArray) (hs : a.size ≤ 140737488351232) : ∀ d i, i + d = a.size → Ev (fun k => posthouseref3_NameOk.l0 k a (i : Int)) (((by_ a).drop i).all okn && lenOk a.size)
  | 0, i, h => by
    refine Ev.succ (Ev.const fun k => ?_)
    unfold posthouseref3_NameOk.l0
    rw [if_neg (by omega), In_val, List.drop_eq_nil_of_le (by rw [by_len]; omega)]
    unfold lenOk
    simp only [Option.bind_some, List.all_nil, Bool.true_and]
    congr 1
    rw [Bool.eq_iff_iff]; simp; omega
  | d + 1, i, h => by
    have ih := nameOk_loop a hs d (i + 1) (by omega)
    have hi : i < (by_ a).length := by rw [by_len]; omega
    have h2 : wrap64 ((i : Int) + 1) = ((i + 1 : Nat) : Int) := by rw [w64 _ (by omega)]; omega
    have hlt := by_lt a _ (List.getElem_mem hi)
    refine Ev.succ ?_
    unfold posthouseref3_NameOk.l0
    simp only [if_pos (show (i : Int) < (a.size : Int) by omega), if_pos (show (0 : Int) ≤ (i : Int) by omega), bt_nat a i hi, lod_val _ hlt, Option.bind_some, h2]
    rw [List.drop_eq_getElem_cons hi, List.all_cons]
    generalize (by_ a)[i] = n at hlt ⊢
    by_cases h0 : okn n = true
    · rw [h0, Bool.true_and]
      refine ih.congr fun k => ?_
      by_cases h1 : (isLet n || isDig n) = true
      · rw [if_pos h1]
      · rw [if_neg h1]
        have h3 : n = 45 ∨ n = 95 ∨ n = 46 := by
          unfold okn at h0
          have h1' : (isLet n || isDig n) = false := by simpa using h1
          rw [h1'] at h0
          simpa [or_assoc] using h0
        rcases h3 with rfl | rfl | rfl <;> simp
    · have h1 : ¬ (isLet n || isDig n) = true := fun h1 => h0 (by unfold okn; rw [h1]; rfl)
      have h3 : n ≠ 45 ∧ n ≠ 95 ∧ n ≠ 46 := by
        refine ⟨?_, ?_, ?_⟩ <;> (rintro rfl; exact h0 (by decide))
      have h0' : okn n = false := by simpa using h0
      rw [h0', Bool.false_and]
      refine Ev.const fun k => ?_
      rw [if_neg h1, if_neg (by omega), if_neg (by omega), if_neg (by omega)]
      simp
theorem NameOk_ev (a : ByteArray) (hs : a.size ≤ 140737488351232) : Ev (fun k => posthouseref3_NameOk.f k a) (nam (by_ a)) := by
  have := nameOk_loop a hs a.size 0 (by omega)
  unfold nam
  rw [by_len]
  simpa [posthouseref3_NameOk.f] using this
theorem isName_loop (a : ByteArray) (hs : a.size ≤ 140737488351232) : ∀ d i, i + d = a.size → Ev (fun k => envelope_IsName.l0 k a (a.size : Int) (i : Int)) (((by_ a).drop i).all okn && lenOk a.size)
  | 0, i, h => by
    refine Ev.succ (Ev.const fun k => ?_)
    unfold envelope_IsName.l0
    rw [if_neg (by omega), List.drop_eq_nil_of_le (by rw [by_len]; omega)]
    unfold lenOk
    split
    all_goals (congr 1; rw [Bool.eq_iff_iff]; simp; omega)
  | d + 1, i, h => by
    have ih := isName_loop a hs d (i + 1) (by omega)
    have hi : i < (by_ a).length := by rw [by_len]; omega
    have h2 : wrap64 ((i : Int) + 1) = ((i + 1 : Nat) : Int) := by rw [w64 _ (by omega)]; omega
    have hlt := by_lt a _ (List.getElem_mem hi)
    refine Ev.succ ?_
    unfold envelope_IsName.l0
    simp only [if_pos (show (i : Int) < (a.size : Int) by omega), if_pos (show (0 : Int) ≤ (i : Int) by omega), bt_nat a i hi, letter_val, digit_val, Option.bind_some, h2]
    rw [List.drop_eq_getElem_cons hi, List.all_cons]
    generalize (by_ a)[i] = n at hlt ⊢
    by_cases h0 : okn n = true
    · rw [h0, Bool.true_and]
      refine ih.congr fun k => ?_
      by_cases h1 : isLet n = true
      · rw [if_pos h1]
      · rw [if_neg h1]
        by_cases h4 : isDig n = true
        · rw [if_pos h4]
        · rw [if_neg h4]
          have h3 : n = 45 ∨ n = 95 ∨ n = 46 := by
            unfold okn at h0
            have h1' : isLet n = false := by simpa using h1
            have h4' : isDig n = false := by simpa using h4
            rw [h1', h4'] at h0
            simpa [or_assoc] using h0
          rcases h3 with rfl | rfl | rfl <;> simp
    · have h1 : ¬ isLet n = true := fun h1 => h0 (by unfold okn; rw [h1]; rfl)
      have h4 : ¬ isDig n = true := fun h1 => h0 (by unfold okn; rw [h1]; simp)
      have h3 : n ≠ 45 ∧ n ≠ 95 ∧ n ≠ 46 := by
        refine ⟨?_, ?_, ?_⟩ <;> (rintro rfl; exact h0 (by decide))
      have h0' : okn n = false := by simpa using h0
      rw [h0', Bool.false_and]
      refine Ev.const fun k => ?_
      rw [if_neg h1, if_neg h4, if_neg (by omega), if_neg (by omega), if_neg (by omega)]
      rfl
theorem IsName_ev (a : ByteArray) (hs : a.size ≤ 140737488351232) : Ev (fun k => envelope_IsName.f k a) (nam (by_ a)) := by
  have := isName_loop a hs a.size 0 (by omega)
  unfold nam
  rw [by_len]
  simpa [envelope_IsName.f] using this
/-- The first fault of the recipients of an envelope. -/
def rflt (l : List S48) : Nat → Nat → Int × Int
  | 0, _ => (0, 0)
  | d + 1, i => if adr (by_ (rd_T48 l i).f0) = true then (if 0 ≤ (rd_T48 l i).f1 ∧ (rd_T48 l i).f1 ≤ 7 then (if hasA (l.take i) (rd_T48 l i).f0 = true then (7, (i : Int)) else rflt l d (i + 1)) else (3, (i : Int))) else (10, (i : Int))
theorem recipients_loop (l : List S48) (hs : ∀ x ∈ l, x.f0.size ≤ 140737488351232) : ∀ d i, i + d = l.length → Ev (fun k => RecipientsX.go k l d i) (rflt l d i)
  | 0, i, h => Ev.some_ _
  | d + 1, i, h => by
    have hi : i < l.length := by omega
    have ih := recipients_loop l hs d (i + 1) (by omega)
    unfold RecipientsX.go rflt
    have hsz := hs _ (List.getElem_mem hi)
    rw [← UniteX.rd_get hi] at hsz
    generalize rd_T48 l i = r at hsz ⊢
    simp only [if_pos hsz]
    refine Ev.bind (IsAddress_ev _ hsz) ?_
    by_cases e : adr (by_ r.f0) = true
    · simp only [e, if_true, Bool.true_eq_false, if_false]
      by_cases e2 : 0 ≤ r.f1 ∧ r.f1 ≤ 7
      · simp only [if_pos e2, if_neg (show ¬ (r.f1 < 0 ∨ r.f1 > 7) by omega)]
        by_cases e3 : hasA (l.take i) r.f0 = true
        · rw [if_pos e3]
          refine Ev.const fun k => ?_
          unfold hasA at e3
          rw [if_pos e3]
        · rw [if_neg e3]
          refine ih.congr fun k => ?_
          unfold hasA at e3
          rw [if_neg e3]
      · rw [if_neg e2]
        refine Ev.const fun k => ?_
        rw [if_pos (by omega)]
    · have e' : adr (by_ r.f0) = false := by simpa using e
      rw [if_neg e]
      refine Ev.const fun k => ?_
      rw [if_pos e']
/-- The fault of an envelope. -/
def efl (a : ByteArray) (l : List S48) (c : ByteArray) : Int × Int :=
  if ¬ a.toList = [] ∧ adr (by_ a) = false then (10, -10) else if ¬ (1 ≤ l.length ∧ l.length ≤ 60) then (2, -11) else if ¬ c.toList = [] ∧ nam (by_ c) = false then (10, -12) else rflt l l.length 0
theorem Validate_ev (a : ByteArray) (l : List S48) (c : ByteArray) (ha : a.size ≤ 140737488351232) (hs : ∀ x ∈ l, x.f0.size ≤ 140737488351232) (hc : c.size ≤ 140737488351232) : Ev (fun k => envelope_Validate.f k a l c) (efl a l c) := by
  have h1 : Ev (fun k => envelope_Validate.j1 k false a l c) (if ¬ c.toList = [] ∧ nam (by_ c) = false then (10, -12) else rflt l l.length 0) := by
    have hr : Ev (fun k => envelope_recipients.f k l) (rflt l l.length 0) := recipients_loop l hs l.length 0 (by omega)
    refine Ev.succ ?_
    unfold envelope_Validate.j1
    simp only [Bool.false_eq_true, if_false]
    by_cases e : c.toList = []
    · simp only [if_pos e]
      rw [if_neg (fun h => h.1 e)]
      exact Ev.bind hr (Ev.some_ _)
    · simp only [if_neg e]
      refine Ev.bind (IsName_ev c hc) ?_
      by_cases e2 : nam (by_ c) = true
      · rw [if_neg (fun h => by rw [e2] at h; cases h.2)]
        simp only [if_pos e2]
        exact Ev.bind hr (Ev.some_ _)
      · rw [if_pos ⟨e, by simpa using e2⟩]
        refine Ev.const fun k => ?_
        rw [if_neg e2]
  have h1t : Ev (fun k => envelope_Validate.j1 k true a l c) (2, -11) := by
    refine Ev.succ (Ev.const fun k => ?_)
    unfold envelope_Validate.j1
    rfl
  have h0 : Ev (fun k => envelope_Validate.j0 k false a l c) (if ¬ (1 ≤ l.length ∧ l.length ≤ 60) then (2, -11) else if ¬ c.toList = [] ∧ nam (by_ c) = false then (10, -12) else rflt l l.length 0) := by
    refine Ev.succ ?_
    unfold envelope_Validate.j0
    simp only [Bool.false_eq_true, if_false]
    by_cases e : (l.length : Int) < 1
    · rw [if_pos (by omega)]
      refine h1t.congr fun k => ?_
      rw [if_pos e]
    · by_cases e2 : l.length ≤ 60
      · rw [if_neg (by omega)]
        refine h1.congr fun k => ?_
        rw [if_neg e, decide_eq_false (by omega)]
      · rw [if_pos (by omega)]
        refine h1t.congr fun k => ?_
        rw [if_neg e, decide_eq_true (by omega)]
  have h0t : Ev (fun k => envelope_Validate.j0 k true a l c) (10, -10) := by
    refine Ev.succ (Ev.const fun k => ?_)
    unfold envelope_Validate.j0
    rfl
  unfold envelope_Validate.f efl
  by_cases e : a.toList = []
  · rw [if_neg (fun h => h.1 e)]
    simp only [if_pos e]
    exact h0
  · simp only [if_neg e]
    refine Ev.bind (IsAddress_ev a ha) ?_
    by_cases e2 : adr (by_ a) = true
    · rw [if_neg (fun h => by rw [e2] at h; cases h.2), e2]
      exact h0
    · have e2' : adr (by_ a) = false := by simpa using e2
      rw [if_pos ⟨e, e2'⟩, e2']
      exact h0t
theorem rlt_len {l : List S48} {i : Nat} : (l.take i).length ≤ l.length := by rw [List.length_take]; omega
theorem fault_loop (a c : ByteArray) (l : List S48) (hl : l.length ≤ 60) (hs : ∀ x ∈ l, x.f0.size ≤ 140737488351232) : ∀ d i, i + d = l.length → Ev (fun k => posthouseref3_EnvelopeFault.l0 k (i : Int) a l c) (rflt l d i)
  | 0, i, h => by
    refine Ev.succ (Ev.const fun k => ?_)
    unfold posthouseref3_EnvelopeFault.l0
    rw [if_neg (by omega)]
    rfl
  | d + 1, i, h => by
    have hi : i < l.length := by omega
    have ih := fault_loop a c l hl hs d (i + 1) (by omega)
    have hw : wrap64 ((i : Int) + 1) = ((i + 1 : Nat) : Int) := by rw [w64 _ (by omega)]; omega
    refine Ev.succ ?_
    unfold posthouseref3_EnvelopeFault.l0 rflt
    have hsz := hs _ (List.getElem_mem hi)
    rw [← UniteX.rd_get hi] at hsz
    generalize rd_T48 l i = r at hsz ⊢
    simp only [if_pos (show (i : Int) < (l.length : Int) by omega), if_pos (show (0 : Int) ≤ (i : Int) by omega), if_pos (show (i : Int) ≤ (l.length : Int) by omega), hw, In_val, posthouseref3_At.f, Option.bind_some, Int.toNat_natCast]
    refine Ev.bind (AddressOk_ev _ hsz) ?_
    by_cases e : adr (by_ r.f0) = true
    · simp only [if_pos e]
      by_cases e2 : 0 ≤ r.f1 ∧ r.f1 ≤ 7
      · simp only [if_pos e2, decide_eq_true e2, if_true]
        obtain ⟨v, hv, hv2⟩ := Known_ev (l.take i) r.f0 (by rw [List.length_take]; omega)
        refine Ev.bind hv ?_
        by_cases e3 : hasA (l.take i) r.f0 = true
        · rw [if_pos e3]
          refine Ev.const fun k => ?_
          rw [if_pos (hv2.2 e3)]
        · rw [if_neg e3]
          refine ih.congr fun k => ?_
          rw [if_neg (fun h => e3 (hv2.1 h))]
      · simp only [if_neg e2, decide_eq_false e2, Bool.false_eq_true, if_false]
        exact Ev.some_ _
    · simp only [if_neg e]
      exact Ev.some_ _
theorem EnvelopeFault_ev (a : ByteArray) (l : List S48) (c : ByteArray) (ha : a.size ≤ 140737488351232) (hs : ∀ x ∈ l, x.f0.size ≤ 140737488351232) (hc : c.size ≤ 140737488351232) : Ev (fun k => posthouseref3_EnvelopeFault.f k a l c) (efl a l c) := by
  have h1 : l.length ≤ 60 → Ev (fun k => posthouseref3_EnvelopeFault.j1 k false a l c) (rflt l l.length 0) := fun hl => by
    refine Ev.succ ?_
    unfold posthouseref3_EnvelopeFault.j1
    simp only [Bool.false_eq_true, if_false]
    exact fault_loop a c l hl hs l.length 0 (by omega)
  have h1t : Ev (fun k => posthouseref3_EnvelopeFault.j1 k true a l c) (10, -12) := by
    refine Ev.succ (Ev.const fun k => ?_)
    unfold posthouseref3_EnvelopeFault.j1
    rfl
  have h0 : Ev (fun k => posthouseref3_EnvelopeFault.j0 k false a l c) (if ¬ (1 ≤ l.length ∧ l.length ≤ 60) then (2, -11) else if ¬ c.toList = [] ∧ nam (by_ c) = false then (10, -12) else rflt l l.length 0) := by
    refine Ev.succ ?_
    unfold posthouseref3_EnvelopeFault.j0
    simp only [Bool.false_eq_true, if_false, In_val, Option.bind_some, posthouseref3_At.f]
    by_cases e : 1 ≤ l.length ∧ l.length ≤ 60
    · rw [if_neg (fun h => h e)]
      have h1 := h1 e.2
      simp only [if_pos (show decide ((1 : Int) ≤ (l.length : Int) ∧ (l.length : Int) ≤ 60) = true by rw [decide_eq_true_iff]; omega)]
      by_cases e : c.toList = []
      · simp only [if_pos e]
        rw [if_neg (fun h => h.1 e)]
        exact h1
      · simp only [if_neg e]
        refine Ev.bind (NameOk_ev c hc) ?_
        by_cases e2 : nam (by_ c) = true
        · rw [if_neg (fun h => by rw [e2] at h; cases h.2), e2]
          exact h1
        · have e2' : nam (by_ c) = false := by simpa using e2
          rw [if_pos ⟨e, e2'⟩, e2']
          exact h1t
    · rw [if_pos e]
      refine Ev.const fun k => ?_
      rw [if_neg (by rw [decide_eq_true_iff]; omega)]
  have h0t : Ev (fun k => posthouseref3_EnvelopeFault.j0 k true a l c) (10, -10) := by
    refine Ev.succ (Ev.const fun k => ?_)
    unfold posthouseref3_EnvelopeFault.j0
    rfl
  unfold posthouseref3_EnvelopeFault.f efl
  by_cases e : a.toList = []
  · rw [if_neg (fun h => h.1 e)]
    simp only [if_pos e]
    exact h0
  · simp only [if_neg e]
    refine Ev.bind (AddressOk_ev a ha) ?_
    by_cases e2 : adr (by_ a) = true
    · rw [if_neg (fun h => by rw [e2] at h; cases h.2), e2]
      exact h0
    · have e2' : adr (by_ a) = false := by simpa using e2
      rw [if_pos ⟨e, e2'⟩, e2']
      exact h0t
theorem rflt_code (l : List S48) : ∀ d i, (rflt l d i).1 = 0 → rflt l d i = (0, 0) ∧ ∀ j, i ≤ j → j < i + d → adr (by_ (rd_T48 l j).f0) = true ∧ in7 (rd_T48 l j).f1 ∧ hasA (l.take j) (rd_T48 l j).f0 = false
  | 0, i, _ => ⟨rfl, fun j h1 h2 => by omega⟩
  | d + 1, i, h => by
    unfold rflt at h ⊢
    split at h
    · rename_i e1
      split at h
      · rename_i e2
        split at h
        · cases h
        · rename_i e3
          obtain ⟨h1, h2⟩ := rflt_code l d (i + 1) h
          rw [if_pos e1, if_pos e2, if_neg e3]
          refine ⟨h1, fun j hj1 hj2 => ?_⟩
          by_cases ej : j = i
          · subst ej
            exact ⟨e1, e2, by simpa using e3⟩
          · exact h2 j (by omega) (by omega)
      · cases h
    · cases h
theorem efl_code {a c : ByteArray} {l : List S48} (h : (efl a l c).1 = 0) : efl a l c = (0, 0) ∧ 1 ≤ l.length ∧ l.length ≤ 60 ∧ (∀ j, j < l.length → adr (by_ (rd_T48 l j).f0) = true ∧ in7 (rd_T48 l j).f1 ∧ hasA (l.take j) (rd_T48 l j).f0 = false) ∧ ¬ (¬ a.toList = [] ∧ adr (by_ a) = false) ∧ ¬ (¬ c.toList = [] ∧ nam (by_ c) = false) := by
  unfold efl at h ⊢
  split at h
  · cases h
  · rename_i h1
    split at h
    · cases h
    · rename_i h2
      split at h
      · cases h
      · rename_i h3
        obtain ⟨h4, h5⟩ := rflt_code l _ _ h
        rw [if_neg h1, if_neg h2, if_neg h3]
        exact ⟨h4, by omega, by omega, fun j hj => h5 j (by omega) (by omega), h1, h3⟩
/-- The domain of an address. -/
def domOf (a : ByteArray) : ByteArray := if pos (by_ a) < a.size then a.extract (pos (by_ a) + 1) a.size else ⟨#[]⟩
theorem domOf_size (a : ByteArray) : (domOf a).size ≤ a.size := by
  unfold domOf
  split
  · simp
  · exact Nat.zero_le _
theorem DomainOf_val (a : ByteArray) (hs : a.size ≤ 140737488351232) : envelope_DomainOf.f a = some (domOf a) := by
  unfold envelope_DomainOf.f domOf
  rw [Cut_val a hs]
  by_cases h : pos (by_ a) < a.size
  · rw [if_pos h, if_pos h]; rfl
  · rw [if_neg h, if_neg h]; rfl
theorem RDomainOf_ev (a : ByteArray) (hs : a.size ≤ 140737488351232) : Ev (fun k => posthouseref3_DomainOf.f k a) (domOf a) := by
  unfold posthouseref3_DomainOf.f domOf
  have hp := pos_le (by_ a)
  rw [by_len] at hp
  refine Ev.bind (sign_ev a hs) (Ev.const fun k => ?_)
  have hw : wrap64 ((pos (by_ a) : Int) + 1) = ((pos (by_ a) + 1 : Nat) : Int) := by rw [w64 _ (by omega)]; omega
  rw [hw]
  by_cases h : pos (by_ a) < a.size
  · rw [if_neg (by omega), if_pos (by omega), if_pos (by omega), if_pos h, Int.toNat_natCast]
  · rw [if_pos (by omega), if_neg h]
def hasS (out : List ByteArray) (a : ByteArray) : Bool := out.any fun x => decide (x = a)
theorem rdO_get {l : List ByteArray} {i : Nat} (h : i < l.length) : rdOf ByteArray.empty l (i : Int) = l[i] := by
  unfold rdOf
  rw [Int.toNat_natCast, List.getD_eq_getElem?_getD, List.getElem?_eq_getElem h]
  rfl
theorem index_loop (l : List ByteArray) (a : ByteArray) (hl : l.length ≤ 8796093022208) : ∀ d i, i + d = l.length → ∃ v : Int, Ev (fun k => slices_Index_string_string.l0 k l a (l.length : Int) (i : Int)) v ∧ (0 ≤ v ↔ hasS (l.drop i) a = true)
  | 0, i, h => by
    refine ⟨-1, Ev.succ (Ev.const fun k => ?_), ?_⟩
    · unfold slices_Index_string_string.l0
      rw [if_neg (by omega)]
    · rw [List.drop_eq_nil_of_le (by omega)]
      simp [hasS]
  | d + 1, i, h => by
    obtain ⟨v, h1, h2⟩ := index_loop l a hl d (i + 1) (by omega)
    have hi : i < l.length := by omega
    have hw : wrap64 ((i : Int) + 1) = ((i + 1 : Nat) : Int) := by rw [w64 _ (by omega)]; omega
    rw [List.drop_eq_getElem_cons hi]
    by_cases e : l[i] = a
    · refine ⟨i, Ev.succ (Ev.const fun k => ?_), ?_⟩
      · unfold slices_Index_string_string.l0
        rw [if_pos (by omega), if_pos (by omega), if_pos (by omega), rdO_get hi, if_pos (tl_iff.2 e.symm)]
      · unfold hasS
        rw [List.any_cons, decide_eq_true e, Bool.true_or]
        exact ⟨fun _ => rfl, fun _ => by omega⟩
    · refine ⟨v, Ev.succ ?_, ?_⟩
      · unfold slices_Index_string_string.l0
        refine h1.congr fun k => ?_
        rw [if_pos (by omega), if_pos (by omega), if_pos (by omega), rdO_get hi, if_neg (fun h => e (tl_iff.1 h).symm), hw]
      · rw [h2]
        unfold hasS
        rw [List.any_cons, decide_eq_false e, Bool.false_or]
theorem ContainsS_ev (l : List ByteArray) (a : ByteArray) (hl : l.length ≤ 8796093022208) : Ev (fun k => slices_Contains_string_string.f k l a) (hasS l a) := by
  obtain ⟨v, h1, h2⟩ := index_loop l a hl l.length 0 (by omega)
  rw [List.drop_zero] at h2
  have h1' : Ev (fun k => slices_Index_string_string.f k l a) v := by simpa [slices_Index_string_string.f] using h1
  unfold slices_Contains_string_string.f
  refine (Ev.bind h1' (Ev.some_ (decide (v ≥ 0)))).val ?_
  rw [Bool.eq_iff_iff, decide_eq_true_iff]
  exact h2
theorem has_loop (l : List ByteArray) (a : ByteArray) (hl : l.length ≤ 8796093022208) : ∀ d i, i + d = l.length → Ev (fun k => posthouseref3_Has.l0 k l a (i : Int)) (hasS (l.drop i) a)
  | 0, i, h => by
    rw [List.drop_eq_nil_of_le (by omega)]
    refine Ev.succ (Ev.const fun k => ?_)
    unfold posthouseref3_Has.l0
    rw [if_neg (by omega)]
    rfl
  | d + 1, i, h => by
    have h1 := has_loop l a hl d (i + 1) (by omega)
    have hi : i < l.length := by omega
    have hw : wrap64 ((i : Int) + 1) = ((i + 1 : Nat) : Int) := by rw [w64 _ (by omega)]; omega
    rw [List.drop_eq_getElem_cons hi]
    unfold hasS at h1 ⊢
    rw [List.any_cons]
    refine Ev.succ ?_
    unfold posthouseref3_Has.l0
    by_cases e : l[i] = a
    · rw [decide_eq_true e, Bool.true_or]
      refine Ev.const fun k => ?_
      rw [if_pos (by omega), if_pos (by omega), rdO_get hi, if_pos (tl_iff.2 e)]
    · rw [decide_eq_false e, Bool.false_or]
      refine h1.congr fun k => ?_
      rw [if_pos (by omega), if_pos (by omega), rdO_get hi, if_neg (fun h => e (tl_iff.1 h)), hw]
theorem Has_ev (l : List ByteArray) (a : ByteArray) (hl : l.length ≤ 8796093022208) : Ev (fun k => posthouseref3_Has.f k l a) (hasS l a) := by
  have := has_loop l a hl l.length 0 (by omega)
  simpa [posthouseref3_Has.f] using this
theorem strings_loop (l m : List ByteArray) (hl : l.length ≤ 8796093022208) (he : l.length = m.length) : ∀ d i, i + d = l.length → Ev (fun k => posthouseref3_Strings.l0 k l m (i : Int)) (decide (l.drop i = m.drop i))
  | 0, i, h => by
    rw [List.drop_eq_nil_of_le (by omega), List.drop_eq_nil_of_le (by omega)]
    refine Ev.succ (Ev.const fun k => ?_)
    unfold posthouseref3_Strings.l0
    rw [if_neg (by omega)]
    rfl
  | d + 1, i, h => by
    have h1 := strings_loop l m hl he d (i + 1) (by omega)
    have hi : i < l.length := by omega
    have hj : i < m.length := by omega
    have hw : wrap64 ((i : Int) + 1) = ((i + 1 : Nat) : Int) := by rw [w64 _ (by omega)]; omega
    rw [List.drop_eq_getElem_cons hi, List.drop_eq_getElem_cons hj]
    refine Ev.succ ?_
    unfold posthouseref3_Strings.l0
    by_cases e : l[i] = m[i]
    · refine (h1.congr fun k => ?_).val ?_
      · rw [if_pos (by omega), if_pos (by omega), if_pos (by omega), rdO_get hi, rdO_get hj, if_pos (tl_iff.2 e), hw]
      · rw [Bool.eq_iff_iff, decide_eq_true_iff, decide_eq_true_iff, e]
        exact ⟨fun h => by rw [h], fun h => (List.cons.inj h).2⟩
    · rw [decide_eq_false (fun h => e (List.cons.inj h).1)]
      refine Ev.const fun k => ?_
      rw [if_pos (by omega), if_pos (by omega), if_pos (by omega), rdO_get hi, rdO_get hj, if_neg (fun h => e (tl_iff.1 h))]
theorem Strings_ev (l m : List ByteArray) (hl : l.length ≤ 8796093022208) : Ev (fun k => posthouseref3_Strings.f k l m) (decide (l = m)) := by
  unfold posthouseref3_Strings.f
  by_cases he : l.length = m.length
  · have := strings_loop l m hl he l.length 0 (by omega)
    rw [List.drop_zero, List.drop_zero] at this
    refine this.congr fun k => ?_
    rw [if_pos (by omega)]
    rfl
  · rw [decide_eq_false (fun h => he (by rw [h]))]
    refine Ev.const fun k => ?_
    rw [if_neg (by omega)]
/-- The domains, each once. -/
def doms (out : List ByteArray) : List S48 → List ByteArray
  | [] => out
  | r :: l => doms (if hasS out (domOf r.f0) = true then out else out ++ [domOf r.f0]) l
theorem doms_len : ∀ (l : List S48) (out : List ByteArray), (doms out l).length ≤ out.length + l.length
  | [], out => by simp [doms]
  | r :: l, out => by
    unfold doms
    have := doms_len l (if hasS out (domOf r.f0) = true then out else out ++ [domOf r.f0])
    split at this
    · rename_i h; rw [if_pos h]; simp; omega
    · rename_i h; rw [if_neg h]; simp at this ⊢; omega
theorem domains_loop (l : List S48) (hl : l.length ≤ 60) (hs : ∀ x ∈ l, x.f0.size ≤ 140737488351232) : ∀ d i out, i + d = l.length → out.length ≤ i → Ev (fun k => envelope_Domains.l0 k out l (l.length : Int) (i : Int)) (doms out (l.drop i), 0, 0)
  | 0, i, out, h, _ => by
    rw [List.drop_eq_nil_of_le (by omega), doms]
    refine Ev.succ (Ev.const fun k => ?_)
    unfold envelope_Domains.l0
    rw [if_neg (by omega)]
  | d + 1, i, out, h, ho => by
    have hi : i < l.length := by omega
    have hw : wrap64 ((i : Int) + 1) = ((i + 1 : Nat) : Int) := by rw [w64 _ (by omega)]; omega
    have hsz := hs _ (List.getElem_mem hi)
    rw [List.drop_eq_getElem_cons hi, doms]
    refine Ev.succ ?_
    unfold envelope_Domains.l0
    simp only [if_pos (show (i : Int) < (l.length : Int) by omega), if_pos (show (0 : Int) ≤ (i : Int) by omega), UniteX.rd_get hi, hw, DomainOf_val _ hsz, Option.bind_some]
    refine Ev.bind (ContainsS_ev out (domOf (l[i]).f0) (by omega)) ?_
    by_cases e : hasS out (domOf (l[i]).f0) = true
    · simp only [if_pos e]
      exact domains_loop l hl hs d (i + 1) out (by omega) (by omega)
    · simp only [if_neg e, if_pos (show out.length < 8796093022208 by omega)]
      exact domains_loop l hl hs d (i + 1) _ (by omega) (by simp; omega)
theorem Domains_ev (a : ByteArray) (l : List S48) (c : ByteArray) (ha : a.size ≤ 140737488351232) (hs : ∀ x ∈ l, x.f0.size ≤ 140737488351232) (hc : c.size ≤ 140737488351232) : Ev (fun k => envelope_Domains.f k a l c) (if (efl a l c).1 = 0 then (doms [] l, 0, 0) else ([], efl a l c)) := by
  unfold envelope_Domains.f
  refine Ev.bind (Validate_ev a l c ha hs hc) ?_
  by_cases e : (efl a l c).1 = 0
  · obtain ⟨h1, h2, h3, _⟩ := efl_code e
    rw [if_pos e, h1]
    have := domains_loop l h3 hs l.length 0 [] (by omega) (by simp)
    rw [List.drop_zero] at this
    exact this.congr fun k => by simp
  · rw [if_neg e]
    refine Ev.const fun k => ?_
    rw [if_pos (by simp [e])]
def forD (l : List S48) (a : ByteArray) : List S48 := l.filter fun x => decide (domOf x.f0 = a)
theorem keep_for (a1 : ByteArray) : ∀ (l : List S48), (∀ x ∈ l, x.f0.size ≤ 140737488351232) → Go.Proofs.YtbmeebhcanknmaaDoor.XWords.keepO (fun x : S48 => (envelope_DomainOf.f x.f0).map fun d => !(d.toList == a1.toList)) l = some (forD l a1)
  | [], _ => rfl
  | x :: l, hs => by
    have ih := keep_for a1 l (fun y hy => hs y (List.mem_cons_of_mem _ hy))
    rw [XWords.keepO, ih, DomainOf_val _ (hs x (List.mem_cons_self ..))]
    unfold forD
    rw [List.filter_cons]
    by_cases e : domOf x.f0 = a1
    · simp [e]
    · have e2 : ¬ (domOf x.f0).toList = a1.toList := fun h => e (tl_iff.1 h)
      have e3 : ((domOf x.f0).toList == a1.toList) = false := by simpa using e2
      simp [e, e3]
theorem For_ev (a : ByteArray) (l : List S48) (c a1 : ByteArray) (ha : a.size ≤ 140737488351232) (hs : ∀ x ∈ l, x.f0.size ≤ 140737488351232) (hc : c.size ≤ 140737488351232) : Ev (fun k => envelope_For.f k a l c a1) (if (efl a l c).1 = 0 then (if forD l a1 = [] then (ByteArray.empty, [], ByteArray.empty, 6, -13) else (a, forD l a1, c, 0, 0)) else (ByteArray.empty, [], ByteArray.empty, (efl a l c).1, (efl a l c).2)) := by
  unfold envelope_For.f
  refine Ev.bind (Validate_ev a l c ha hs hc) ?_
  by_cases e : (efl a l c).1 = 0
  · obtain ⟨h1, h2, h3, _⟩ := efl_code e
    rw [if_pos e, h1]
    refine Ev.const fun k => ?_
    rw [if_pos ⟨rfl, rfl⟩, api_Recipient_72.f, if_pos (by omega), Option.bind_some, keep_for a1 l hs, Option.bind_some]
    by_cases e2 : forD l a1 = []
    · rw [if_pos e2, if_pos (by rw [e2]; rfl)]
    · rw [if_neg e2, if_neg (fun h => e2 (List.eq_nil_of_length_eq_zero h))]
  · rw [if_neg e]
    refine Ev.const fun k => ?_
    rw [if_neg (fun h => e h.1)]
theorem law_loop (a1 : ByteArray) (D : List ByteArray) (a0 c0 : ByteArray) (l : List S48) (o0 : ByteArray) (o1 : List S48) (o2 : ByteArray) (f0 f1 : Int) (hl : l.length ≤ 60) (hs : ∀ x ∈ l, x.f0.size ≤ 140737488351232)
    (hD : D = doms [] l) (ho : (o0, o1, o2, f0, f1) = if forD l a1 = [] then (ByteArray.empty, [], ByteArray.empty, 6, -13) else (a0, forD l a1, c0, 0, 0)) : ∀ d i out tt, i + d = l.length → out.length ≤ i → tt.length ≤ i → doms out (l.drop i) = D → tt ++ forD (l.drop i) a1 = forD l a1 →
      Ev (fun k => posthouselaw3_EnvelopeDomainsMatchSpec.l0 k a1 D out tt (i : Int) a0 l c0 o0 o1 o2 f0 f1) true
  | 0, i, out, tt, h, h1, h2, h3, h4 => by
    rw [List.drop_eq_nil_of_le (by omega)] at h3 h4
    rw [doms] at h3
    subst h3
    rw [show forD [] a1 = [] from rfl, List.append_nil] at h4
    subst h4
    refine Ev.succ ?_
    unfold posthouselaw3_EnvelopeDomainsMatchSpec.l0
    simp only [if_neg (show ¬ (i : Int) < (l.length : Int) by omega), posthouseref3_At.f, Option.bind_some]
    refine Ev.bind (Strings_ev out out (by omega)) ?_
    simp only [decide_true, if_true]
    by_cases e : forD l a1 = []
    · rw [if_pos e] at ho
      obtain ⟨rfl, rfl, rfl, rfl, rfl⟩ : o0 = ByteArray.empty ∧ o1 = [] ∧ o2 = ByteArray.empty ∧ f0 = 6 ∧ f1 = -13 := by simpa using ho
      simp only [if_pos (show ((forD l a1).length : Int) = 0 by rw [e]; rfl)]
      refine Ev.const fun k => ?_
      simp
    · rw [if_neg e] at ho
      obtain ⟨rfl, rfl, rfl, rfl, rfl⟩ : o0 = a0 ∧ o1 = forD l a1 ∧ o2 = c0 ∧ f0 = 0 ∧ f1 = 0 := by simpa using ho
      have hn : ¬ ((forD l a1).length : Int) = 0 := fun h => e (List.eq_nil_of_length_eq_zero (by omega))
      simp only [if_neg hn, if_true]
      exact Ev.bind (g := fun _ t => some t) (Same_ev _ (by omega)) (Ev.some_ _)
  | d + 1, i, out, tt, h, h1, h2, h3, h4 => by
    have hi : i < l.length := by omega
    have hw : wrap64 ((i : Int) + 1) = ((i + 1 : Nat) : Int) := by rw [w64 _ (by omega)]; omega
    have hsz := hs _ (List.getElem_mem hi)
    have ih := law_loop a1 D a0 c0 l o0 o1 o2 f0 f1 hl hs hD ho d (i + 1)
    rw [List.drop_eq_getElem_cons hi] at h3 h4
    rw [doms] at h3
    unfold forD at h4
    rw [List.filter_cons] at h4
    refine Ev.succ ?_
    unfold posthouselaw3_EnvelopeDomainsMatchSpec.l0
    simp only [if_pos (show (i : Int) < (l.length : Int) by omega), if_pos (show (0 : Int) ≤ (i : Int) by omega), UniteX.rd_get hi, hw, if_pos (show tt.length < 5864062014805 by omega), if_pos (show out.length < 8796093022208 by omega), Option.bind_some]
    refine Ev.bind (RDomainOf_ev _ hsz) ?_
    refine Ev.bind (Has_ev out (domOf (l[i]).f0) (by omega)) ?_
    by_cases e : hasS out (domOf (l[i]).f0) = true
    · rw [if_pos e] at h3
      simp only [if_pos e]
      by_cases e2 : domOf (l[i]).f0 = a1
      · simp only [if_pos (tl_iff.2 e2)]
        refine ih out (tt ++ [l[i]]) (by omega) (by omega) (by simp; omega) h3 ?_
        rw [if_pos (decide_eq_true e2)] at h4
        rw [List.append_assoc]
        exact h4
      · simp only [if_neg (fun h => e2 (tl_iff.1 h))]
        refine ih out tt (by omega) (by omega) (by omega) h3 ?_
        rw [if_neg (by simpa using e2)] at h4
        exact h4
    · rw [if_neg e] at h3
      simp only [if_neg e]
      by_cases e2 : domOf (l[i]).f0 = a1
      · simp only [if_pos (tl_iff.2 e2)]
        refine ih _ (tt ++ [l[i]]) (by omega) (by simp; omega) (by simp; omega) h3 ?_
        rw [if_pos (decide_eq_true e2)] at h4
        rw [List.append_assoc]
        exact h4
      · simp only [if_neg (fun h => e2 (tl_iff.1 h))]
        refine ih _ tt (by omega) (by simp; omega) (by omega) h3 ?_
        rw [if_neg (by simpa using e2)] at h4
        exact h4
theorem pure : posthouselaw3_EnvelopeDomainsMatchSpec.PureX := by
  intro x a1 hwf ha1
  obtain ⟨ha, hl, hc⟩ := hwf
  have hs : ∀ y ∈ x.f1, y.f0.size ≤ 140737488351232 := fun y hy => (hl.2 y hy).1
  refine Ev.ex ?_
  unfold posthouselaw3_EnvelopeDomainsMatchSpec.f
  refine Ev.bind (EnvelopeFault_ev x.f0 x.f1 x.f2 ha hs hc) ?_
  refine Ev.bind (Domains_ev x.f0 x.f1 x.f2 ha hs hc) ?_
  refine Ev.bind (For_ev x.f0 x.f1 x.f2 a1 ha hs hc) ?_
  refine Ev.bind envelopes_ev ?_
  by_cases e : (efl x.f0 x.f1 x.f2).1 = 0
  · obtain ⟨h1, h2, h3, _⟩ := efl_code e
    simp only [if_pos e, h1]
    have := law_loop a1 _ x.f0 x.f2 x.f1 _ _ _ _ _ h3 hs rfl (Eq.refl (if forD x.f1 a1 = [] then (ByteArray.empty, [], ByteArray.empty, 6, -13) else (x.f0, forD x.f1 a1, x.f2, 0, 0))) x.f1.length 0 [] [] (by omega) (by simp) (by simp) (by rw [List.drop_zero]) (by rw [List.drop_zero]; rfl)
    refine Ev.congr (f := fun k => posthouselaw3_EnvelopeDomainsMatchSpec.j0 k a1 (doms [] x.f1) false x.f0 x.f1 x.f2 0 0 0 0 (if forD x.f1 a1 = [] then (ByteArray.empty, [], ByteArray.empty, 6, -13) else (x.f0, forD x.f1 a1, x.f2, 0, 0) : ByteArray × List S48 × ByteArray × Int × Int).1 (if forD x.f1 a1 = [] then (ByteArray.empty, [], ByteArray.empty, 6, -13) else (x.f0, forD x.f1 a1, x.f2, 0, 0) : ByteArray × List S48 × ByteArray × Int × Int).2.1 (if forD x.f1 a1 = [] then (ByteArray.empty, [], ByteArray.empty, 6, -13) else (x.f0, forD x.f1 a1, x.f2, 0, 0) : ByteArray × List S48 × ByteArray × Int × Int).2.2.1 (if forD x.f1 a1 = [] then (ByteArray.empty, [], ByteArray.empty, 6, -13) else (x.f0, forD x.f1 a1, x.f2, 0, 0) : ByteArray × List S48 × ByteArray × Int × Int).2.2.2.1 (if forD x.f1 a1 = [] then (ByteArray.empty, [], ByteArray.empty, 6, -13) else (x.f0, forD x.f1 a1, x.f2, 0, 0) : ByteArray × List S48 × ByteArray × Int × Int).2.2.2.2) ?_ (fun k => by simp)
    refine Ev.succ ?_
    unfold posthouselaw3_EnvelopeDomainsMatchSpec.j0
    simp only [Bool.false_eq_true, if_false]
    exact this
  · simp only [if_neg e]
    have hb : ((efl x.f0 x.f1 x.f2).1 != 0) = true := by simpa using e
    refine Ev.congr (f := fun k => posthouselaw3_EnvelopeDomainsMatchSpec.j0 k a1 [] true x.f0 x.f1 x.f2 (efl x.f0 x.f1 x.f2).1 (efl x.f0 x.f1 x.f2).2 (efl x.f0 x.f1 x.f2).1 (efl x.f0 x.f1 x.f2).2 ByteArray.empty [] ByteArray.empty (efl x.f0 x.f1 x.f2).1 (efl x.f0 x.f1 x.f2).2) ?_ (fun k => by simp [hb])
    refine Ev.succ ?_
    unfold posthouselaw3_EnvelopeDomainsMatchSpec.j0
    simp only [if_true]
    refine Ev.bind envelopes_ev (Ev.const fun k => ?_)
    simp
end Go.Proofs.YtbmeebhcanknmaaDoor.XDom.PEnvelopeDomainsMatchSpec
