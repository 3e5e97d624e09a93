/- Validation of envelopes and mails is as specified: for every mail within reach the law's own function answers true. -/
import Derived.Test.YtbmeebhcanknmaaDoorXEvmSEnvelopeMatchesSpec
import Derived.Test.YtbmeebhcanknmaaDoorVEvma
namespace Go.Proofs.YtbmeebhcanknmaaDoor.XEvm.PEnvelopeMatchesSpec
open Go Go.RowKit Go.Proofs.YtbmeebhcanknmaaDoorW.PrintWords Go.Proofs.YtbmeebhcanknmaaDoor.XEvm
set_option linter.unusedVariables false
set_option linter.unusedSimpArgs false
/-- From some number of rounds on. -/
def Ev {β : Type} (f : Nat → Option β) (v : β) : Prop := ∃ K, ∀ k, K ≤ k → f k = some v
theorem Ev.const {β : Type} {f : Nat → Option β} {v : β} (h : ∀ k, f k = some v) : Ev f v := ⟨0, fun k _ => h k⟩
theorem Ev.some_ {β : Type} (v : β) : Ev (fun _ => some v) v := .const fun _ => rfl
theorem Ev.bind {α β : Type} {f : Nat → Option α} {g : Nat → α → Option β} {a : α} {v : β} (h : Ev f a) (h2 : Ev (fun k => g k a) v) : Ev (fun k => (f k).bind (g k)) v := by
 obtain ⟨K, hK⟩ := h
 obtain ⟨M, hM⟩ := h2
 refine ⟨max K M, fun k hk => ?_⟩
 show (f k).bind (g k) = some v
 rw [hK k (by omega)]
 exact hM k (by omega)
theorem Ev.succ {β : Type} {f : Nat → Option β} {v : β} (h : Ev (fun k => f (k + 1)) v) : Ev f v := by
 obtain ⟨K, hK⟩ := h
 refine ⟨K + 1, fun k hk => ?_⟩
 obtain ⟨k, rfl⟩ : ∃ j, k = j + 1 := ⟨k - 1, by omega⟩
 exact hK k (by omega)
theorem Ev.congr {β : Type} {f g : Nat → Option β} {v : β} (h : Ev f v) (e : ∀ k, g k = f k) : Ev g v := by
 obtain ⟨K, hK⟩ := h
 exact ⟨K, fun k hk => (e k).trans (hK k hk)⟩
theorem Ev.val {β : Type} {f : Nat → Option β} {v v' : β} (h : Ev f v) (e : v = v') : Ev f v' := e ▸ h
theorem Ev.ex {β : Type} {f : Nat → Option β} {v : β} (h : Ev f v) : ∃ k, f k = some v := by
 obtain ⟨K, hK⟩ := h
 exact ⟨K, hK K (Nat.le_refl _)⟩
theorem w64 (n : Int) (h : -9223372036854775808 ≤ n ∧ n ≤ 9223372036854775807) : wrap64 n = n := by unfold wrap64; omega
/-- A text's bytes, as natural numbers. -/
def by_ (a : ByteArray) : List Nat := a.data.toList.map UInt8.toNat
theorem by_len (a : ByteArray) : (by_ a).length = a.size := by unfold by_; rw [List.length_map]; exact Array.length_toList
theorem by_lt (a : ByteArray) : ∀ n ∈ by_ a, n < 256 := by
 intro n hn
 obtain ⟨b, _, rfl⟩ := List.mem_map.1 hn
 exact b.toNat_lt
theorem bt_by (a : ByteArray) (i : Nat) (h : i < a.size) : bt a i = ((by_ a)[i]'(by rw [by_len]; exact h) : Nat) := by
 unfold bt
 rw [dif_pos (by simpa using h)]
 simp [by_]
 rfl

def okl (n : Nat) : Bool := decide (97 ≤ n ∧ n ≤ 122) || decide (65 ≤ n ∧ n ≤ 90) || decide (48 ≤ n ∧ n ≤ 57) || n == 45 || n == 95 || n == 46 || n == 43 || n == 61
def isLet (n : Nat) : Bool := decide (97 ≤ n ∧ n ≤ 122) || decide (65 ≤ n ∧ n ≤ 90)
def isDig (n : Nat) : Bool := decide (48 ≤ n ∧ n ≤ 57)
theorem letter_val (n : Nat) : envelope_letter.f (n : Int) = some (isLet n) := by
 unfold envelope_letter.f isLet
 repeat' split
 all_goals (congr 1; rw [Bool.eq_iff_iff]; simp; try omega)
theorem digit_val (n : Nat) : envelope_digit.f (n : Int) = some (isDig n) := by
 unfold envelope_digit.f isDig
 repeat' split
 all_goals (congr 1; rw [Bool.eq_iff_iff]; simp; try omega)
theorem local_body : ∀ n : Nat, n < 256 → (strings_IndexByte.f (⟨#[45, 95, 46, 43, 61]⟩ : ByteArray) (n : Int)).map (fun t => decide (t < 0)) = some (!(n == 45 || n == 95 || n == 46 || n == 43 || n == 61)) := by decide +kernel
def lenOk (n : Nat) : Bool := decide (1 ≤ n ∧ n ≤ 60)
theorem isLocal_loop (a : ByteArray) (hs : a.size ≤ 140737488351232) : ∀ d i, i + d = a.size → Ev (fun k => envelope_isLocal.l0 k a (a.size : Int) (i : Int)) (((by_ a).drop i).all okl && lenOk a.size)
 | 0, i, h => by
  refine Ev.succ (Ev.const fun k => ?_)
  unfold envelope_isLocal.l0
  rw [if_neg (by omega), List.drop_eq_nil_of_le (by rw [by_len]; omega)]
  unfold lenOk
  split
  all_goals (congr 1; rw [Bool.eq_iff_iff]; simp; omega)
 | d + 1, i, h => by
  have ih := isLocal_loop a hs d (i + 1) (by omega)
  have hi : i < (by_ a).length := by rw [by_len]; omega
  refine Ev.succ ?_
  unfold envelope_isLocal.l0
  have h2 : wrap64 ((i : Int) + 1) = ((i + 1 : Nat) : Int) := by rw [w64 _ (by omega)]; omega
  simp only [if_pos (show (i : Int) < (a.size : Int) by omega), if_pos (show (0 : Int) ≤ (i : Int) by omega), bt_by a i (by omega), letter_val, digit_val, h2, Option.bind_some]
  have hlt := by_lt a _ (List.getElem_mem hi)
  rw [List.drop_eq_getElem_cons hi, List.all_cons]
  generalize (by_ a)[i] = n at hlt ⊢
  have hb := local_body n hlt
  obtain ⟨t, ht, htb⟩ := Option.map_eq_some_iff.1 hb
  simp only [ht, Option.bind_some]
  by_cases h1 : isLet n = true
  ·
   have : okl n = true := by unfold okl; unfold isLet at h1; simp only [h1, Bool.true_or]
   simp only [h1, if_true, this, Bool.true_and]
   exact ih
  ·
   by_cases h3 : isDig n = true
   ·
    have : okl n = true := by unfold okl; unfold isDig at h3; simp only [h3, Bool.true_or, Bool.or_true]
    simp only [h1, h3, if_true, this, Bool.true_and]
    exact ih
   ·
    by_cases h4 : t < 0
    ·
     have : okl n = false := by
      unfold okl
      unfold isLet at h1
      unfold isDig at h3
      rw [decide_eq_true h4] at htb
      simp only [Bool.not_eq_true] at h1 h3
      simp only [h1, h3, Bool.false_or]
      simpa using htb.symm
     simp only [h1, h3, h4, if_true, this, Bool.false_and]
     exact Ev.some_ _
    ·
     have : okl n = true := by
      unfold okl
      unfold isLet at h1
      unfold isDig at h3
      rw [decide_eq_false h4] at htb
      simp only [Bool.not_eq_true] at h1 h3
      simp only [h1, h3, Bool.false_or]
      cases hx : (n == 45 || n == 95 || n == 46 || n == 43 || n == 61) with
      | true => rfl
      | false => rw [hx] at htb; cases htb
     simp only [h1, h3, h4, if_false, this, Bool.true_and]
     exact ih
theorem isLocal_ev (a : ByteArray) (hs : a.size ≤ 140737488351232) : Ev (fun k => envelope_isLocal.f k a) ((by_ a).all okl && lenOk a.size) := by
 have := isLocal_loop a hs a.size 0 (by omega)
 simpa [envelope_isLocal.f] using this

def okc (n : Nat) : Bool := decide (97 ≤ n ∧ n ≤ 122) || decide (48 ≤ n ∧ n ≤ 57) || n == 45
/-- A domain's letters; b: a label begins here. -/
def dz : Bool → List Nat → Bool
 | b, [] => !b
 | b, c :: l => if c = 46 then !b && dz true l else okc c && dz false l
theorem In_val (a b c : Int) : posthouseref3_In.f a b c = some (decide (b ≤ a ∧ a ≤ c)) := by
 unfold posthouseref3_In.f
 split
 all_goals (congr 1; rw [Bool.eq_iff_iff]; simp; try omega)
theorem dom_loop (a : ByteArray) (hs : a.size ≤ 140737488351232) : ∀ d i, i + d = a.size → (d = 0 → i ≠ 0 → (by_ a)[i - 1]? ≠ some 46) → Ev (fun k => posthouseref3_DomainOk.l0 k a (i : Int)) (dz (decide (i = 0) || (by_ a)[i - 1]? == some 46) ((by_ a).drop i) && lenOk a.size)
 | 0, i, h, hd => by
  refine Ev.succ (Ev.const fun k => ?_)
  unfold posthouseref3_DomainOk.l0
  rw [if_neg (by omega), List.drop_eq_nil_of_le (by rw [by_len]; omega), In_val]
  simp only [Option.bind_some, dz]
  congr 1
  unfold lenOk
  rw [Bool.eq_iff_iff]
  by_cases h0 : i = 0
  ·
   simp [h0]; omega
  ·
   have := hd rfl h0
   simp [h0, this]
   try omega
 | d + 1, i, h, hd => by
  have hi : i < (by_ a).length := by rw [by_len]; omega
  have h2 : wrap64 ((i : Int) + 1) = ((i + 1 : Nat) : Int) := by rw [w64 _ (by omega)]; omega
  have h3 : wrap64 ((a.size : Int) - 1) = ((a.size - 1 : Nat) : Int) := by rw [w64 _ (by omega)]; omega
  have hget : (by_ a)[i]? = some (by_ a)[i] := List.getElem?_eq_getElem hi
  refine Ev.succ ?_
  unfold posthouseref3_DomainOk.l0
  simp only [if_pos (show (i : Int) < (a.size : Int) by omega), if_pos (show (0 : Int) ≤ (i : Int) by omega), bt_by a i (by omega), h3]
  have hlt := by_lt a _ (List.getElem_mem hi)
  rw [List.drop_eq_getElem_cons hi]
  have hw : wrap64 (((by_ a)[i] : Nat) : Int) = (((by_ a)[i] : Nat) : Int) := w64 _ (by omega)
  rw [hw]
  -- what j1 does
  have hj : ∀ c : Nat, (by_ a)[i] = c → c ≠ 46 ∨ d ≠ 0 → Ev (fun k => posthouseref3_DomainOk.j1 k a (i : Int) (c : Int) false) ((okc c || c == 46) && (dz (c == 46) ((by_ a).drop (i + 1)) && lenOk a.size)) := by
   intro c hc hcd
   have ih := dom_loop a hs d (i + 1) (by omega) (fun hd0 _ he => by
    rw [Nat.add_sub_cancel, hget, hc] at he
    have he : c = 46 := by simpa using he
    rcases hcd with h | h
    ·
     exact h he
    ·
     exact h hd0)
   rw [Nat.add_sub_cancel, hget, hc] at ih
   have ih2 : Ev (fun k => posthouseref3_DomainOk.l0 k a (((i + 1 : Nat)) : Int)) (dz (c == 46) ((by_ a).drop (i + 1)) && lenOk a.size) := by
    refine ih.val ?_
    congr 1
   refine Ev.succ ?_
   unfold posthouseref3_DomainOk.j1
   simp only [In_val, Option.bind_some, h2, if_pos (show (i : Int) < (a.size : Int) by omega), if_pos (show (0 : Int) ≤ (i : Int) by omega), bt_by a i (by omega), hc, Bool.false_eq_true, if_false]
   by_cases h1 : 97 ≤ c ∧ c ≤ 122
   ·
    have e1 : okc c = true := by unfold okc; simp [h1]
    rw [e1, Bool.true_or, Bool.true_and]
    refine ih2.congr fun k => ?_
    rw [if_pos (by simp; omega)]
   ·
    by_cases h4 : 48 ≤ c ∧ c ≤ 57
    ·
     have e1 : okc c = true := by unfold okc; simp [h4]
     rw [e1, Bool.true_or, Bool.true_and]
     refine ih2.congr fun k => ?_
     rw [if_neg (by simp; omega), if_pos (by simp; omega)]
    ·
     by_cases h5 : c = 45
     ·
      have e1 : okc c = true := by unfold okc; simp [h5]
      rw [e1, Bool.true_or, Bool.true_and]
      refine ih2.congr fun k => ?_
      rw [if_neg (by simp; omega), if_neg (by simp; omega), if_pos (by omega)]
     ·
      have e1 : okc c = false := by
       unfold okc
       rw [decide_eq_false h1, decide_eq_false h4]
       simpa using h5
      rw [e1, Bool.false_or]
      by_cases h6 : c = 46
      ·
       rw [beq_iff_eq.2 h6, Bool.true_and]
       rw [beq_iff_eq.2 h6] at ih2
       refine ih2.congr fun k => ?_
       rw [if_neg (by simp; omega), if_neg (by simp; omega), if_neg (by omega), if_pos (by omega)]
      ·
       have e6 : (c == 46) = false := by simpa using h6
       rw [e6, Bool.false_and]
       refine Ev.const fun k => ?_
       rw [if_neg (by simp; omega), if_neg (by simp; omega), if_neg (by omega), if_neg (by omega)]
  have hbad : ∀ c : Int, Ev (fun k => posthouseref3_DomainOk.j1 k a (i : Int) c true) false := fun c => by
   refine Ev.succ (Ev.const fun k => ?_)
   unfold posthouseref3_DomainOk.j1
   rw [if_pos rfl]
  by_cases hc : (by_ a)[i] = 46
  ·
   have e46 : okc 46 = false := by decide
   by_cases h0 : i = 0
   ·
    subst h0
    refine ((hbad (((by_ a)[0]'(by omega) : Nat) : Int)).congr fun k => ?_).val (by simp [hc, dz])
    rw [if_pos (by omega), if_pos (by omega)]
   ·
    by_cases hl : d = 0
    ·
     refine ((hbad (((by_ a)[i] : Nat) : Int)).congr fun k => ?_).val ?_
     ·
      rw [if_pos (by omega), if_neg (by omega), if_pos (by omega)]
     ·
      rw [List.drop_eq_nil_of_le (by rw [by_len]; omega)]
      simp [hc, dz]
    ·
     have h5 : wrap64 ((i : Int) - 1) = ((i - 1 : Nat) : Int) := by rw [w64 _ (by omega)]; omega
     have hp : (by_ a)[i - 1]? = some ((by_ a)[i - 1]'(by rw [by_len]; omega)) := List.getElem?_eq_getElem (by rw [by_len]; omega)
     have hbt := bt_by a (i - 1) (by omega)
     simp only [if_pos (show (((by_ a)[i] : Nat) : Int) = 46 by omega), if_neg (show ¬ (i : Int) = 0 by omega), if_neg (show ¬ (i : Int) = ((a.size - 1 : Nat) : Int) by omega), h5, if_pos (show (0 : Int) ≤ ((i - 1 : Nat) : Int) by omega), if_pos (show ((i - 1 : Nat) : Int) < (a.size : Int) by omega), hbt]
     rw [hp]
     generalize (by_ a)[i - 1]'(by rw [by_len]; omega) = q
     by_cases hq : q = 46
     ·
      subst hq
      refine ((hbad (((by_ a)[i] : Nat) : Int)).congr fun k => rfl).val (by simp [hc, dz])
     ·
      have h6 : (((q : Nat) : Int) == 46) = false := by rw [beq_eq_false_iff_ne]; omega
      have := hj _ rfl (.inr hl)
      rw [h6]
      refine this.val ?_
      rw [hc, dz, if_pos rfl, e46]
      have hqb : (q == 46) = false := by simpa using hq
      simp [h0, hqb]
  ·
   have hcb : ((by_ a)[i] == 46) = false := by simpa using hc
   have := hj _ rfl (.inl hc)
   rw [hcb, Bool.or_false] at this
   rw [dz, if_neg hc]
   refine (this.congr fun k => ?_).val (by rw [Bool.and_assoc])
   rw [if_neg (by omega)]

theorem DomainOk_ev (a : ByteArray) (hs : a.size ≤ 140737488351232) : Ev (fun k => posthouseref3_DomainOk.f k a) (dz true (by_ a) && lenOk a.size) := by
 have := dom_loop a hs a.size 0 (by omega) (fun _ h => absurd rfl h)
 simpa [posthouseref3_DomainOk.f] using this
/-- The split says the same. -/
theorem okc_C (b : UInt8) : IsDomainX.okC (b.toNat : Int) = okc b.toNat := by
 unfold IsDomainX.okC okc
 rw [Bool.eq_iff_iff]
 simp
 omega
theorem all_split : ∀ l : List UInt8, ((SplitSeq.split1 46 l).all IsDomainX.okL = dz true (l.map UInt8.toNat)) ∧ ∃ h t, SplitSeq.split1 46 l = h :: t ∧ ((h.all fun c => IsDomainX.okC (c.toNat : Int)) && t.all IsDomainX.okL) = dz false (l.map UInt8.toNat)
 | [] => by
  refine ⟨by decide, [], [], ?_, by decide⟩
  rfl
 | c :: l => by
  obtain ⟨h1, h, t, h2, h3⟩ := all_split l
  by_cases hc : c = 46
  ·
   subst hc
   have e : SplitSeq.split1 46 (46 :: l) = [] :: SplitSeq.split1 46 l := by rw [SplitSeq.split1, if_pos (by decide)]
   refine ⟨?_, [], _, e, ?_⟩
   ·
    rw [e, List.all_cons, List.map_cons, show (46 : UInt8).toNat = 46 from rfl, dz, if_pos rfl]
    rw [show IsDomainX.okL [] = false by decide]
    rfl
   ·
    rw [h1, List.map_cons, show (46 : UInt8).toNat = 46 from rfl, dz, if_pos rfl]
    rfl
  ·
   have e : SplitSeq.split1 46 (c :: l) = (c :: h) :: t := by rw [SplitSeq.split1, if_neg (by simpa using hc), h2]
   have hn : c.toNat ≠ 46 := fun he => hc (UInt8.toNat_inj.1 (by rw [he]; rfl))
   have hd : ∀ b, dz b ((c :: l).map UInt8.toNat) = (okc c.toNat && dz false (l.map UInt8.toNat)) := fun b => by rw [List.map_cons, dz, if_neg hn]
   refine ⟨?_, c :: h, t, e, ?_⟩
   ·
    rw [e, hd, ← h3, List.all_cons, ← okc_C, IsDomainX.okL, List.all_cons]
    simp [Bool.and_assoc]
   ·
    rw [hd, ← h3, List.all_cons, okc_C, Bool.and_assoc]
theorem IsDomain_val (a : ByteArray) : envelope_IsDomain.f a = some (dz true (by_ a) && decide (a.size ≤ 60)) := by
 unfold envelope_IsDomain.f
 congr 1
 unfold IsDomainX.okD
 rw [(all_split _).1]
 by_cases h : 60 < a.size
 ·
  rw [if_pos (by omega), decide_eq_false (by omega)]; simp
 ·
  rw [if_neg (by omega), decide_eq_true (by omega)]; simp [by_]
theorem dz_nil {l : List Nat} (h : dz true l = true) : 1 ≤ l.length := by
 cases l with
 | nil => simp [dz] at h
 | cons c l => simp

def pos (L : List Nat) : Nat := L.findIdx (· == 64)
theorem pos_le (L : List Nat) : pos L ≤ L.length := List.findIdx_le_length
/-- An address, on its bytes. -/
def adr (L : List Nat) : Bool := (L.take (pos L)).all okl && lenOk (pos L) && decide (pos L < L.length) && (dz true (L.drop (pos L + 1)) && lenOk (L.length - (pos L + 1)))
theorem by_extract (a : ByteArray) (i j : Nat) (h : j ≤ a.size) : by_ (a.extract i j) = ((by_ a).drop i).take (j - i) := by
 unfold by_
 rw [← List.map_drop, ← List.map_take]
 congr 1
 rw [ByteArray.data_extract, Array.toList_extract, List.extract_eq_take_drop]
theorem sign_loop (a : ByteArray) (hs : a.size ≤ 140737488351232) : ∀ d i, i + d = a.size → Ev (fun k => posthouseref3_sign.l0 k a (i : Int)) ((i + pos ((by_ a).drop i) : Nat) : Int)
 | 0, i, h => by
  refine Ev.succ (Ev.const fun k => ?_)
  unfold posthouseref3_sign.l0
  rw [if_neg (by omega), List.drop_eq_nil_of_le (by rw [by_len]; omega)]
  simp [pos]; omega
 | d + 1, i, h => by
  have ih := sign_loop a hs d (i + 1) (by omega)
  have hi : i < (by_ a).length := by rw [by_len]; omega
  have h2 : wrap64 ((i : Int) + 1) = ((i + 1 : Nat) : Int) := by rw [w64 _ (by omega)]; omega
  refine Ev.succ ?_
  unfold posthouseref3_sign.l0
  simp only [if_pos (show (i : Int) < (a.size : Int) by omega), if_pos (show (0 : Int) ≤ (i : Int) by omega), bt_by a i (by omega), h2]
  rw [List.drop_eq_getElem_cons hi]
  unfold pos at ih ⊢
  rw [List.findIdx_cons]
  by_cases hc : (by_ a)[i] = 64
  ·
   refine Ev.const fun k => ?_
   rw [if_pos (by omega), hc]
   simp
  ·
   have hb : ((by_ a)[i] == 64) = false := by simpa using hc
   refine (ih.congr fun k => ?_).val ?_
   ·
    rw [if_neg (by omega)]
   ·
    rw [hb]; simp; omega
theorem sign_ev (a : ByteArray) (hs : a.size ≤ 140737488351232) : Ev (fun k => posthouseref3_sign.f k a) (pos (by_ a) : Int) := by
 have := sign_loop a hs a.size 0 (by omega)
 simpa [posthouseref3_sign.f] using this
theorem lod_val (n : Nat) (h : n < 256) : posthouseref3_letterOrDigit.f (n : Int) = some (isLet n || isDig n) := by
 unfold posthouseref3_letterOrDigit.f
 rw [w64 _ (by omega)]
 simp only [In_val, Option.bind_some]
 unfold isLet isDig
 by_cases h1 : 97 ≤ n ∧ n ≤ 122
 ·
  rw [if_pos (by simp; omega)]; simp [h1]
 ·
  rw [if_neg (by simp; omega)]
  by_cases h2 : 65 ≤ n ∧ n ≤ 90
  ·
   rw [if_pos (by simp; omega)]; simp [h2]
  ·
   rw [if_neg (by simp; omega)]
   congr 1
   rw [Bool.eq_iff_iff]; simp; omega
theorem addr_loop (a : ByteArray) (hs : a.size ≤ 140737488351232) (p : Nat) (hp : p ≤ a.size) : ∀ d i, i + d = p → Ev (fun k => posthouseref3_AddressOk.l0 k a (p : Int) (i : Int)) ((((by_ a).take p).drop i).all okl && lenOk p && decide (p < a.size) && (dz true ((by_ a).drop (p + 1)) && lenOk (a.size - (p + 1))))
 | 0, i, h => by
  refine Ev.succ ?_
  unfold posthouseref3_AddressOk.l0
  have h2 : wrap64 ((p : Int) + 1) = ((p + 1 : Nat) : Int) := by rw [w64 _ (by omega)]; omega
  simp only [if_neg (show ¬ (i : Int) < (p : Int) by omega), In_val, Option.bind_some, h2]
  rw [List.drop_eq_nil_of_le (by rw [List.length_take]; omega)]
  by_cases h1 : 1 ≤ p ∧ p ≤ 60
  ·
   have e1 : lenOk p = true := by unfold lenOk; exact decide_eq_true h1
   rw [e1]
   simp only [if_pos (show decide ((1 : Int) ≤ (p : Int) ∧ (p : Int) ≤ 60) = true by simp; omega)]
   by_cases h3 : p < a.size
   ·
    simp only [if_pos (show (p : Int) < (a.size : Int) by omega), if_pos (show (0 : Int) ≤ ((p + 1 : Nat) : Int) by omega), if_pos (show ((p + 1 : Nat) : Int) ≤ (a.size : Int) by omega), Int.toNat_natCast]
    have hx : (a.extract (p + 1) a.size).size = a.size - (p + 1) := by simp
    have := DomainOk_ev (a.extract (p + 1) a.size) (by omega)
    rw [by_extract _ _ _ (Nat.le_refl _), hx, List.take_of_length_le (by rw [List.length_drop, by_len]; omega)] at this
    refine ((Ev.bind (g := fun _ t => some t) this (Ev.some_ _)).val ?_)
    rw [decide_eq_true h3]; simp
   ·
    refine Ev.const fun k => ?_
    rw [if_neg (by omega), decide_eq_false h3]; simp
  ·
   have e1 : lenOk p = false := by unfold lenOk; exact decide_eq_false h1
   refine Ev.const fun k => ?_
   rw [if_neg (by simp; omega), e1]; simp
 | d + 1, i, h => by
  have ih := addr_loop a hs p hp d (i + 1) (by omega)
  have hi : i < (by_ a).length := by rw [by_len]; omega
  have h2 : wrap64 ((i : Int) + 1) = ((i + 1 : Nat) : Int) := by rw [w64 _ (by omega)]; omega
  have hlt := by_lt a _ (List.getElem_mem hi)
  refine Ev.succ ?_
  unfold posthouseref3_AddressOk.l0
  simp only [if_pos (show (i : Int) < (p : Int) by omega), if_pos (show (i : Int) < (a.size : Int) by omega), if_pos (show (0 : Int) ≤ (i : Int) by omega), bt_by a i (by omega), h2, lod_val _ hlt, Option.bind_some]
  have hi2 : i < ((by_ a).take p).length := by rw [List.length_take]; omega
  rw [List.drop_eq_getElem_cons hi2, List.all_cons, List.getElem_take]
  generalize (by_ a)[i] = n at hlt ⊢
  by_cases h0 : okl n = true
  ·
   rw [h0, Bool.true_and]
   refine ih.congr fun k => ?_
   by_cases h1 : (isLet n || isDig n) = true
   ·
    rw [if_pos h1]
   ·
    rw [if_neg h1]
    have h3 : n = 45 ∨ n = 95 ∨ n = 46 ∨ n = 43 ∨ n = 61 := by
     unfold okl at h0
     unfold isLet isDig at h1
     simp at h0 h1
     omega
    rcases h3 with rfl | rfl | rfl | rfl | rfl <;> simp
  ·
   have h1 : ¬ (isLet n || isDig n) = true := fun h1 => h0 (by
    unfold okl
    unfold isLet isDig at h1
    simp at h1 ⊢
    omega)
   have h3 : n ≠ 45 ∧ n ≠ 95 ∧ n ≠ 46 ∧ n ≠ 43 ∧ n ≠ 61 := by
    refine ⟨?_, ?_, ?_, ?_, ?_⟩ <;> (rintro rfl; exact h0 (by decide))
   have h0' : okl n = false := by simpa using h0
   rw [h0', Bool.false_and]
   refine Ev.const fun k => ?_
   rw [if_neg h1, if_neg (by omega), if_neg (by omega), if_neg (by omega), if_neg (by omega), if_neg (by omega)]
   simp
theorem AddressOk_ev (a : ByteArray) (hs : a.size ≤ 140737488351232) : Ev (fun k => posthouseref3_AddressOk.f k a) (adr (by_ a)) := by
 unfold posthouseref3_AddressOk.f
 have hp := pos_le (by_ a)
 rw [by_len] at hp
 have := addr_loop a hs (pos (by_ a)) hp (pos (by_ a)) 0 (by omega)
 refine (Ev.bind (sign_ev a hs) this).val ?_
 unfold adr
 rw [by_len, List.drop_zero]
theorem index_pos : ∀ l : List UInt8, Lib.index l [64] = if pos (l.map UInt8.toNat) < l.length then (pos (l.map UInt8.toNat) : Int) else -1
 | [] => by decide
 | b :: l => by
  have ih := index_pos l
  unfold Lib.index
  unfold pos at ih ⊢
  rw [List.map_cons, List.findIdx_cons]
  by_cases hb : b = 64
  ·
   subst hb
   rw [if_pos (by simp [List.isPrefixOf])]
   rw [show ((64 : UInt8).toNat == 64) = true from rfl]
   simp
  ·
   have h1 : (b.toNat == 64) = false := by
    rw [beq_eq_false_iff_ne]
    exact fun he => hb (UInt8.toNat_inj.1 (by rw [he]; rfl))
   rw [if_neg (by simp [List.isPrefixOf]; exact fun h => hb h.symm), ih, h1]
   by_cases h : List.findIdx (· == 64) (l.map UInt8.toNat) < l.length
   ·
    rw [if_pos h, if_neg (by rw [beq_iff_eq]; omega), cond_false, if_pos (by rw [List.length_cons]; omega)]
    omega
   ·
    rw [if_neg h, if_pos (by decide), cond_false, if_neg (by rw [List.length_cons]; omega)]
theorem Cut_val (a : ByteArray) (hs : a.size ≤ 140737488351232) : strings_Cut.f a ⟨#[64]⟩ = some (if pos (by_ a) < a.size then (a.extract 0 (pos (by_ a)), a.extract (pos (by_ a) + 1) a.size, true) else (a, ⟨#[]⟩, false)) := by
 unfold strings_Cut.f stringslite_Cut.f stringslite_Index.f
 have hi : Lib.index a.data.toList [64] = if pos (by_ a) < a.size then (pos (by_ a) : Int) else -1 := by
  rw [index_pos]; rfl
 rw [if_pos (by rfl), show (⟨#[64]⟩ : ByteArray).data.toList = [64] from rfl, hi]
 have hw : ∀ p : Nat, p < a.size → wrap64 ((p : Int) + (((⟨#[64]⟩ : ByteArray).size : Nat) : Int)) = ((p + 1 : Nat) : Int) := fun p hp => by
  rw [show (⟨#[64]⟩ : ByteArray).size = 1 from rfl, w64 _ (by omega)]; omega
 by_cases h : pos (by_ a) < a.size
 ·
  rw [if_pos h, if_pos h]
  simp only [Option.bind_some, hw _ h]
  rw [if_pos (by omega), if_pos (by omega), if_pos (by omega), if_pos (by omega), if_pos (by omega)]
  simp
 ·
  rw [if_neg h, if_neg h]
  simp
theorem IsAddress_ev (a : ByteArray) (hs : a.size ≤ 140737488351232) : Ev (fun k => envelope_IsAddress.f k a) (adr (by_ a)) := by
 unfold envelope_IsAddress.f
 rw [Cut_val a hs]
 simp only [Option.bind_some]
 by_cases h : pos (by_ a) < a.size
 ·
  simp only [if_pos h, if_true]
  have h1 := isLocal_ev (a.extract 0 (pos (by_ a))) (by simp; omega)
  have hsz : (a.extract 0 (pos (by_ a))).size = pos (by_ a) := by simp; omega
  rw [by_extract _ _ _ (by omega), List.drop_zero, Nat.sub_zero, hsz] at h1
  have hx : (a.extract (pos (by_ a) + 1) a.size).size = a.size - (pos (by_ a) + 1) := by simp
  have h2 := IsDomain_val (a.extract (pos (by_ a) + 1) a.size)
  rw [by_extract _ _ _ (Nat.le_refl _), hx, List.take_of_length_le (by rw [List.length_drop, by_len]; omega)] at h2
  refine (Ev.bind h1 (v := adr (by_ a)) ?_)
  unfold adr
  rw [by_len, decide_eq_true h]
  by_cases h3 : (((by_ a).take (pos (by_ a))).all okl && lenOk (pos (by_ a))) = true
  ·
   refine Ev.const fun k => ?_
   rw [if_pos h3, h2, h3]
   simp only [Option.bind_some, Bool.true_and, Bool.and_true]
   congr 1
   by_cases h4 : dz true ((by_ a).drop (pos (by_ a) + 1)) = true
   ·
    have := dz_nil h4
    rw [List.length_drop, by_len] at this
    rw [h4, Bool.true_and, Bool.true_and]
    unfold lenOk
    rw [Bool.eq_iff_iff]; simp; omega
   ·
    have h4' : dz true ((by_ a).drop (pos (by_ a) + 1)) = false := by simpa using h4
    rw [h4']; rfl
  ·
   refine Ev.const fun k => ?_
   rw [if_neg h3]
   have h3' : (((by_ a).take (pos (by_ a))).all okl && lenOk (pos (by_ a))) = false := by simpa using h3
   rw [h3']; rfl
 ·
  simp only [if_neg h]
  refine Ev.const fun k => ?_
  unfold adr
  rw [by_len, decide_eq_false h]
  simp

theorem Ev.of_mono {β : Type} {f : Nat → Option β} {v : β} {K : Nat} (h : f K = some v) (hm : ∀ k, LeO (f k) (f (k + 1))) : Ev f v := by
 refine ⟨K, fun k hk => ?_⟩
 obtain ⟨d, rfl⟩ : ∃ d, k = K + d := ⟨k - K, by omega⟩
 clear hk
 induction d with
 | zero => exact h
 | succ d ih => exact hm (K + d) _ ih
theorem envelopes_ev : Ev (fun k => posthouselaw3_envelopes.f k) true := Ev.of_mono (K := 60) (by decide +kernel) posthouselaw3_envelopes.mono

theorem tl_iff {a b : ByteArray} : a.toList = b.toList ↔ a = b := by
 constructor
 ·
  intro h
  rw [ByteArray.toList_eq, ByteArray.toList_eq] at h
  exact Go.WideShapes.bytes_inj h
 ·
  rintro rfl; rfl
/-- All conditions of an address in a list. -/
def orAll (n : Int) (a : ByteArray) : List S48 → Int
 | [] => n
 | r :: l => orAll (if r.f0 = a then Go.bits .or .i64 n r.f1 else n) a l
def hasA (out : List S48) (a : ByteArray) : Bool := out.any fun x => decide (x.f0 = a)
/-- As the reference unites. -/
def uni (out : List S48) : List S48 → List S48
 | [] => out
 | r :: l => if hasA out r.f0 = true then uni out l else uni (out ++ [⟨r.f0, orAll r.f1 r.f0 l⟩]) l
def upd (l : List S48) (out : List S48) : List S48 := out.map fun x => ⟨x.f0, orAll x.f1 x.f0 l⟩
theorem idx_has (out : List S48) (a : ByteArray) : UniteX.idx out a < out.length ↔ hasA out a = true := by
 unfold UniteX.idx hasA
 rw [List.findIdx_lt_length, List.any_eq_true]
theorem upd_has (l out : List S48) (a : ByteArray) : hasA (upd l out) a = hasA out a := by
 unfold hasA upd
 rw [List.any_map]
 rfl
theorem upd_nil (out : List S48) : upd [] out = out := by
 unfold upd
 have : (fun x : S48 => (⟨x.f0, orAll x.f1 x.f0 []⟩ : S48)) = id := rfl
 rw [this, List.map_id]
def dist (out : List S48) : Prop := (out.map S48.f0).Nodup
theorem step_dist {out : List S48} {r : S48} (h : dist out) : dist (UniteX.step out r) := by
 unfold UniteX.step
 split
 ·
  rename_i hk
  unfold dist at h ⊢
  rw [List.map_set]
  have : (out.map S48.f0).set (UniteX.idx out r.f0) r.f0 = out.map S48.f0 := by
   refine List.ext_getElem (by simp) fun i h1 h2 => ?_
   rw [List.getElem_set]
   split
   ·
    rename_i e
    subst e
    have := UniteX.rd_idx hk
    rw [UniteX.rd_get hk] at this
    rw [List.getElem_map, this]
   ·
    rfl
  rw [this]
  exact h
 ·
  rename_i hk
  unfold dist at h ⊢
  rw [List.map_append, List.nodup_append]
  refine ⟨h, by simp, ?_⟩
  intro a ha b hb e
  simp at hb
  subst hb e
  apply hk
  rw [idx_has]
  unfold hasA
  rw [List.any_eq_true]
  obtain ⟨x, hx, he⟩ := List.mem_map.1 ha
  exact ⟨x, hx, decide_eq_true he⟩
theorem upd_step {out : List S48} {r : S48} (l : List S48) (hd : dist out) : upd l (UniteX.step out r) = if hasA out r.f0 = true then upd (r :: l) out else upd (r :: l) out ++ [⟨r.f0, orAll r.f1 r.f0 l⟩] := by
 unfold UniteX.step
 by_cases hk : UniteX.idx out r.f0 < out.length
 ·
  rw [if_pos hk, if_pos ((idx_has _ _).1 hk)]
  unfold upd
  refine List.ext_getElem (by simp) fun i h1 h2 => ?_
  rw [List.getElem_map, List.getElem_map, List.getElem_set]
  have hget := UniteX.rd_idx hk
  rw [UniteX.rd_get hk] at hget
  split
  ·
   rename_i e
   subst e
   rw [UniteX.rd_get hk]
   simp only [orAll, hget, if_true]
  ·
   rename_i e
   have hne : (out[i]'(by simpa using h2)).f0 ≠ r.f0 := by
    intro he
    unfold dist at hd
    have h3 : (out.map S48.f0)[i]'(by simpa using h2) = (out.map S48.f0)[UniteX.idx out r.f0]'(by simpa using hk) := by
     rw [List.getElem_map, List.getElem_map, hget, he]
    exact e ((List.getElem_inj hd).1 h3).symm
   have hne' : ¬ r.f0 = (out[i]'(by simpa using h2)).f0 := fun he => hne he.symm
   simp only [orAll, if_neg hne']
 ·
  rw [if_neg hk, if_neg (fun h => hk ((idx_has _ _).2 h))]
  unfold upd
  rw [List.map_append]
  congr 1
  refine List.map_congr_left fun x hx => ?_
  have : ¬ r.f0 = x.f0 := fun he => hk ((idx_has _ _).2 (by unfold hasA; rw [List.any_eq_true]; exact ⟨x, hx, decide_eq_true he.symm⟩))
  simp only [orAll, if_neg this]
theorem go_uni : ∀ (l out : List S48), dist out → UniteX.go out l = uni (upd l out) l
 | [], out, _ => by rw [upd_nil]; rfl
 | r :: l, out, h => by
  unfold UniteX.go uni
  rw [go_uni l _ (step_dist h), upd_step l h, upd_has]
  split <;> rfl
theorem go_uni0 (l : List S48) : UniteX.go [] l = uni [] l := go_uni l [] (by simp [dist])

def in7 (n : Int) : Prop := 0 ≤ n ∧ n ≤ 7
theorem known_loop (out : List S48) (a : ByteArray) (hl : out.length ≤ 5864062014805) : ∀ d i, i + d = out.length → ∃ v : Int, Ev (fun k => posthouseref3_Known.l0 k out a (i : Int)) v ∧ (0 ≤ v ↔ hasA (out.drop i) a = true)
 | 0, i, h => by
  refine ⟨-1, Ev.succ (Ev.const fun k => ?_), ?_⟩
  ·
   unfold posthouseref3_Known.l0
   rw [if_neg (by omega)]
  ·
   rw [List.drop_eq_nil_of_le (by omega)]
   simp [hasA]
 | d + 1, i, h => by
  obtain ⟨v, h1, h2⟩ := known_loop out a hl d (i + 1) (by omega)
  have hi : i < out.length := by omega
  have hw : wrap64 ((i : Int) + 1) = ((i + 1 : Nat) : Int) := by rw [w64 _ (by omega)]; omega
  rw [List.drop_eq_getElem_cons hi]
  by_cases e : (out[i]).f0 = a
  ·
   refine ⟨i, Ev.succ (Ev.const fun k => ?_), ?_⟩
   ·
    unfold posthouseref3_Known.l0
    rw [if_pos (by omega), if_pos (by omega), UniteX.rd_get hi, if_pos (tl_iff.2 e)]
   ·
    unfold hasA
    rw [List.any_cons, decide_eq_true e, Bool.true_or]
    exact ⟨fun _ => rfl, fun _ => by omega⟩
  ·
   refine ⟨v, Ev.succ ?_, ?_⟩
   ·
    unfold posthouseref3_Known.l0
    refine h1.congr fun k => ?_
    rw [if_pos (by omega), if_pos (by omega), UniteX.rd_get hi, if_neg (fun h => e (tl_iff.1 h)), hw]
   ·
    rw [h2]
    unfold hasA
    rw [List.any_cons, decide_eq_false e, Bool.false_or]
theorem Known_ev (out : List S48) (a : ByteArray) (hl : out.length ≤ 5864062014805) : ∃ v : Int, Ev (fun k => posthouseref3_Known.f k out a) v ∧ (0 ≤ v ↔ hasA out a = true) := by
 have := known_loop out a hl out.length 0 (by omega)
 simpa [posthouseref3_Known.f] using this
theorem same_loop (l : List S48) (hl : l.length ≤ 5864062014805) : ∀ d i, i + d = l.length → Ev (fun k => posthouseref3_SameRecipients.l0 k l l (i : Int)) true
 | 0, i, h => by
  refine Ev.succ (Ev.const fun k => ?_)
  unfold posthouseref3_SameRecipients.l0
  rw [if_neg (by omega)]
 | d + 1, i, h => by
  have hw : wrap64 ((i : Int) + 1) = ((i + 1 : Nat) : Int) := by rw [w64 _ (by omega)]; omega
  refine Ev.succ ?_
  unfold posthouseref3_SameRecipients.l0
  refine (same_loop l hl d (i + 1) (by omega)).congr fun k => ?_
  rw [if_pos (by omega), if_pos (by omega), if_pos (by omega), hw]
  simp
theorem Same_ev (l : List S48) (hl : l.length ≤ 5864062014805) : Ev (fun k => posthouseref3_SameRecipients.f k l l) true := by
 have := same_loop l hl l.length 0 (by omega)
 simpa [posthouseref3_SameRecipients.f] using this

def okn (n : Nat) : Bool := isLet n || isDig n || n == 45 || n == 95 || n == 46
def nam (L : List Nat) : Bool := L.all okn && lenOk L.length
theorem bt_nat (a : ByteArray) (i : Nat) (h : i < (by_ a).length) : bt a i = ((by_ a)[i] : Nat) := bt_by a i (by rwa [by_len] at h)
theorem nameOk_loop (a : ByteArray) (hs : a.size ≤ 140737488351232) : ∀ d i, i + d = a.size → Ev (fun k => posthouseref3_NameOk.l0 k a (i : Int)) (((by_ a).drop i).all okn && lenOk a.size)
 | 0, i, h => by
  refine Ev.succ (Ev.const fun k => ?_)
  unfold posthouseref3_NameOk.l0
  rw [if_neg (by omega), In_val, List.drop_eq_nil_of_le (by rw [by_len]; omega)]
  unfold lenOk
  simp only [Option.bind_some, List.all_nil, Bool.true_and]
  congr 1
  rw [Bool.eq_iff_iff]; simp; omega
 | d + 1, i, h => by
  have ih := nameOk_loop a hs d (i + 1) (by omega)
  have hi : i < (by_ a).length := by rw [by_len]; omega
  have h2 : wrap64 ((i : Int) + 1) = ((i + 1 : Nat) : Int) := by rw [w64 _ (by omega)]; omega
  have hlt := by_lt a _ (List.getElem_mem hi)
  refine Ev.succ ?_
  unfold posthouseref3_NameOk.l0
  simp only [if_pos (show (i : Int) < (a.size : Int) by omega), if_pos (show (0 : Int) ≤ (i : Int) by omega), bt_nat a i hi, lod_val _ hlt, Option.bind_some, h2]
  rw [List.drop_eq_getElem_cons hi, List.all_cons]
  generalize (by_ a)[i] = n at hlt ⊢
  by_cases h0 : okn n = true
  ·
   rw [h0, Bool.true_and]
   refine ih.congr fun k => ?_
   by_cases h1 : (isLet n || isDig n) = true
   ·
    rw [if_pos h1]
   ·
    rw [if_neg h1]
    have h3 : n = 45 ∨ n = 95 ∨ n = 46 := by
     unfold okn at h0
     have h1' : (isLet n || isDig n) = false := by simpa using h1
     rw [h1'] at h0
     simpa [or_assoc] using h0
    rcases h3 with rfl | rfl | rfl <;> simp
  ·
   have h1 : ¬ (isLet n || isDig n) = true := fun h1 => h0 (by unfold okn; rw [h1]; rfl)
   have h3 : n ≠ 45 ∧ n ≠ 95 ∧ n ≠ 46 := by
    refine ⟨?_, ?_, ?_⟩ <;> (rintro rfl; exact h0 (by decide))
   have h0' : okn n = false := by simpa using h0
   rw [h0', Bool.false_and]
   refine Ev.const fun k => ?_
   rw [if_neg h1, if_neg (by omega), if_neg (by omega), if_neg (by omega)]
   simp
theorem NameOk_ev (a : ByteArray) (hs : a.size ≤ 140737488351232) : Ev (fun k => posthouseref3_NameOk.f k a) (nam (by_ a)) := by
 have := nameOk_loop a hs a.size 0 (by omega)
 unfold nam
 rw [by_len]
 simpa [posthouseref3_NameOk.f] using this
theorem isName_loop (a : ByteArray) (hs : a.size ≤ 140737488351232) : ∀ d i, i + d = a.size → Ev (fun k => envelope_IsName.l0 k a (a.size : Int) (i : Int)) (((by_ a).drop i).all okn && lenOk a.size)
 | 0, i, h => by
  refine Ev.succ (Ev.const fun k => ?_)
  unfold envelope_IsName.l0
  rw [if_neg (by omega), List.drop_eq_nil_of_le (by rw [by_len]; omega)]
  unfold lenOk
  split
  all_goals (congr 1; rw [Bool.eq_iff_iff]; simp; omega)
 | d + 1, i, h => by
  have ih := isName_loop a hs d (i + 1) (by omega)
  have hi : i < (by_ a).length := by rw [by_len]; omega
  have h2 : wrap64 ((i : Int) + 1) = ((i + 1 : Nat) : Int) := by rw [w64 _ (by omega)]; omega
  have hlt := by_lt a _ (List.getElem_mem hi)
  refine Ev.succ ?_
  unfold envelope_IsName.l0
  simp only [if_pos (show (i : Int) < (a.size : Int) by omega), if_pos (show (0 : Int) ≤ (i : Int) by omega), bt_nat a i hi, letter_val, digit_val, Option.bind_some, h2]
  rw [List.drop_eq_getElem_cons hi, List.all_cons]
  generalize (by_ a)[i] = n at hlt ⊢
  by_cases h0 : okn n = true
  ·
   rw [h0, Bool.true_and]
   refine ih.congr fun k => ?_
   by_cases h1 : isLet n = true
   ·
    rw [if_pos h1]
   ·
    rw [if_neg h1]
    by_cases h4 : isDig n = true
    ·
     rw [if_pos h4]
    ·
     rw [if_neg h4]
     have h3 : n = 45 ∨ n = 95 ∨ n = 46 := by
      unfold okn at h0
      have h1' : isLet n = false := by simpa using h1
      have h4' : isDig n = false := by simpa using h4
      rw [h1', h4'] at h0
      simpa [or_assoc] using h0
     rcases h3 with rfl | rfl | rfl <;> simp
  ·
   have h1 : ¬ isLet n = true := fun h1 => h0 (by unfold okn; rw [h1]; rfl)
   have h4 : ¬ isDig n = true := fun h1 => h0 (by unfold okn; rw [h1]; simp)
   have h3 : n ≠ 45 ∧ n ≠ 95 ∧ n ≠ 46 := by
    refine ⟨?_, ?_, ?_⟩ <;> (rintro rfl; exact h0 (by decide))
   have h0' : okn n = false := by simpa using h0
   rw [h0', Bool.false_and]
   refine Ev.const fun k => ?_
   rw [if_neg h1, if_neg h4, if_neg (by omega), if_neg (by omega), if_neg (by omega)]
   rfl
theorem IsName_ev (a : ByteArray) (hs : a.size ≤ 140737488351232) : Ev (fun k => envelope_IsName.f k a) (nam (by_ a)) := by
 have := isName_loop a hs a.size 0 (by omega)
 unfold nam
 rw [by_len]
 simpa [envelope_IsName.f] using this
/-- The first fault of the recipients of an envelope. -/
def rflt (l : List S48) : Nat → Nat → Int × Int
 | 0, _ => (0, 0)
 | d + 1, i => if adr (by_ (rd_T48 l i).f0) = true then (if 0 ≤ (rd_T48 l i).f1 ∧ (rd_T48 l i).f1 ≤ 7 then (if hasA (l.take i) (rd_T48 l i).f0 = true then (7, (i : Int)) else rflt l d (i + 1)) else (3, (i : Int))) else (10, (i : Int))
theorem recipients_loop (l : List S48) (hs : ∀ x ∈ l, x.f0.size ≤ 140737488351232) : ∀ d i, i + d = l.length → Ev (fun k => RecipientsX.go k l d i) (rflt l d i)
 | 0, i, h => Ev.some_ _
 | d + 1, i, h => by
  have hi : i < l.length := by omega
  have ih := recipients_loop l hs d (i + 1) (by omega)
  unfold RecipientsX.go rflt
  have hsz := hs _ (List.getElem_mem hi)
  rw [← UniteX.rd_get hi] at hsz
  generalize rd_T48 l i = r at hsz ⊢
  simp only [if_pos hsz]
  refine Ev.bind (IsAddress_ev _ hsz) ?_
  by_cases e : adr (by_ r.f0) = true
  ·
   simp only [e, if_true, Bool.true_eq_false, if_false]
   by_cases e2 : 0 ≤ r.f1 ∧ r.f1 ≤ 7
   ·
    simp only [if_pos e2, if_neg (show ¬ (r.f1 < 0 ∨ r.f1 > 7) by omega)]
    by_cases e3 : hasA (l.take i) r.f0 = true
    ·
     rw [if_pos e3]
     refine Ev.const fun k => ?_
     unfold hasA at e3
     rw [if_pos e3]
    ·
     rw [if_neg e3]
     refine ih.congr fun k => ?_
     unfold hasA at e3
     rw [if_neg e3]
   ·
    rw [if_neg e2]
    refine Ev.const fun k => ?_
    rw [if_pos (by omega)]
  ·
   have e' : adr (by_ r.f0) = false := by simpa using e
   rw [if_neg e]
   refine Ev.const fun k => ?_
   rw [if_pos e']
/-- The fault of an envelope. -/
def efl (a : ByteArray) (l : List S48) (c : ByteArray) : Int × Int :=
 if ¬ a.toList = [] ∧ adr (by_ a) = false then (10, -10) else if ¬ (1 ≤ l.length ∧ l.length ≤ 60) then (2, -11) else if ¬ c.toList = [] ∧ nam (by_ c) = false then (10, -12) else rflt l l.length 0
theorem Validate_ev (a : ByteArray) (l : List S48) (c : ByteArray) (ha : a.size ≤ 140737488351232) (hs : ∀ x ∈ l, x.f0.size ≤ 140737488351232) (hc : c.size ≤ 140737488351232) : Ev (fun k => envelope_Validate.f k a l c) (efl a l c) := by
 have h1 : Ev (fun k => envelope_Validate.j1 k false a l c) (if ¬ c.toList = [] ∧ nam (by_ c) = false then (10, -12) else rflt l l.length 0) := by
  have hr : Ev (fun k => envelope_recipients.f k l) (rflt l l.length 0) := recipients_loop l hs l.length 0 (by omega)
  refine Ev.succ ?_
  unfold envelope_Validate.j1
  simp only [Bool.false_eq_true, if_false]
  by_cases e : c.toList = []
  ·
   simp only [if_pos e]
   rw [if_neg (fun h => h.1 e)]
   exact Ev.bind hr (Ev.some_ _)
  ·
   simp only [if_neg e]
   refine Ev.bind (IsName_ev c hc) ?_
   by_cases e2 : nam (by_ c) = true
   ·
    rw [if_neg (fun h => by rw [e2] at h; cases h.2)]
    simp only [if_pos e2]
    exact Ev.bind hr (Ev.some_ _)
   ·
    rw [if_pos ⟨e, by simpa using e2⟩]
    refine Ev.const fun k => ?_
    rw [if_neg e2]
 have h1t : Ev (fun k => envelope_Validate.j1 k true a l c) (2, -11) := by
  refine Ev.succ (Ev.const fun k => ?_)
  unfold envelope_Validate.j1
  rfl
 have h0 : Ev (fun k => envelope_Validate.j0 k false a l c) (if ¬ (1 ≤ l.length ∧ l.length ≤ 60) then (2, -11) else if ¬ c.toList = [] ∧ nam (by_ c) = false then (10, -12) else rflt l l.length 0) := by
  refine Ev.succ ?_
  unfold envelope_Validate.j0
  simp only [Bool.false_eq_true, if_false]
  by_cases e : (l.length : Int) < 1
  ·
   rw [if_pos (by omega)]
   refine h1t.congr fun k => ?_
   rw [if_pos e]
  ·
   by_cases e2 : l.length ≤ 60
   ·
    rw [if_neg (by omega)]
    refine h1.congr fun k => ?_
    rw [if_neg e, decide_eq_false (by omega)]
   ·
    rw [if_pos (by omega)]
    refine h1t.congr fun k => ?_
    rw [if_neg e, decide_eq_true (by omega)]
 have h0t : Ev (fun k => envelope_Validate.j0 k true a l c) (10, -10) := by
  refine Ev.succ (Ev.const fun k => ?_)
  unfold envelope_Validate.j0
  rfl
 unfold envelope_Validate.f efl
 by_cases e : a.toList = []
 ·
  rw [if_neg (fun h => h.1 e)]
  simp only [if_pos e]
  exact h0
 ·
  simp only [if_neg e]
  refine Ev.bind (IsAddress_ev a ha) ?_
  by_cases e2 : adr (by_ a) = true
  ·
   rw [if_neg (fun h => by rw [e2] at h; cases h.2), e2]
   exact h0
  ·
   have e2' : adr (by_ a) = false := by simpa using e2
   rw [if_pos ⟨e, e2'⟩, e2']
   exact h0t
theorem rlt_len {l : List S48} {i : Nat} : (l.take i).length ≤ l.length := by rw [List.length_take]; omega
theorem fault_loop (a c : ByteArray) (l : List S48) (hl : l.length ≤ 60) (hs : ∀ x ∈ l, x.f0.size ≤ 140737488351232) : ∀ d i, i + d = l.length → Ev (fun k => posthouseref3_EnvelopeFault.l0 k (i : Int) a l c) (rflt l d i)
 | 0, i, h => by
  refine Ev.succ (Ev.const fun k => ?_)
  unfold posthouseref3_EnvelopeFault.l0
  rw [if_neg (by omega)]
  rfl
 | d + 1, i, h => by
  have hi : i < l.length := by omega
  have ih := fault_loop a c l hl hs d (i + 1) (by omega)
  have hw : wrap64 ((i : Int) + 1) = ((i + 1 : Nat) : Int) := by rw [w64 _ (by omega)]; omega
  refine Ev.succ ?_
  unfold posthouseref3_EnvelopeFault.l0 rflt
  have hsz := hs _ (List.getElem_mem hi)
  rw [← UniteX.rd_get hi] at hsz
  generalize rd_T48 l i = r at hsz ⊢
  simp only [if_pos (show (i : Int) < (l.length : Int) by omega), if_pos (show (0 : Int) ≤ (i : Int) by omega), if_pos (show (i : Int) ≤ (l.length : Int) by omega), hw, In_val, posthouseref3_At.f, Option.bind_some, Int.toNat_natCast]
  refine Ev.bind (AddressOk_ev _ hsz) ?_
  by_cases e : adr (by_ r.f0) = true
  ·
   simp only [if_pos e]
   by_cases e2 : 0 ≤ r.f1 ∧ r.f1 ≤ 7
   ·
    simp only [if_pos e2, decide_eq_true e2, if_true]
    obtain ⟨v, hv, hv2⟩ := Known_ev (l.take i) r.f0 (by rw [List.length_take]; omega)
    refine Ev.bind hv ?_
    by_cases e3 : hasA (l.take i) r.f0 = true
    ·
     rw [if_pos e3]
     refine Ev.const fun k => ?_
     rw [if_pos (hv2.2 e3)]
    ·
     rw [if_neg e3]
     refine ih.congr fun k => ?_
     rw [if_neg (fun h => e3 (hv2.1 h))]
   ·
    simp only [if_neg e2, decide_eq_false e2, Bool.false_eq_true, if_false]
    exact Ev.some_ _
  ·
   simp only [if_neg e]
   exact Ev.some_ _
theorem EnvelopeFault_ev (a : ByteArray) (l : List S48) (c : ByteArray) (ha : a.size ≤ 140737488351232) (hs : ∀ x ∈ l, x.f0.size ≤ 140737488351232) (hc : c.size ≤ 140737488351232) : Ev (fun k => posthouseref3_EnvelopeFault.f k a l c) (efl a l c) := by
 have h1 : l.length ≤ 60 → Ev (fun k => posthouseref3_EnvelopeFault.j1 k false a l c) (rflt l l.length 0) := fun hl => by
  refine Ev.succ ?_
  unfold posthouseref3_EnvelopeFault.j1
  simp only [Bool.false_eq_true, if_false]
  exact fault_loop a c l hl hs l.length 0 (by omega)
 have h1t : Ev (fun k => posthouseref3_EnvelopeFault.j1 k true a l c) (10, -12) := by
  refine Ev.succ (Ev.const fun k => ?_)
  unfold posthouseref3_EnvelopeFault.j1
  rfl
 have h0 : Ev (fun k => posthouseref3_EnvelopeFault.j0 k false a l c) (if ¬ (1 ≤ l.length ∧ l.length ≤ 60) then (2, -11) else if ¬ c.toList = [] ∧ nam (by_ c) = false then (10, -12) else rflt l l.length 0) := by
  refine Ev.succ ?_
  unfold posthouseref3_EnvelopeFault.j0
  simp only [Bool.false_eq_true, if_false, In_val, Option.bind_some, posthouseref3_At.f]
  by_cases e : 1 ≤ l.length ∧ l.length ≤ 60
  ·
   rw [if_neg (fun h => h e)]
   have h1 := h1 e.2
   simp only [if_pos (show decide ((1 : Int) ≤ (l.length : Int) ∧ (l.length : Int) ≤ 60) = true by rw [decide_eq_true_iff]; omega)]
   by_cases e : c.toList = []
   ·
    simp only [if_pos e]
    rw [if_neg (fun h => h.1 e)]
    exact h1
   ·
    simp only [if_neg e]
    refine Ev.bind (NameOk_ev c hc) ?_
    by_cases e2 : nam (by_ c) = true
    ·
     rw [if_neg (fun h => by rw [e2] at h; cases h.2), e2]
     exact h1
    ·
     have e2' : nam (by_ c) = false := by simpa using e2
     rw [if_pos ⟨e, e2'⟩, e2']
     exact h1t
  ·
   rw [if_pos e]
   refine Ev.const fun k => ?_
   rw [if_neg (by rw [decide_eq_true_iff]; omega)]
 have h0t : Ev (fun k => posthouseref3_EnvelopeFault.j0 k true a l c) (10, -10) := by
  refine Ev.succ (Ev.const fun k => ?_)
  unfold posthouseref3_EnvelopeFault.j0
  rfl
 unfold posthouseref3_EnvelopeFault.f efl
 by_cases e : a.toList = []
 ·
  rw [if_neg (fun h => h.1 e)]
  simp only [if_pos e]
  exact h0
 ·
  simp only [if_neg e]
  refine Ev.bind (AddressOk_ev a ha) ?_
  by_cases e2 : adr (by_ a) = true
  ·
   rw [if_neg (fun h => by rw [e2] at h; cases h.2), e2]
   exact h0
  ·
   have e2' : adr (by_ a) = false := by simpa using e2
   rw [if_pos ⟨e, e2'⟩, e2']
   exact h0t
theorem rflt_code (l : List S48) : ∀ d i, (rflt l d i).1 = 0 → rflt l d i = (0, 0) ∧ ∀ j, i ≤ j → j < i + d → adr (by_ (rd_T48 l j).f0) = true ∧ in7 (rd_T48 l j).f1 ∧ hasA (l.take j) (rd_T48 l j).f0 = false
 | 0, i, _ => ⟨rfl, fun j h1 h2 => by omega⟩
 | d + 1, i, h => by
  unfold rflt at h ⊢
  split at h
  ·
   rename_i e1
   split at h
   ·
    rename_i e2
    split at h
    ·
     cases h
    ·
     rename_i e3
     obtain ⟨h1, h2⟩ := rflt_code l d (i + 1) h
     rw [if_pos e1, if_pos e2, if_neg e3]
     refine ⟨h1, fun j hj1 hj2 => ?_⟩
     by_cases ej : j = i
     ·
      subst ej
      exact ⟨e1, e2, by simpa using e3⟩
     ·
      exact h2 j (by omega) (by omega)
   ·
    cases h
  ·
   cases h
theorem efl_code {a c : ByteArray} {l : List S48} (h : (efl a l c).1 = 0) : efl a l c = (0, 0) ∧ 1 ≤ l.length ∧ l.length ≤ 60 ∧ (∀ j, j < l.length → adr (by_ (rd_T48 l j).f0) = true ∧ in7 (rd_T48 l j).f1 ∧ hasA (l.take j) (rd_T48 l j).f0 = false) ∧ ¬ (¬ a.toList = [] ∧ adr (by_ a) = false) ∧ ¬ (¬ c.toList = [] ∧ nam (by_ c) = false) := by
 unfold efl at h ⊢
 split at h
 ·
  cases h
 ·
  rename_i h1
  split at h
  ·
   cases h
  ·
   rename_i h2
   split at h
   ·
    cases h
   ·
    rename_i h3
    obtain ⟨h4, h5⟩ := rflt_code l _ _ h
    rw [if_neg h1, if_neg h2, if_neg h3]
    exact ⟨h4, by omega, by omega, fun j hj => h5 j (by omega) (by omega), h1, h3⟩

def blk (n : Nat) : Bool := n == 32 || n == 9
theorem isBlank_val (n : Nat) : fold_isBlank.f (n : Int) = some (blk n) := by
 unfold fold_isBlank.f blk
 split
 all_goals (congr 1; rw [Bool.eq_iff_iff]; simp; try omega)
theorem blank_val (n : Nat) : posthouseref3_blank.f (n : Int) = some (blk n) := by
 unfold posthouseref3_blank.f blk
 split
 all_goals (congr 1; rw [Bool.eq_iff_iff]; simp; try omega)
def at_ (L : List Nat) (i : Nat) : Nat := L.getD i 0
theorem bt_at (a : ByteArray) (i : Nat) (h : i < a.size) : bt a i = (at_ (by_ a) i : Nat) := by
 rw [bt_by a i h]
 unfold at_
 rw [List.getD_eq_getElem?_getD, List.getElem?_eq_getElem (by rw [by_len]; exact h)]
 rfl
/-- A line may end here. -/
def cd (L : List Nat) (i : Nat) : Bool := blk (at_ L i) && !blk (at_ L (i - 1))
def fw (L : List Nat) : Nat → Nat → Nat → Nat
 | 0, _, best => best
 | d + 1, i, best => if cd L i = true then (if i ≤ 78 then fw L d (i + 1) i else if best = L.length then i else best) else fw L d (i + 1) best
theorem cut_loop (a : ByteArray) (hs : a.size ≤ 281474976710656) : ∀ d i best, i + d = a.size → 1 ≤ i → Ev (fun k => fold_cut.l0 k a ((best : Nat) : Int) (i : Int)) ((fw (by_ a) d i best : Nat) : Int)
 | 0, i, best, h, _ => by
  refine Ev.succ (Ev.const fun k => ?_)
  unfold fold_cut.l0 fw
  rw [if_neg (by omega)]
 | d + 1, i, best, h, h1 => by
  have hw : wrap64 ((i : Int) + 1) = ((i + 1 : Nat) : Int) := by rw [w64 _ (by omega)]; omega
  have hp : wrap64 ((i : Int) - 1) = ((i - 1 : Nat) : Int) := by rw [w64 _ (by omega)]; omega
  have skip : Ev (fun k => fold_cut.j1 k a ((best : Nat) : Int) (i : Int) true) ((fw (by_ a) d (i + 1) best : Nat) : Int) := by
   refine Ev.succ ?_
   unfold fold_cut.j1
   simp only [if_true, hw]
   exact cut_loop a hs d (i + 1) best (by omega) (by omega)
  refine Ev.succ ?_
  unfold fold_cut.l0 fw cd
  simp only [if_pos (show (i : Int) < (a.size : Int) by omega), if_pos (show (0 : Int) ≤ (i : Int) by omega), bt_at a i (by omega), isBlank_val, Option.bind_some, hp, if_pos (show (0 : Int) ≤ ((i - 1 : Nat) : Int) by omega), if_pos (show ((i - 1 : Nat) : Int) < (a.size : Int) by omega), bt_at a (i - 1) (by omega)]
  by_cases e1 : blk (at_ (by_ a) i) = true
  ·
   simp only [e1, if_true, Bool.true_and]
   by_cases e2 : blk (at_ (by_ a) (i - 1)) = true
   ·
    simp only [e2, Bool.not_true, Bool.false_eq_true, if_false]
    exact skip
   ·
    have e2' : blk (at_ (by_ a) (i - 1)) = false := by simpa using e2
    simp only [e2', Bool.not_false, if_true]
    refine Ev.succ ?_
    unfold fold_cut.j1
    simp only [Bool.false_eq_true, if_false]
    by_cases e3 : i ≤ 78
    ·
     simp only [if_pos e3, if_pos (show (i : Int) ≤ 78 by omega)]
     refine Ev.succ ?_
     unfold fold_cut.j2
     simp only [if_true, if_neg (show ¬ (i : Int) > 78 by omega), hw]
     exact cut_loop a hs d (i + 1) i (by omega) (by omega)
    ·
     simp only [if_neg e3, if_neg (show ¬ (i : Int) ≤ 78 by omega)]
     refine Ev.succ (Ev.const fun k => ?_)
     unfold fold_cut.j2
     simp only [if_pos (show (i : Int) > 78 by omega)]
     by_cases e4 : best = (by_ a).length
     ·
      rw [if_pos e4, if_pos (by rw [e4, by_len]; simp)]
     ·
      rw [if_neg e4, if_neg (by rw [beq_iff_eq]; rw [by_len] at e4; omega)]
  ·
   have e1' : blk (at_ (by_ a) i) = false := by simpa using e1
   simp only [e1', Bool.false_eq_true, if_false, Bool.false_and]
   exact skip
/-- Where the first line of a text ends. -/
def cutN (L : List Nat) (fr : Nat) : Nat := if L.length ≤ 78 then L.length else fw L (L.length - fr) fr L.length
theorem cut_ev (a : ByteArray) (fr : Nat) (hs : a.size ≤ 281474976710656) (h1 : 1 ≤ fr) (h2 : fr ≤ 78) : Ev (fun k => fold_cut.f k a (fr : Int)) ((cutN (by_ a) fr : Nat) : Int) := by
 unfold fold_cut.f cutN
 rw [by_len]
 by_cases h : a.size ≤ 78
 ·
  refine Ev.const fun k => ?_
  rw [if_pos (by omega), if_pos h]
 ·
  rw [if_neg h]
  refine (cut_loop a hs (a.size - fr) fr a.size (by omega) h1).congr fun k => ?_
  rw [if_neg (by omega)]
theorem fw_bound (L : List Nat) : ∀ d i best, i + d = L.length → 1 ≤ i → 1 ≤ best → best ≤ L.length → 1 ≤ fw L d i best ∧ fw L d i best ≤ L.length
 | 0, _, _, _, _, h1, h2 => ⟨h1, h2⟩
 | d + 1, i, best, h, h0, h1, h2 => by
  unfold fw
  split
  ·
   split
   ·
    exact fw_bound L d (i + 1) i (by omega) (by omega) h0 (by omega)
   ·
    split
    ·
     exact ⟨h0, by omega⟩
    ·
     exact ⟨h1, h2⟩
  ·
   exact fw_bound L d (i + 1) best (by omega) (by omega) h1 h2
theorem cutN_bound (L : List Nat) (fr : Nat) (h : 1 ≤ L.length) (h1 : 1 ≤ fr) (h2 : fr ≤ 78) : 1 ≤ cutN L fr ∧ cutN L fr ≤ L.length := by
 unfold cutN
 split
 ·
  exact ⟨h, Nat.le_refl _⟩
 ·
  exact fw_bound L _ _ _ (by omega) h1 h (Nat.le_refl _)
/-- The lines of a field's text. -/
def lns : Nat → ByteArray → Nat → List ByteArray
 | 0, _, _ => []
 | n + 1, s, fr => if s.size = 0 then [] else s.extract 0 (cutN (by_ s) fr) :: lns n (s.extract (cutN (by_ s) fr) s.size) 1
theorem lns_len : ∀ n s fr, (lns n s fr).length ≤ n
 | 0, _, _ => Nat.le_refl _
 | n + 1, s, fr => by
  unfold lns
  split
  ·
   exact Nat.zero_le _
  ·
   have := lns_len n (s.extract (cutN (by_ s) fr) s.size) 1
   rw [List.length_cons]
   omega
theorem nil_iff (s : ByteArray) : s.toList = ([] : List UInt8) ↔ s.size = 0 := by
 rw [ByteArray.toList_eq]
 constructor
 ·
  intro h
  have : s.data.toList.length = 0 := by rw [h]; rfl
  simpa using this
 ·
  intro h
  exact List.eq_nil_of_length_eq_zero (by simpa using h)
theorem lines_loop : ∀ n (s : ByteArray) (fr : Nat) (out : List ByteArray), s.size ≤ n → n ≤ 140737488356352 → 1 ≤ fr → fr ≤ 78 → out.length + n ≤ 8796093022208 → Ev (fun k => fold_Lines.l0 k s out (fr : Int)) (out ++ lns n s fr)
 | 0, s, fr, out, h, _, h1, h2, h3 => by
  refine Ev.succ (Ev.const fun k => ?_)
  unfold fold_Lines.l0 lns
  rw [if_pos ((nil_iff s).2 (by omega)), List.append_nil]
 | n + 1, s, fr, out, h, hn, h1, h2, h3 => by
  refine Ev.succ ?_
  unfold fold_Lines.l0 lns
  by_cases e : s.size = 0
  ·
   rw [if_pos e, List.append_nil]
   refine Ev.const fun k => ?_
   rw [if_pos ((nil_iff s).2 e)]
  ·
   rw [if_neg e]
   obtain ⟨b1, b2⟩ := cutN_bound (by_ s) fr (by rw [by_len]; omega) h1 h2
   rw [by_len] at b2
   simp only [if_neg (fun h => e ((nil_iff s).1 h))]
   refine Ev.bind (cut_ev s fr (by omega) h1 h2) ?_
   simp only [if_pos (show (0 : Int) ≤ ((cutN (by_ s) fr : Nat) : Int) by omega), if_pos (show ((cutN (by_ s) fr : Nat) : Int) ≤ (s.size : Int) by omega), if_pos (show out.length < 8796093022208 by omega), Int.toNat_natCast]
   have := lines_loop n (s.extract (cutN (by_ s) fr) s.size) 1 (out ++ [s.extract 0 (cutN (by_ s) fr)]) (by simp; omega) (by omega) (Nat.le_refl _) (by omega) (by simp; omega)
   rw [List.append_assoc] at this
   exact this
/-! the reference's way -/
def dn (c : Nat → Bool) : Nat → Nat
 | 0 => 0
 | j + 1 => if c (j + 1) = true then j + 1 else dn c j
def ft (c : Nat → Bool) : Nat → Nat → Nat
 | 0, _ => 0
 | d + 1, i => if c i = true then i else ft c d (i + 1)
theorem dn_zero {c : Nat → Bool} : ∀ j, (∀ i, i ≤ j → c i = false) → dn c j = 0
 | 0, _ => rfl
 | j + 1, h => by
  unfold dn
  rw [h (j + 1) (Nat.le_refl _)]
  exact dn_zero j (fun i hi => h i (by omega))
def cfr (L : List Nat) (fr i : Nat) : Bool := decide (fr ≤ i) && cd L i
theorem dn_step (L : List Nat) (i : Nat) (hi : 1 ≤ i) : ∀ j, i ≤ j → dn (cfr L i) j = if dn (cfr L (i + 1)) j = 0 then (if cd L i = true then i else 0) else dn (cfr L (i + 1)) j
 | 0, h => by omega
 | j + 1, h => by
  by_cases e : i = j + 1
  ·
   subst e
   have z1 : dn (cfr L (j + 1 + 1)) (j + 1) = 0 := dn_zero _ (fun i hi => by unfold cfr; rw [decide_eq_false (by omega)]; rfl)
   have z2 : dn (cfr L (j + 1)) j = 0 := dn_zero _ (fun i hi => by unfold cfr; rw [decide_eq_false (by omega)]; rfl)
   rw [z1, if_pos rfl]
   unfold dn
   rw [z2]
   unfold cfr
   rw [decide_eq_true (Nat.le_refl _), Bool.true_and]
  ·
   have ih := dn_step L i hi j (by omega)
   have e1 : cfr L i (j + 1) = cd L (j + 1) := by unfold cfr; rw [decide_eq_true (by omega), Bool.true_and]
   have e2 : cfr L (i + 1) (j + 1) = cd L (j + 1) := by unfold cfr; rw [decide_eq_true (by omega), Bool.true_and]
   unfold dn
   rw [e1, e2]
   by_cases e3 : cd L (j + 1) = true
   ·
    rw [if_pos e3, if_pos e3, if_neg (by omega)]
   ·
    rw [if_neg e3, if_neg e3]
    exact ih
theorem fw_succ (L : List Nat) (d i best : Nat) : fw L (d + 1) i best = if cd L i = true then (if i ≤ 78 then fw L d (i + 1) i else if best = L.length then i else best) else fw L d (i + 1) best := rfl
theorem fw_up (L : List Nat) : ∀ d i best, 79 ≤ i → i + d = L.length → fw L d i best = if best = L.length then (if ft (cd L) d i = 0 then L.length else ft (cd L) d i) else best
 | 0, i, best, h, h2 => by
  unfold fw ft
  split <;> simp_all
 | d + 1, i, best, h, h2 => by
  have ih := fw_up L d (i + 1) best (by omega) (by omega)
  rw [fw_succ]
  unfold ft
  by_cases e : cd L i = true
  ·
   simp only [if_pos e, if_neg (show ¬ i ≤ 78 by omega), if_neg (show ¬ i = 0 by omega)]
  ·
   simp only [if_neg e]
   exact ih
theorem fw_lo (L : List Nat) (r : Nat) (hr : 79 + r = L.length) : ∀ e i best, 1 ≤ i → i + e = 79 → fw L (e + r) i best = fw L r 79 (if dn (cfr L i) 78 = 0 then best else dn (cfr L i) 78)
 | 0, i, best, h1, h => by
  have : dn (cfr L i) 78 = 0 := dn_zero _ (fun j hj => by unfold cfr; rw [decide_eq_false (by omega)]; rfl)
  rw [this, if_pos rfl, Nat.zero_add]
  obtain rfl : i = 79 := by omega
  rfl
 | e + 1, i, best, h1, h => by
  rw [show e + 1 + r = (e + r) + 1 by omega, fw_succ, dn_step L i h1 78 (by omega)]
  by_cases ec : cd L i = true
  ·
   rw [if_pos ec, if_pos (by omega), fw_lo L r hr e (i + 1) i (by omega) (by omega), if_pos ec]
   congr 1
   by_cases ez : dn (cfr L (i + 1)) 78 = 0
   ·
    simp only [if_pos ez, if_neg (show ¬ i = 0 by omega)]
   ·
    simp only [if_neg ez]
  ·
   rw [if_neg ec, fw_lo L r hr e (i + 1) best (by omega) (by omega), if_neg ec]
   congr 1
   by_cases ez : dn (cfr L (i + 1)) 78 = 0
   ·
    simp only [if_pos ez, if_true]
   ·
    simp only [if_neg ez]
theorem dn_le {c : Nat → Bool} : ∀ j, dn c j ≤ j
 | 0 => Nat.le_refl _
 | j + 1 => by
  unfold dn
  split
  ·
   exact Nat.le_refl _
  ·
   have := dn_le (c := c) j; omega
/-- The reference's cut; 0: none. -/
def cutR (L : List Nat) (fr : Nat) : Nat := if dn (cfr L fr) 78 = 0 then ft (cd L) (L.length - 79) 79 else dn (cfr L fr) 78
theorem cut_same (L : List Nat) (fr : Nat) (h : 78 < L.length) (h1 : 1 ≤ fr) (h2 : fr ≤ 78) : cutN L fr = if cutR L fr = 0 then L.length else cutR L fr := by
 unfold cutN cutR
 rw [if_neg (by omega), show L.length - fr = (79 - fr) + (L.length - 79) by omega, fw_lo L (L.length - 79) (by omega) (79 - fr) fr _ h1 (by omega), fw_up L _ 79 _ (Nat.le_refl _) (by omega)]
 have := dn_le (c := cfr L fr) 78
 by_cases e : dn (cfr L fr) 78 = 0
 ·
  rw [if_pos e, if_pos rfl, if_pos e]
 ·
  rw [if_neg e, if_neg (by omega), if_neg e, if_neg e]
section
variable (s : ByteArray) (fr : Nat) (out : List ByteArray) (v : List ByteArray)
theorem ref_found (m : Nat) (hm : m ≠ 0) (hv : ∀ x10 : Int, Ev (fun k => posthouseref3_FieldLines.j4 k s (fr : Int) out (m : Int) x10 false) v) (x9 : Int) : Ev (fun k => posthouseref3_FieldLines.l1 k s (fr : Int) out (m : Int) x9) v := by
 have h2 : ∀ x9 : Int, Ev (fun k => posthouseref3_FieldLines.j2 k s (fr : Int) out (m : Int) x9 false) v := fun x9 => by
  refine Ev.succ ?_
  unfold posthouseref3_FieldLines.j2
  simp only [Bool.false_eq_true, if_false]
  refine Ev.succ ?_
  unfold posthouseref3_FieldLines.l2
  have hb : (((m : Nat) : Int) == 0) = false := by rw [beq_eq_false_iff_ne]; omega
  simp only [hb]
  refine (hv 79).congr fun k => ?_
  split <;> rfl
 refine Ev.succ ?_
 unfold posthouseref3_FieldLines.l1
 have hb : (((m : Nat) : Int) == 0) = false := by rw [beq_eq_false_iff_ne]; omega
 simp only [hb]
 refine (h2 x9).congr fun k => ?_
 split <;> rfl
theorem ref_found2 (m : Nat) (hm : m ≠ 0) (hv : ∀ x10 : Int, Ev (fun k => posthouseref3_FieldLines.j4 k s (fr : Int) out (m : Int) x10 false) v) (x9 : Int) : Ev (fun k => posthouseref3_FieldLines.l2 k s (fr : Int) out (m : Int) x9) v := by
 refine Ev.succ ?_
 unfold posthouseref3_FieldLines.l2
 have hb : (((m : Nat) : Int) == 0) = false := by rw [beq_eq_false_iff_ne]; omega
 simp only [hb]
 refine (hv x9).congr fun k => ?_
 split <;> rfl
theorem ref_up (hs : s.size ≤ 281474976710656) (hfr : fr ≤ 78) : ∀ d i, i + d = s.size → 79 ≤ i → (∀ x10 : Int, Ev (fun k => posthouseref3_FieldLines.j4 k s (fr : Int) out ((ft (cd (by_ s)) d i : Nat) : Int) x10 false) v) → Ev (fun k => posthouseref3_FieldLines.l2 k s (fr : Int) out 0 (i : Int)) v
 | 0, i, h, h1, hv => by
  refine Ev.succ ?_
  unfold posthouseref3_FieldLines.l2
  refine (hv i).congr fun k => ?_
  rw [if_neg (by omega)]
  rfl
 | d + 1, i, h, h1, hv => by
  have hw : wrap64 ((i : Int) + 1) = ((i + 1 : Nat) : Int) := by rw [w64 _ (by omega)]; omega
  have hp : wrap64 ((i : Int) - 1) = ((i - 1 : Nat) : Int) := by rw [w64 _ (by omega)]; omega
  unfold ft cd at hv
  have hz : ((0 : Int) == 0) = true := rfl
  refine Ev.succ ?_
  unfold posthouseref3_FieldLines.l2
  simp only [if_pos (show (i : Int) < (s.size : Int) by omega), hz]
  refine Ev.succ ?_
  unfold posthouseref3_FieldLines.j4
  simp only [if_true, if_pos (show (i : Int) ≥ (fr : Int) by omega), if_pos (show (0 : Int) ≤ (i : Int) by omega), if_pos (show (i : Int) < (s.size : Int) by omega), bt_at s i (by omega), blank_val, Option.bind_some, hp, hw, if_pos (show (0 : Int) ≤ ((i - 1 : Nat) : Int) by omega), if_pos (show ((i - 1 : Nat) : Int) < (s.size : Int) by omega), bt_at s (i - 1) (by omega)]
  by_cases e1 : blk (at_ (by_ s) i) = true
  ·
   simp only [e1, if_true, Bool.true_and] at hv ⊢
   by_cases e2 : blk (at_ (by_ s) (i - 1)) = true
   ·
    simp only [e2, Bool.not_true, Bool.false_eq_true, if_false, if_true] at hv ⊢
    exact ref_up hs hfr d (i + 1) (by omega) (by omega) hv
   ·
    have e2' : blk (at_ (by_ s) (i - 1)) = false := by simpa using e2
    simp only [e2', Bool.not_false, Bool.false_eq_true, if_false, if_true] at hv ⊢
    exact ref_found2 s fr out v i (by omega) hv _
  ·
   have e1' : blk (at_ (by_ s) i) = false := by simpa using e1
   simp only [e1', Bool.false_eq_true, if_false, Bool.false_and] at hv ⊢
   exact ref_up hs hfr d (i + 1) (by omega) (by omega) hv
theorem ref_down (hs : s.size ≤ 281474976710656) (hsz : 78 < s.size) (hfr : fr ≤ 78) (h1 : 1 ≤ fr) : ∀ j, j ≤ 78 → (dn (cfr (by_ s) fr) j = 0 → Ev (fun k => posthouseref3_FieldLines.l2 k s (fr : Int) out 0 79) v) → (dn (cfr (by_ s) fr) j ≠ 0 → ∀ x10 : Int, Ev (fun k => posthouseref3_FieldLines.j4 k s (fr : Int) out ((dn (cfr (by_ s) fr) j : Nat) : Int) x10 false) v) → Ev (fun k => posthouseref3_FieldLines.l1 k s (fr : Int) out 0 (j : Int)) v
 | 0, _, hz, _ => by
  refine Ev.succ ?_
  unfold posthouseref3_FieldLines.l1
  have h2 : Ev (fun k => posthouseref3_FieldLines.j2 k s (fr : Int) out 0 0 false) v := by
   refine Ev.succ ?_
   unfold posthouseref3_FieldLines.j2
   simp only [Bool.false_eq_true, if_false]
   exact hz rfl
  refine h2.congr fun k => ?_
  rw [if_neg (by omega)]
  rfl
 | j + 1, hj, hz, hn => by
  have hp : wrap64 (((j + 1 : Nat) : Int) - 1) = ((j : Nat) : Int) := by rw [w64 _ (by omega)]; omega
  have hz0 : ((0 : Int) == 0) = true := rfl
  unfold dn cfr cd at hz hn
  refine Ev.succ ?_
  unfold posthouseref3_FieldLines.l1
  simp only [if_pos (show ((j + 1 : Nat) : Int) > 0 by omega), hz0]
  refine Ev.succ ?_
  unfold posthouseref3_FieldLines.j2
  simp only [if_true, if_pos (show (0 : Int) ≤ ((j + 1 : Nat) : Int) by omega), if_pos (show ((j + 1 : Nat) : Int) < (s.size : Int) by omega), bt_at s (j + 1) (by omega), blank_val, Option.bind_some, hp, if_pos (show (0 : Int) ≤ ((j : Nat) : Int) by omega), if_pos (show ((j : Nat) : Int) < (s.size : Int) by omega), bt_at s j (by omega), Nat.add_sub_cancel] at hz hn ⊢
  by_cases e0 : fr ≤ j + 1
  ·
   simp only [if_pos (show ((j + 1 : Nat) : Int) ≥ (fr : Int) by omega), decide_eq_true e0, Bool.true_and] at hz hn ⊢
   by_cases e1 : blk (at_ (by_ s) (j + 1)) = true
   ·
    simp only [e1, if_true, Bool.true_and] at hz hn ⊢
    by_cases e2 : blk (at_ (by_ s) j) = true
    ·
     simp only [e2, Bool.not_true, Bool.false_eq_true, if_false, if_true] at hz hn ⊢
     exact ref_down hs hsz hfr h1 j (by omega) hz hn
    ·
     have e2' : blk (at_ (by_ s) j) = false := by simpa using e2
     simp only [e2', Bool.not_false, Bool.false_eq_true, if_false, if_true] at hz hn ⊢
     exact ref_found s fr out v (j + 1) (by omega) (hn (by omega)) _
   ·
    have e1' : blk (at_ (by_ s) (j + 1)) = false := by simpa using e1
    simp only [e1', Bool.false_eq_true, if_false, Bool.false_and] at hz hn ⊢
    exact ref_down hs hsz hfr h1 j (by omega) hz hn
  ·
   simp only [if_neg (show ¬ ((j + 1 : Nat) : Int) ≥ (fr : Int) by omega), decide_eq_false e0, Bool.false_and, Bool.false_eq_true, if_false] at hz hn ⊢
   exact ref_down hs hsz hfr h1 j (by omega) hz hn
end
theorem ref_lines : ∀ n (s : ByteArray) (fr : Nat) (out : List ByteArray), s.size ≤ n → 1 ≤ s.size → n ≤ 140737488356352 → 1 ≤ fr → fr ≤ 78 → out.length + n ≤ 8796093022208 → Ev (fun k => posthouseref3_FieldLines.l0 k s (fr : Int) out) (out ++ lns n s fr)
 | 0, s, fr, out, h, h0, _, h1, h2, h3 => by omega
 | n + 1, s, fr, out, h, h0, hn, h1, h2, h3 => by
  have whole : s.extract 0 s.size = s := by simp
  have e0 : lns n (s.extract s.size s.size) 1 = [] := by
   cases n with
   | zero => rfl
   | succ n => unfold lns; rw [if_pos (by simp)]
  refine Ev.succ ?_
  unfold posthouseref3_FieldLines.l0 lns
  rw [if_neg (show ¬ s.size = 0 by omega)]
  by_cases e : s.size ≤ 78
  ·
   have hc : cutN (by_ s) fr = s.size := by unfold cutN; rw [by_len, if_pos e]
   rw [hc, whole, e0]
   refine Ev.const fun k => ?_
   rw [if_neg (by omega), if_pos (by omega)]
  ·
   have hc := cut_same (by_ s) fr (by rw [by_len]; omega) h1 h2
   rw [by_len] at hc
   -- what j4 does behind a cut
   have hj : ∀ m : Nat, m = cutR (by_ s) fr → ∀ x10 : Int, Ev (fun k => posthouseref3_FieldLines.j4 k s (fr : Int) out (m : Int) x10 false) (out ++ s.extract 0 (cutN (by_ s) fr) :: lns n (s.extract (cutN (by_ s) fr) s.size) 1) := by
    intro m hm x10
    rw [← hm] at hc
    refine Ev.succ ?_
    unfold posthouseref3_FieldLines.j4
    simp only [Bool.false_eq_true, if_false]
    by_cases em : m = 0
    ·
     subst em
     rw [if_pos rfl] at hc
     rw [hc, whole, e0]
     refine Ev.const fun k => ?_
     rw [if_pos (show ((0 : Nat) : Int) = 0 from rfl), if_pos (by omega)]
    ·
     rw [if_neg em] at hc
     obtain ⟨b1, b2⟩ := cutN_bound (by_ s) fr (by rw [by_len]; omega) h1 h2
     rw [by_len] at b2
     rw [hc] at b2 ⊢
     simp only [if_neg (show ¬ (m : Int) = 0 by omega), if_pos (show (0 : Int) ≤ (m : Int) by omega), if_pos (show (m : Int) ≤ (s.size : Int) by omega), if_pos (show out.length < 8796093022208 by omega), Int.toNat_natCast]
     by_cases ef : m = s.size
     ·
      subst ef
      exfalso
      have hlt : cutR (by_ s) fr < (by_ s).length := by
       unfold cutR
       split
       ·
        have : ∀ d i, i + d = (by_ s).length → 1 ≤ (by_ s).length → ft (cd (by_ s)) d i < (by_ s).length := by
         intro d
         induction d with
         | zero => intro i _ h; unfold ft; omega
         | succ d ih =>
          intro i hi h
          unfold ft
          split
          ·
           omega
          ·
           exact ih (i + 1) (by omega) h
        exact this _ _ (by rw [by_len]; omega) (by rw [by_len]; omega)
       ·
        have := dn_le (c := cfr (by_ s) fr) 78
        rw [by_len]
        omega
      rw [by_len] at hlt
      omega
     ·
      have := ref_lines n (s.extract m s.size) 1 (out ++ [s.extract 0 m]) (by simp; omega) (by simp; omega) (by omega) (Nat.le_refl _) (by omega) (by simp; omega)
      rw [List.append_assoc] at this
      exact this
   have hl1 : Ev (fun k => posthouseref3_FieldLines.l1 k s (fr : Int) out 0 78) (out ++ s.extract 0 (cutN (by_ s) fr) :: lns n (s.extract (cutN (by_ s) fr) s.size) 1) := by
    refine ref_down s fr out _ (by omega) (by omega) h2 h1 78 (Nat.le_refl _) (fun hz => ?_) (fun hz => ?_)
    ·
     refine ref_up s fr out _ (by omega) h2 (s.size - 79) 79 (by omega) (Nat.le_refl _) (hj _ ?_)
     unfold cutR
     rw [if_pos hz, by_len]
    ·
     refine hj _ ?_
     unfold cutR
     rw [if_neg hz]
   refine hl1.congr fun k => ?_
   rw [if_pos (by omega)]

theorem rdO_get {l : List ByteArray} {i : Nat} (h : i < l.length) : rdOf ByteArray.empty l (i : Int) = l[i] := by
 unfold rdOf
 rw [Int.toNat_natCast, List.getD_eq_getElem?_getD, List.getElem?_eq_getElem h]
 rfl
def okf (n : Nat) : Bool := decide (33 ≤ n ∧ n ≤ 126) && n != 58
theorem fname_loop (a : ByteArray) (hs : a.size ≤ 140737488351232) : ∀ d i, i + d = a.size → Ev (fun k => fold_IsName.l0 k a (a.size : Int) (i : Int)) (((by_ a).drop i).all okf && lenOk a.size)
 | 0, i, h => by
  refine Ev.succ (Ev.const fun k => ?_)
  unfold fold_IsName.l0
  rw [if_neg (by omega), List.drop_eq_nil_of_le (by rw [by_len]; omega)]
  unfold lenOk
  split
  all_goals (congr 1; rw [Bool.eq_iff_iff]; simp; omega)
 | d + 1, i, h => by
  have ih := fname_loop a hs d (i + 1) (by omega)
  have hi : i < (by_ a).length := by rw [by_len]; omega
  have h2 : wrap64 ((i : Int) + 1) = ((i + 1 : Nat) : Int) := by rw [w64 _ (by omega)]; omega
  refine Ev.succ ?_
  unfold fold_IsName.l0
  simp only [if_pos (show (i : Int) < (a.size : Int) by omega), if_pos (show (0 : Int) ≤ (i : Int) by omega), bt_nat a i hi, h2]
  rw [List.drop_eq_getElem_cons hi, List.all_cons]
  generalize (by_ a)[i] = n
  by_cases h0 : okf n = true
  ·
   rw [h0, Bool.true_and]
   unfold okf at h0
   simp at h0
   refine ih.congr fun k => ?_
   rw [if_neg (by omega), if_neg (by omega), if_neg (by omega)]
  ·
   have h0' : okf n = false := by simpa using h0
   rw [h0', Bool.false_and, Bool.false_and]
   refine Ev.const fun k => ?_
   unfold okf at h0
   simp at h0
   by_cases e1 : (n : Int) ≤ 32
   ·
    rw [if_pos e1]
   ·
    rw [if_neg e1]
    by_cases e2 : (n : Int) > 126
    ·
     rw [if_pos e2]
    ·
     rw [if_neg e2, if_pos (by omega)]
theorem fIsName_ev (a : ByteArray) (hs : a.size ≤ 140737488351232) : Ev (fun k => fold_IsName.f k a) ((by_ a).all okf && lenOk a.size) := by
 have := fname_loop a hs a.size 0 (by omega)
 simpa [fold_IsName.f] using this
/-- A byte that no value has. -/
def ctl (n : Nat) : Bool := n == 0 || n == 10 || n == 13
theorem indexAny_cons (b : UInt8) (l cs : List UInt8) : Lib.indexAny (b :: l) cs = if cs.contains b then 0 else if Lib.indexAny l cs == -1 then -1 else Lib.indexAny l cs + 1 := rfl
theorem index_nonneg (l : List UInt8) : decide (Lib.indexAny l [13, 10, 0] ≥ 0) = (l.map UInt8.toNat).any ctl := by
 induction l with
 | nil => rfl
 | cons b l ih =>
  rw [List.map_cons, List.any_cons, ← ih, indexAny_cons]
  have hc : [13, 10, 0].contains b = ctl b.toNat := by
   have : ∀ n : Nat, ∀ h : n < 256, ([13, 10, 0] : List UInt8).contains (UInt8.ofNat n) = ctl (UInt8.ofNat n).toNat := by decide +kernel
   have := this b.toNat b.toNat_lt
   rwa [UInt8.ofNat_toNat] at this
  rw [hc]
  have hge := Lib.indexAny_ge [13, 10, 0] l
  by_cases h : ctl b.toNat = true
  ·
   rw [if_pos h, h]; rfl
  ·
   have h' : ctl b.toNat = false := by simpa using h
   rw [if_neg h, h', Bool.false_or]
   by_cases e : Lib.indexAny l [13, 10, 0] = -1
   ·
    rw [if_pos (by rw [e]; rfl), e]
   ·
    rw [if_neg (by rw [beq_iff_eq]; exact e)]
    rw [Bool.eq_iff_iff, decide_eq_true_iff, decide_eq_true_iff]
    omega
theorem contains_val (a : ByteArray) (hs : a.size ≤ 4000) : strings_ContainsAny.f a ⟨#[13, 10, 0]⟩ = some ((by_ a).any ctl) := by
 unfold strings_ContainsAny.f strings_IndexAny.f
 rw [if_pos ⟨by decide, by omega, by decide⟩, Option.bind_some]
 congr 1
 exact index_nonneg a.data.toList
/-- Blanks at an end. -/
def ends (L : List Nat) : Bool := decide (0 < L.length) && (blk (at_ L 0) || blk (at_ L (L.length - 1)))
theorem dw_len {α : Type} (p : α → Bool) (l : List α) : (l.dropWhile p).length ≤ l.length := by
 induction l with
 | nil => exact Nat.le_refl _
 | cons x l ih =>
  rw [List.dropWhile_cons]
  split
  ·
   rw [List.length_cons]; omega
  ·
   exact Nat.le_refl _
theorem dw_eq {α : Type} (p : α → Bool) (l : List α) : l.dropWhile p = l ↔ ∀ x, l[0]? = some x → p x = false := by
 cases l with
 | nil => simp
 | cons x l =>
  rw [List.dropWhile_cons]
  constructor
  ·
   intro h y hy
   have hy : x = y := by simpa using hy
   subst hy
   cases hp : p x with
   | false => rfl
   | true =>
    rw [hp, if_pos rfl] at h
    have h2 := dw_len p l
    rw [h, List.length_cons] at h2
    omega
  ·
   intro h
   rw [h x rfl]
   rfl
theorem trim_iff (l : List UInt8) : Lib.trimS l [32, 9] = l ↔ (∀ x, l[0]? = some x → [32, 9].contains x = false) ∧ (∀ x, l[l.length - 1]? = some x → [32, 9].contains x = false) := by
 unfold Lib.trimS Lib.trimLeftS Lib.trimRightS
 have hr : (l.reverse.dropWhile (fun x => [32, 9].contains x)).reverse = l ↔ ∀ x, l[l.length - 1]? = some x → [32, 9].contains x = false := by
  constructor
  ·
   intro h
   have h2 : l.reverse.dropWhile (fun x => [32, 9].contains x) = l.reverse := by have := congrArg List.reverse h; rwa [List.reverse_reverse] at this
   intro x hx
   refine (dw_eq _ _).1 h2 x ?_
   rcases Nat.eq_zero_or_pos l.length with h0 | h0
   ·
    rw [List.getElem?_eq_none (by omega)] at hx; cases hx
   ·
    rw [List.getElem?_reverse h0]
    exact hx
  ·
   intro h
   have h2 : l.reverse.dropWhile (fun x => [32, 9].contains x) = l.reverse := (dw_eq _ _).2 (fun x hx => h x (by
    rcases Nat.eq_zero_or_pos l.length with h0 | h0
    ·
     rw [List.getElem?_eq_none (by rw [List.length_reverse]; omega)] at hx; cases hx
    ·
     rw [List.getElem?_reverse h0] at hx
     exact hx))
   rw [h2, List.reverse_reverse]
 constructor
 ·
  intro h
  have hlen : (l.reverse.dropWhile (fun x => [32, 9].contains x)).length = l.length := by
   have h1 := dw_len (fun x => ([32, 9] : List UInt8).contains x) l.reverse
   have h2 := dw_len (fun x => ([32, 9] : List UInt8).contains x) (l.reverse.dropWhile (fun x => [32, 9].contains x)).reverse
   rw [h, List.length_reverse] at h2
   rw [List.length_reverse] at h1
   omega
  have h3 : l.reverse.dropWhile (fun x => [32, 9].contains x) = l.reverse := by
   have hs := List.dropWhile_suffix (l := l.reverse) (fun x => ([32, 9] : List UInt8).contains x)
   exact hs.eq_of_length (by rw [hlen, List.length_reverse])
  rw [h3, List.reverse_reverse] at h
  exact ⟨(dw_eq _ _).1 h, hr.1 (by rw [h3, List.reverse_reverse])⟩
 ·
  rintro ⟨h1, h2⟩
  rw [hr.2 h2]
  exact (dw_eq _ _).2 h1
theorem blk_c (b : UInt8) : [32, 9].contains b = blk b.toNat := by
 have : ∀ n : Nat, ∀ h : n < 256, ([32, 9] : List UInt8).contains (UInt8.ofNat n) = blk (UInt8.ofNat n).toNat := by decide +kernel
 have := this b.toNat b.toNat_lt
 rwa [UInt8.ofNat_toNat] at this
theorem trim_val (a : ByteArray) (hs : a.size ≤ 4000) : ∃ t, strings_Trim.f a ⟨#[32, 9]⟩ = some t ∧ (t.toList = a.toList ↔ ends (by_ a) = false) := by
 refine ⟨⟨(Lib.trimS a.data.toList [32, 9]).toArray⟩, ?_, ?_⟩
 ·
  unfold strings_Trim.f
  rw [if_pos ⟨by decide, by omega, by decide⟩]
 ·
  rw [ByteArray.toList_eq, ByteArray.toList_eq]
  show Lib.trimS a.data.toList [32, 9] = a.data.toList ↔ _
  rw [trim_iff]
  have hl : (by_ a).length = a.data.toList.length := by unfold by_; rw [List.length_map]
  have hg : ∀ i x, a.data.toList[i]? = some x → at_ (by_ a) i = x.toNat := fun i x h => by
   unfold at_ by_
   rw [List.getD_eq_getElem?_getD, List.getElem?_map, h]
   rfl
  unfold ends
  rcases Nat.eq_zero_or_pos a.data.toList.length with h0 | h0
  ·
   rw [hl, h0]
   have hn : a.data.toList = [] := List.eq_nil_of_length_eq_zero h0
   simp [hn]
  ·
   obtain ⟨x, hx⟩ : ∃ x, a.data.toList[0]? = some x := ⟨_, List.getElem?_eq_getElem h0⟩
   obtain ⟨y, hy⟩ : ∃ y, a.data.toList[a.data.toList.length - 1]? = some y := ⟨_, List.getElem?_eq_getElem (by omega)⟩
   rw [hl, hg _ _ hx, hg _ _ hy, decide_eq_true h0, Bool.true_and, ← blk_c, ← blk_c, Bool.or_eq_false_iff]
   constructor
   ·
    rintro ⟨h1, h2⟩
    exact ⟨h1 x hx, h2 y hy⟩
   ·
    rintro ⟨h1, h2⟩
    refine ⟨fun z hz => ?_, fun z hz => ?_⟩
    ·
     rw [hx] at hz; rw [← Option.some.inj hz]; exact h1
    ·
     rw [hy] at hz; rw [← Option.some.inj hz]; exact h2
/-- A field's lines. -/
def fln (a b : ByteArray) : List ByteArray := lns ((a ++ (⟨#[58, 32]⟩ : ByteArray)) ++ b).size ((a ++ (⟨#[58, 32]⟩ : ByteArray)) ++ b) (a.size + 2)
theorem size3 (a b : ByteArray) : ((a ++ (⟨#[58, 32]⟩ : ByteArray)) ++ b).size = a.size + 2 + b.size := by
 rw [ByteArray.size_append, ByteArray.size_append]
 rfl
theorem fln_from (a b : ByteArray) (ha : a.size ≤ 60) : fln a b = lns ((a ++ (⟨#[58, 32]⟩ : ByteArray)) ++ b).size ((a ++ (⟨#[58, 32]⟩ : ByteArray)) ++ b) (a.size + 3) := by
 have hz := size3 a b
 have h32 : at_ (by_ ((a ++ (⟨#[58, 32]⟩ : ByteArray)) ++ b)) (a.size + 1) = 32 := by
  have hb : by_ ((a ++ (⟨#[58, 32]⟩ : ByteArray)) ++ b) = by_ a ++ ([58, 32] ++ by_ b) := by
   unfold by_
   simp
  rw [hb]
  unfold at_
  rw [List.getD_eq_getElem?_getD, List.getElem?_append_right (by rw [by_len]; omega), by_len, show a.size + 1 - a.size = 1 by omega]
  rfl
 unfold fln
 generalize (a ++ (⟨#[58, 32]⟩ : ByteArray)) ++ b = s at hz h32
 obtain ⟨n, hn⟩ : ∃ n, s.size = n + 1 := ⟨s.size - 1, by omega⟩
 have hcut : cutN (by_ s) (a.size + 2) = cutN (by_ s) (a.size + 3) := by
  by_cases h : s.size ≤ 78
  ·
   unfold cutN
   rw [by_len, if_pos h, if_pos h]
  ·
   rw [cut_same _ _ (by rw [by_len]; omega) (by omega) (by omega), cut_same _ _ (by rw [by_len]; omega) (by omega) (by omega)]
   have : cfr (by_ s) (a.size + 2) = cfr (by_ s) (a.size + 3) := by
    funext i
    unfold cfr
    by_cases e : i = a.size + 2
    ·
     subst e
     unfold cd
     rw [show a.size + 2 - 1 = a.size + 1 by omega, h32]
     simp [blk]
    ·
     by_cases e2 : a.size + 3 ≤ i
     ·
      rw [decide_eq_true e2, decide_eq_true (by omega)]
     ·
      rw [decide_eq_false e2, decide_eq_false (by omega)]
   unfold cutR
   rw [this]
 rw [hn]
 unfold lns
 rw [hcut]
theorem fLines_ev (a b : ByteArray) (ha : a.size ≤ 60) (hb : b.size ≤ 4000) : Ev (fun k => fold_Lines.f k a b) (fln a b) := by
 rw [fln_from a b ha]
 have hz := size3 a b
 have hw : wrap64 ((a.size : Int) + 3) = ((a.size + 3 : Nat) : Int) := by rw [w64 _ (by omega)]; omega
 have := lines_loop ((a ++ (⟨#[58, 32]⟩ : ByteArray)) ++ b).size ((a ++ (⟨#[58, 32]⟩ : ByteArray)) ++ b) (a.size + 3) [] (Nat.le_refl _) (by omega) (by omega) (by omega) (by rw [List.length_nil]; omega)
 rw [List.nil_append] at this
 refine this.congr fun k => ?_
 unfold fold_Lines.f
 rw [if_pos (by omega), if_pos (by rw [ByteArray.size_append] at hz; omega), hw]
theorem rLines_ev (a b : ByteArray) (ha : a.size ≤ 60) (hb : b.size ≤ 4000) : Ev (fun k => posthouseref3_FieldLines.f k a b) (fln a b) := by
 have hz := size3 a b
 have hw : wrap64 ((a.size : Int) + 2) = ((a.size + 2 : Nat) : Int) := by rw [w64 _ (by omega)]; omega
 have := ref_lines ((a ++ (⟨#[58, 32]⟩ : ByteArray)) ++ b).size ((a ++ (⟨#[58, 32]⟩ : ByteArray)) ++ b) (a.size + 2) [] (Nat.le_refl _) (by omega) (by omega) (by omega) (by omega) (by rw [List.length_nil]; omega)
 rw [List.nil_append] at this
 refine this.congr fun k => ?_
 unfold posthouseref3_FieldLines.f
 rw [if_pos (by omega), if_pos (by rw [ByteArray.size_append] at hz; omega), hw]
theorem fln_len (a b : ByteArray) : (fln a b).length ≤ a.size + 2 + b.size := by
 unfold fln
 rw [← size3]
 exact lns_len _ _ _
def long (s : ByteArray) : Bool := decide (998 < s.size)
theorem long_loop (ls : List ByteArray) (hl : ls.length ≤ 8796093022208) : ∀ d i, i + d = ls.length → ∃ r idx, Ev (fun k => fold_Fold.l0 k ls ls (ls.length : Int) (i : Int)) (r, if (ls.drop i).any long = true then 1 else 0, idx) ∧ ((ls.drop i).any long = false → idx = 0)
 | 0, i, h => by
  rw [List.drop_eq_nil_of_le (by omega)]
  refine ⟨ls, 0, Ev.succ (Ev.const fun k => ?_), fun _ => rfl⟩
  unfold fold_Fold.l0
  rw [if_neg (by omega)]
  rfl
 | d + 1, i, h => by
  have hi : i < ls.length := by omega
  have hw : wrap64 ((i : Int) + 1) = ((i + 1 : Nat) : Int) := by rw [w64 _ (by omega)]; omega
  obtain ⟨r, idx, h1, h2⟩ := long_loop ls hl d (i + 1) (by omega)
  rw [List.drop_eq_getElem_cons hi, List.any_cons]
  by_cases e : 998 < (ls[i]).size
  ·
   have : long ls[i] = true := by unfold long; exact decide_eq_true e
   rw [this, Bool.true_or]
   refine ⟨[], i, Ev.succ (Ev.const fun k => ?_), fun h => by cases h⟩
   unfold fold_Fold.l0
   rw [if_pos (by omega), if_pos (by omega), if_pos (by omega), rdO_get hi, if_pos (by omega)]
   rfl
  ·
   have : long ls[i] = false := by unfold long; exact decide_eq_false e
   rw [this, Bool.false_or]
   refine ⟨r, idx, Ev.succ ?_, h2⟩
   unfold fold_Fold.l0
   refine h1.congr fun k => ?_
   rw [if_pos (by omega), if_pos (by omega), if_pos (by omega), rdO_get hi, if_neg (by omega), hw]
theorem long2_loop (ls : List ByteArray) (hl : ls.length ≤ 8796093022208) : ∀ d i, i + d = ls.length → Ev (fun k => posthouseref3_FieldCode.l2 k ls (i : Int)) (if (ls.drop i).any long = true then 1 else 0)
 | 0, i, h => by
  rw [List.drop_eq_nil_of_le (by omega)]
  refine Ev.succ (Ev.const fun k => ?_)
  unfold posthouseref3_FieldCode.l2
  rw [if_neg (by omega)]
  rfl
 | d + 1, i, h => by
  have hi : i < ls.length := by omega
  have hw : wrap64 ((i : Int) + 1) = ((i + 1 : Nat) : Int) := by rw [w64 _ (by omega)]; omega
  rw [List.drop_eq_getElem_cons hi, List.any_cons]
  refine Ev.succ ?_
  unfold posthouseref3_FieldCode.l2
  by_cases e : 998 < (ls[i]).size
  ·
   have : long ls[i] = true := by unfold long; exact decide_eq_true e
   rw [this, Bool.true_or]
   refine Ev.const fun k => ?_
   rw [if_pos (by omega), if_pos (by omega), rdO_get hi, if_pos (by omega)]
   rfl
  ·
   have : long ls[i] = false := by unfold long; exact decide_eq_false e
   rw [this, Bool.false_or]
   refine (long2_loop ls hl d (i + 1) (by omega)).congr fun k => ?_
   rw [if_pos (by omega), if_pos (by omega), rdO_get hi, if_neg (by omega), hw]
/-- The code of a field's fault. -/
def fc (a b : ByteArray) : Int := if ((by_ a).all okf && lenOk a.size) = true then (if 4000 < b.size then 1 else if (by_ b).any ctl = true then 11 else if ends (by_ b) = true then 11 else if (fln a b).any long = true then 1 else 0) else 10
theorem lenOk_le {n : Nat} (h : lenOk n = true) : n ≤ 60 := by unfold lenOk at h; have := of_decide_eq_true h; omega
theorem Fold_ev (a b : ByteArray) (ha : a.size ≤ 140737488351232) : ∃ r idx, Ev (fun k => fold_Fold.f k a b) (r, fc a b, idx) ∧ (fc a b = 0 → idx = 0) := by
 unfold fold_Fold.f fold_Check.f fc
 have hn := fIsName_ev a ha
 by_cases e : ((by_ a).all okf && lenOk a.size) = true
 ·
  rw [e] at hn
  simp only [if_pos e]
  by_cases e1 : 4000 < b.size
  ·
   simp only [if_pos e1]
   refine ⟨[], -1, Ev.bind (a := 1) (Ev.bind hn (Ev.const fun k => ?_)) (Ev.const fun k => ?_), fun h => by cases h⟩
   ·
    rw [if_pos rfl, if_pos (by omega)]
   ·
    rw [if_neg (by decide)]
  ·
   simp only [if_neg e1]
   have hc := contains_val b (by omega)
   obtain ⟨t, ht, ht2⟩ := trim_val b (by omega)
   by_cases e2 : (by_ b).any ctl = true
   ·
    simp only [if_pos e2]
    refine ⟨[], -1, Ev.bind (a := 11) (Ev.bind hn (Ev.const fun k => ?_)) (Ev.const fun k => ?_), fun h => by cases h⟩
    ·
     rw [if_pos rfl, if_neg (by omega), hc, Option.bind_some, if_pos e2]
    ·
     rw [if_neg (by decide)]
   ·
    simp only [if_neg e2]
    by_cases e3 : ends (by_ b) = true
    ·
     simp only [if_pos e3]
     refine ⟨[], -1, Ev.bind (a := 11) (Ev.bind hn (Ev.const fun k => ?_)) (Ev.const fun k => ?_), fun h => by cases h⟩
     ·
      rw [if_pos rfl, if_neg (by omega), hc, Option.bind_some, if_neg e2, ht, Option.bind_some, if_neg (fun h => by rw [ht2.1 h] at e3; cases e3)]
     ·
      rw [if_neg (by decide)]
    ·
     simp only [if_neg e3]
     have hl60 : a.size ≤ 60 := lenOk_le (by rw [Bool.and_eq_true] at e; exact e.2)
     have hll := fln_len a b
     obtain ⟨r, idx, h1, h2⟩ := long_loop (fln a b) (by omega) (fln a b).length 0 (by omega)
     rw [List.drop_zero] at h1 h2
     refine ⟨r, idx, Ev.bind (a := 0) (Ev.bind hn (Ev.const fun k => ?_)) ?_, fun h => ?_⟩
     ·
      rw [if_pos rfl, if_neg (by omega), hc, Option.bind_some, if_neg e2, ht, Option.bind_some, if_pos (ht2.2 (by simpa using e3))]
     ·
      simp only [if_true]
      exact Ev.bind (fLines_ev a b hl60 (by omega)) h1
     ·
      refine h2 ?_
      cases hx : (fln a b).any long with
      | false => rfl
      | true => rw [hx, if_pos rfl] at h; cases h
 ·
  have e' : ((by_ a).all okf && lenOk a.size) = false := by simpa using e
  rw [e'] at hn
  simp only [if_neg e]
  refine ⟨[], -1, Ev.bind (a := 10) (Ev.bind hn (Ev.const fun k => ?_)) (Ev.const fun k => ?_), fun h => by cases h⟩
  ·
   rw [if_neg (by decide)]
  ·
   rw [if_neg (by decide)]
section
variable (a b : ByteArray)
theorem fcode_j2 (ha : a.size ≤ 60) (hb : b.size ≤ 4000) : Ev (fun k => posthouseref3_FieldCode.j2 k false a b) (if (fln a b).any long = true then 1 else 0) := by
 refine Ev.succ ?_
 unfold posthouseref3_FieldCode.j2
 simp only [Bool.false_eq_true, if_false]
 have hll := fln_len a b
 have := long2_loop (fln a b) (by omega) (fln a b).length 0 (by omega)
 rw [List.drop_zero] at this
 exact Ev.bind (rLines_ev a b ha hb) this
theorem fcode_j2t : Ev (fun k => posthouseref3_FieldCode.j2 k true a b) 11 := by
 refine Ev.succ (Ev.const fun k => ?_)
 unfold posthouseref3_FieldCode.j2
 rfl
theorem fcode_l1 (ha : a.size ≤ 60) (hb : b.size ≤ 4000) : ∀ d i, i + d = b.size → Ev (fun k => posthouseref3_FieldCode.l1 k (b.size : Int) (i : Int) a b) (if ((by_ b).drop i).any ctl = true then 11 else if ends (by_ b) = true then 11 else if (fln a b).any long = true then 1 else 0)
 | 0, i, h => by
  rw [List.drop_eq_nil_of_le (by rw [by_len]; omega)]
  simp only [List.any_nil, Bool.false_eq_true, if_false]
  refine Ev.succ ?_
  unfold posthouseref3_FieldCode.l1
  simp only [if_neg (show ¬ (i : Int) < (b.size : Int) by omega)]
  by_cases e0 : b.size = 0
  ·
   have : ends (by_ b) = false := by unfold ends; rw [by_len, e0]; rfl
   rw [this]
   simp only [Bool.false_eq_true, if_false, if_neg (show ¬ (b.size : Int) > 0 by omega)]
   exact fcode_j2 a b ha hb
  ·
   have hp : wrap64 ((b.size : Int) - 1) = ((b.size - 1 : Nat) : Int) := by rw [w64 _ (by omega)]; omega
   have hb0 : bt b 0 = (at_ (by_ b) 0 : Nat) := bt_at b 0 (by omega)
   simp only [if_pos (show (b.size : Int) > 0 by omega), if_pos (show (0 : Int) < (b.size : Int) by omega), hb0, blank_val, Option.bind_some, hp, if_pos (show (0 : Int) ≤ ((b.size - 1 : Nat) : Int) by omega), if_pos (show ((b.size - 1 : Nat) : Int) < (b.size : Int) by omega), bt_at b (b.size - 1) (by omega)]
   have he : ends (by_ b) = (blk (at_ (by_ b) 0) || blk (at_ (by_ b) (b.size - 1))) := by unfold ends; rw [by_len, decide_eq_true (by omega), Bool.true_and]
   rw [he]
   by_cases e1 : blk (at_ (by_ b) 0) = true
   ·
    simp only [e1, Bool.true_or, if_true]
    exact fcode_j2t a b
   ·
    have e1' : blk (at_ (by_ b) 0) = false := by simpa using e1
    simp only [e1', Bool.false_or, Bool.false_eq_true, if_false]
    by_cases e2 : blk (at_ (by_ b) (b.size - 1)) = true
    ·
     simp only [e2, if_true]
     exact fcode_j2t a b
    ·
     have e2' : blk (at_ (by_ b) (b.size - 1)) = false := by simpa using e2
     simp only [e2', Bool.false_eq_true, if_false]
     exact fcode_j2 a b ha hb
 | d + 1, i, h => by
  have hi : i < (by_ b).length := by rw [by_len]; omega
  have hw : wrap64 ((i : Int) + 1) = ((i + 1 : Nat) : Int) := by rw [w64 _ (by omega)]; omega
  have ih := fcode_l1 ha hb d (i + 1) (by omega)
  rw [List.drop_eq_getElem_cons hi, List.any_cons]
  refine Ev.succ ?_
  unfold posthouseref3_FieldCode.l1
  simp only [if_pos (show (i : Int) < (b.size : Int) by omega), if_pos (show (0 : Int) ≤ (i : Int) by omega), bt_nat b i hi, hw]
  generalize (by_ b)[i] = n
  by_cases e : ctl n = true
  ·
   rw [e, Bool.true_or, if_pos rfl]
   unfold ctl at e
   simp at e
   refine Ev.const fun k => ?_
   by_cases e1 : n = 0
   ·
    rw [if_pos (by omega)]
   ·
    rw [if_neg (by omega)]
    by_cases e2 : n = 10
    ·
     rw [if_pos (by omega)]
    ·
     rw [if_neg (by omega), if_pos (by omega)]
  ·
   have e' : ctl n = false := by simpa using e
   rw [e', Bool.false_or]
   unfold ctl at e
   simp at e
   refine ih.congr fun k => ?_
   rw [if_neg (by omega), if_neg (by omega), if_neg (by omega)]
/-- The code behind the name. -/
def fc2 : Int := if 4000 < b.size then 1 else if (by_ b).any ctl = true then 11 else if ends (by_ b) = true then 11 else if (fln a b).any long = true then 1 else 0
theorem fcode_end (e : lenOk a.size = true) : Ev (fun k => if (b.size : Int) > 4000 then some 1 else posthouseref3_FieldCode.l1 k (b.size : Int) 0 a b) (fc2 a b) := by
 have h60 := lenOk_le e
 unfold fc2
 by_cases e2 : 4000 < b.size
 ·
  rw [if_pos e2]
  refine Ev.const fun k => ?_
  rw [if_pos (by omega)]
 ·
  rw [if_neg e2]
  have := fcode_l1 a b h60 (by omega) b.size 0 (by omega)
  rw [List.drop_zero] at this
  simp only [show ((0 : Nat) : Int) = 0 from rfl] at this
  refine this.congr fun k => ?_
  rw [if_neg (by omega)]
theorem fcode_zero (i : Nat) (h : i = a.size) : Ev (fun k => posthouseref3_FieldCode.l0 k (i : Int) a b) (if lenOk a.size = true then fc2 a b else 10) := by
 refine Ev.succ ?_
 unfold posthouseref3_FieldCode.l0
 simp only [if_neg (show ¬ (i : Int) < (a.size : Int) by omega), In_val, Option.bind_some]
 by_cases e : lenOk a.size = true
 ·
  rw [if_pos e]
  have e1 : 1 ≤ a.size ∧ a.size ≤ 60 := by unfold lenOk at e; exact of_decide_eq_true e
  simp only [if_pos (show decide ((1 : Int) ≤ (a.size : Int) ∧ (a.size : Int) ≤ 60) = true by rw [decide_eq_true_iff]; omega)]
  exact fcode_end a b e
 ·
  rw [if_neg e]
  have e1 : ¬ (1 ≤ a.size ∧ a.size ≤ 60) := fun h => e (by unfold lenOk; exact decide_eq_true h)
  simp only [if_neg (show ¬ decide ((1 : Int) ≤ (a.size : Int) ∧ (a.size : Int) ≤ 60) = true by rw [decide_eq_true_iff]; omega)]
  exact Ev.some_ _
theorem In_wrap (n : Nat) (h : n < 256) : posthouseref3_In.f (wrap64 (n : Int)) 33 126 = some (decide (33 ≤ n ∧ n ≤ 126)) := by
 rw [w64 _ (by omega), In_val]
 congr 1
 rw [Bool.eq_iff_iff, decide_eq_true_iff, decide_eq_true_iff]
 omega
theorem fcode_l0 (ha : a.size ≤ 140737488351232) : ∀ d i, i + d = a.size → Ev (fun k => posthouseref3_FieldCode.l0 k (i : Int) a b) (if (((by_ a).drop i).all okf && lenOk a.size) = true then fc2 a b else 10)
 | 0, i, h => by
  rw [List.drop_eq_nil_of_le (by rw [by_len]; omega), List.all_nil, Bool.true_and]
  exact fcode_zero a b i (by omega)
 | d + 1, i, h => by
  have hi : i < (by_ a).length := by rw [by_len]; omega
  have hw : wrap64 ((i : Int) + 1) = ((i + 1 : Nat) : Int) := by rw [w64 _ (by omega)]; omega
  have hlt := by_lt a _ (List.getElem_mem hi)
  have ih := fcode_l0 ha d (i + 1) (by omega)
  rw [List.drop_eq_getElem_cons hi, List.all_cons]
  refine Ev.succ ?_
  unfold posthouseref3_FieldCode.l0
  simp only [if_pos (show (i : Int) < (a.size : Int) by omega), if_pos (show (0 : Int) ≤ (i : Int) by omega), bt_nat a i hi, hw]
  generalize (by_ a)[i] = n at hlt ⊢
  simp only [In_wrap n hlt, Option.bind_some]
  by_cases e : okf n = true
  ·
   rw [e, Bool.true_and]
   unfold okf at e
   simp at e
   refine ih.congr fun k => ?_
   rw [if_pos (decide_eq_true (by omega)), if_neg (by omega)]
  ·
   have e' : okf n = false := by simpa using e
   rw [e', Bool.false_and, Bool.false_and, if_neg (by decide)]
   unfold okf at e
   simp at e
   refine Ev.const fun k => ?_
   by_cases e1 : 33 ≤ n ∧ n ≤ 126
   ·
    rw [if_pos (decide_eq_true e1), if_pos (by omega)]
   ·
    rw [if_neg (by rw [decide_eq_false e1]; decide)]
end
theorem FieldCode_ev (a b : ByteArray) (ha : a.size ≤ 140737488351232) : Ev (fun k => posthouseref3_FieldCode.f k a b) (fc a b) := by
 have := fcode_l0 a b ha a.size 0 (by omega)
 rw [List.drop_zero] at this
 simp only [show ((0 : Nat) : Int) = 0 from rfl] at this
 unfold posthouseref3_FieldCode.f fc
 exact this

theorem rd141 {l : List S141} {i : Nat} (h : i < l.length) : rd_T141 l (i : Int) = l[i] := by
 unfold rd_T141
 rw [Int.toNat_natCast, List.getD_eq_getElem?_getD, List.getElem?_eq_getElem h]
 rfl
/-- The first fault of fields. -/
def hfl : List S141 → Nat → Int × Int
 | [], _ => (0, 0)
 | x :: l, i => if fc x.f0 x.f1 = 0 then hfl l (i + 1) else (fc x.f0 x.f1, (i : Int))
def nameOk (l : List S141) : Prop := ∀ x ∈ l, x.f0.size ≤ 140737488351232
theorem hv_loop (l : List S141) (hl : l.length ≤ 60) (hs : nameOk l) : ∀ d i, i + d = l.length → Ev (fun k => header_Validate.l0 k l (l.length : Int) (i : Int)) (hfl (l.drop i) i)
 | 0, i, h => by
  rw [List.drop_eq_nil_of_le (by omega)]
  refine Ev.succ (Ev.const fun k => ?_)
  unfold header_Validate.l0
  rw [if_neg (by omega)]
  rfl
 | d + 1, i, h => by
  have hi : i < l.length := by omega
  have hw : wrap64 ((i : Int) + 1) = ((i + 1 : Nat) : Int) := by rw [w64 _ (by omega)]; omega
  have ih := hv_loop l hl hs d (i + 1) (by omega)
  rw [List.drop_eq_getElem_cons hi, hfl]
  obtain ⟨r, idx, h1, h2⟩ := Fold_ev (l[i]).f0 (l[i]).f1 (hs _ (List.getElem_mem hi))
  refine Ev.succ ?_
  unfold header_Validate.l0
  simp only [if_pos (show (i : Int) < (l.length : Int) by omega), if_pos (show (0 : Int) ≤ (i : Int) by omega), rd141 hi, hw]
  refine Ev.bind h1 ?_
  by_cases e : fc (l[i]).f0 (l[i]).f1 = 0
  ·
   rw [if_pos e]
   refine ih.congr fun k => ?_
   rw [e, h2 e]
   rfl
  ·
   rw [if_neg e]
   refine Ev.const fun k => ?_
   have hb : (fc (l[i]).f0 (l[i]).f1 == 0) = false := by simpa using e
   simp only [hb]
   rfl
theorem hfl_code : ∀ (l : List S141) (i : Nat), (hfl l i).1 = 0 → hfl l i = (0, 0) ∧ ∀ x ∈ l, fc x.f0 x.f1 = 0
 | [], _, _ => ⟨rfl, fun x hx => by cases hx⟩
 | y :: l, i, h => by
  unfold hfl at h ⊢
  by_cases e : fc y.f0 y.f1 = 0
  ·
   rw [if_pos e] at h ⊢
   obtain ⟨h1, h2⟩ := hfl_code l (i + 1) h
   refine ⟨h1, fun x hx => ?_⟩
   rcases List.mem_cons.1 hx with rfl | hx
   ·
    exact e
   ·
    exact h2 x hx
  ·
   rw [if_neg e] at h
   exact absurd h e
theorem fc_zero {a b : ByteArray} (h : fc a b = 0) : a.size ≤ 60 ∧ b.size ≤ 4000 := by
 unfold fc at h
 split at h
 ·
  rename_i h1
  rw [Bool.and_eq_true] at h1
  split at h
  ·
   cases h
  ·
   exact ⟨lenOk_le h1.2, by omega⟩
 ·
  cases h
theorem mf_loop (l : List S141) (b : List Int) (v : Int × Int) (hl : l.length ≤ 60) (hs : nameOk l) (hv : (hfl l 0).1 = 0 → Ev (fun k => if (b.length : Int) > 12000 then posthouseref3_MessageFault.j1 k true l b else (posthouseref3_MessageBytes.f k l b).bind fun t310 => posthouseref3_MessageFault.j1 k (decide ((t310.length : Int) > 12000)) l b) v) : ∀ d i, i + d = l.length → ((hfl (l.drop i) i).1 = 0 → (hfl l 0).1 = 0) → Ev (fun k => posthouseref3_MessageFault.l0 k (i : Int) l b) (if (hfl (l.drop i) i).1 = 0 then v else hfl (l.drop i) i)
 | 0, i, h, hz => by
  rw [List.drop_eq_nil_of_le (by omega)] at hz ⊢
  have e0 : (hfl [] i).1 = 0 := rfl
  rw [if_pos e0]
  refine Ev.succ ?_
  unfold posthouseref3_MessageFault.l0
  simp only [if_neg (show ¬ (i : Int) < (l.length : Int) by omega)]
  exact hv (hz rfl)
 | d + 1, i, h, hz => by
  have hi : i < l.length := by omega
  have hw : wrap64 ((i : Int) + 1) = ((i + 1 : Nat) : Int) := by rw [w64 _ (by omega)]; omega
  rw [List.drop_eq_getElem_cons hi, hfl] at hz ⊢
  refine Ev.succ ?_
  unfold posthouseref3_MessageFault.l0
  simp only [if_pos (show (i : Int) < (l.length : Int) by omega), if_pos (show (0 : Int) ≤ (i : Int) by omega), rd141 hi, hw, posthouseref3_At.f, Option.bind_some]
  refine Ev.bind (FieldCode_ev (l[i]).f0 (l[i]).f1 (hs _ (List.getElem_mem hi))) ?_
  by_cases e : fc (l[i]).f0 (l[i]).f1 = 0
  ·
   rw [if_pos e] at hz ⊢
   refine (mf_loop l b v hl hs hv d (i + 1) (by omega) hz).congr fun k => ?_
   rw [if_pos e]
  ·
   rw [if_neg e] at hz ⊢
   rw [if_neg e]
   refine Ev.const fun k => ?_
   rw [if_neg e]
/-- A body's fault: both ways. -/
theorem body_same (l : List S141) (b : List Int) : ∀ k, (∀ c i, message_Body.l0 k b c i = posthouseref3_MessageFault.l1 k c i l b) ∧ (∀ c i x t, message_Body.j1 k b c i x t = posthouseref3_MessageFault.j3 k c i x t l b) ∧ (∀ c i t, message_Body.j2 k b c i t = posthouseref3_MessageFault.j4 k c i t l b)
 | 0 => ⟨fun _ _ => rfl, fun _ _ _ _ => rfl, fun _ _ _ => rfl⟩
 | k + 1 => by
  obtain ⟨h1, h2, h3⟩ := body_same l b k
  refine ⟨fun c i => ?_, fun c i x t => ?_, fun c i t => ?_⟩
  ·
   unfold message_Body.l0 posthouseref3_MessageFault.l1
   simp only [h2]
  ·
   unfold message_Body.j1 posthouseref3_MessageFault.j3
   simp only [h1, h3]
  ·
   unfold message_Body.j2 posthouseref3_MessageFault.j4
   simp only [h1, posthouseref3_At.f, Option.bind_some]
theorem body_ends (b : List Int) (hb : b.length ≤ 140737488351232) : ∀ d i c, b.length ≤ i + d → i ≤ b.length + 1 → ∃ v : Int × Int, Ev (fun k => message_Body.l0 k b c (i : Int)) v ∧ (v.1 = 0 → v = (0, 0))
 | 0, i, c, h, _ => by
  refine ⟨(0, 0), Ev.succ (Ev.const fun k => ?_), fun _ => rfl⟩
  unfold message_Body.l0
  rw [if_neg (by omega)]
 | d + 1, i, c, h, h2 => by
  by_cases hi : i < b.length
  ·
   have hw : wrap64 ((i : Int) + 1) = ((i + 1 : Nat) : Int) := by rw [w64 _ (by omega)]; omega
   have hw2 : wrap64 (((i + 1 : Nat) : Int) + 1) = ((i + 2 : Nat) : Int) := by rw [w64 _ (by omega)]; omega
   have hj2 : ∀ t, ∃ v : Int × Int, Ev (fun k => message_Body.j2 k b c (i : Int) t) v ∧ (v.1 = 0 → v = (0, 0)) := by
    intro t
    cases t with
    | true =>
     refine ⟨(11, -5), Ev.succ (Ev.const fun k => ?_), fun h => by cases h⟩
     unfold message_Body.j2
     rfl
    | false =>
     by_cases e : wrap64 (c + 1) > 998
     ·
      refine ⟨(1, -6), Ev.succ (Ev.const fun k => ?_), fun h => by cases h⟩
      unfold message_Body.j2
      rw [if_neg (by decide), if_pos e]
     ·
      obtain ⟨v, h3, h4⟩ := body_ends b hb d (i + 1) (wrap64 (c + 1)) (by omega) (by omega)
      refine ⟨v, Ev.succ ?_, h4⟩
      unfold message_Body.j2
      refine h3.congr fun k => ?_
      rw [if_neg (by decide), if_neg e, hw]
   have hj1 : ∀ x t, ∃ v : Int × Int, Ev (fun k => message_Body.j1 k b c (i : Int) x t) v ∧ (v.1 = 0 → v = (0, 0)) := by
    intro x t
    cases t with
    | true =>
     by_cases e : i + 2 ≤ b.length + 1
     ·
      obtain ⟨v, h3, h4⟩ := body_ends b hb d (i + 2) 0 (by omega) e
      refine ⟨v, Ev.succ ?_, h4⟩
      unfold message_Body.j1
      refine h3.congr fun k => ?_
      rw [if_pos rfl, hw, hw2]
     ·
      omega
    | false =>
     by_cases e : x = 13
     ·
      obtain ⟨v, h3, h4⟩ := hj2 true
      refine ⟨v, Ev.succ ?_, h4⟩
      unfold message_Body.j1
      refine h3.congr fun k => ?_
      rw [if_neg (by decide), if_pos e]
     ·
      obtain ⟨v, h3, h4⟩ := hj2 (x == 10)
      refine ⟨v, Ev.succ ?_, h4⟩
      unfold message_Body.j1
      refine h3.congr fun k => ?_
      rw [if_neg (by decide), if_neg e]
   obtain ⟨v, h3, h4⟩ := hj1 (rd b i) (if rd b i = 13 ∧ i + 1 < b.length then (rd b ((i + 1 : Nat) : Int) == 10) else false)
   refine ⟨v, Ev.succ ?_, h4⟩
   unfold message_Body.l0
   refine h3.congr fun k => ?_
   rw [if_pos (by omega), if_pos (by omega), hw]
   by_cases e : rd b i = 13
   ·
    rw [if_pos e]
    by_cases e2 : i + 1 < b.length
    ·
     rw [if_pos (by omega), if_pos (by omega), if_pos ⟨e, e2⟩]
    ·
     rw [if_neg (by omega), if_neg (fun h => e2 h.2)]
   ·
    rw [if_neg e, if_neg (fun h => e h.1)]
  ·
   refine ⟨(0, 0), Ev.succ (Ev.const fun k => ?_), fun _ => rfl⟩
   unfold message_Body.l0
   rw [if_neg (by omega)]
/-- Lines as they are written. -/
def wr (ls : List ByteArray) : List Int := ls.flatMap fun s => bytesOf s ++ [13, 10]
theorem wr_lns : ∀ n (s : ByteArray) (fr : Nat), 1 ≤ fr → fr ≤ 78 → (wr (lns n s fr)).length ≤ 3 * s.size
 | 0, s, fr, _, _ => Nat.zero_le _
 | n + 1, s, fr, h1, h2 => by
  unfold lns
  split
  ·
   exact Nat.zero_le _
  ·
   rename_i e
   obtain ⟨b1, b2⟩ := cutN_bound (by_ s) fr (by rw [by_len]; omega) h1 h2
   rw [by_len] at b2
   have ih := wr_lns n (s.extract (cutN (by_ s) fr) s.size) 1 (Nat.le_refl _) (by omega)
   unfold wr at ih ⊢
   rw [List.flatMap_cons, List.length_append, List.length_append, bytesOf_length]
   have e1 : (s.extract 0 (cutN (by_ s) fr)).size = cutN (by_ s) fr := by simp; omega
   have e2 : (s.extract (cutN (by_ s) fr) s.size).size = s.size - cutN (by_ s) fr := by simp
   rw [e2] at ih
   rw [e1]
   simp only [List.length_cons, List.length_nil]
   omega
def hb (l : List S141) : List Int := l.flatMap fun x => wr (fln x.f0 x.f1)
theorem wr_fln (a b : ByteArray) (ha : a.size ≤ 60) (hb : b.size ≤ 4000) : (wr (fln a b)).length ≤ 12186 ∧ (fln a b).length ≤ 4062 := by
 have h1 := wr_lns ((a ++ (⟨#[58, 32]⟩ : ByteArray)) ++ b).size ((a ++ (⟨#[58, 32]⟩ : ByteArray)) ++ b) (a.size + 2) (by omega) (by omega)
 have h2 := fln_len a b
 rw [size3] at h1
 unfold fln
 constructor
 ·
  rw [size3]; omega
 ·
  unfold fln at h2; omega
theorem hb_len : ∀ l : List S141, (∀ x ∈ l, fc x.f0 x.f1 = 0) → (hb l).length ≤ l.length * 12186
 | [], _ => Nat.le_refl _
 | x :: l, h => by
  obtain ⟨h1, h2⟩ := fc_zero (h x (List.mem_cons_self ..))
  have := hb_len l (fun y hy => h y (List.mem_cons_of_mem _ hy))
  have := (wr_fln x.f0 x.f1 h1 h2).1
  unfold hb at *
  rw [List.flatMap_cons, List.length_append, List.length_cons]
  omega
section
variable (l : List S141) (hl : l.length ≤ 60) (hz : ∀ x ∈ l, fc x.f0 x.f1 = 0)
theorem crlf_bytes : bytesOf (⟨#[13, 10]⟩ : ByteArray) = [13, 10] := by decide +kernel
theorem hb_inner (ls : List ByteArray) (hls : ls.length ≤ 4062) (i : Int) (v : List Int) : ∀ d j out, j + d = ls.length → out.length + (wr (ls.drop j)).length ≤ 10000000 → Ev (fun k => header_Bytes.l0 k (out ++ wr (ls.drop j)) l (l.length : Int) (wrap64 (i + 1))) v → Ev (fun k => header_Bytes.l1 k out l (l.length : Int) i ls (ls.length : Int) (j : Int)) v
 | 0, j, out, h, hn, hv => by
  rw [List.drop_eq_nil_of_le (by omega), show wr [] = [] from rfl, List.append_nil] at hv
  refine Ev.succ ?_
  unfold header_Bytes.l1
  refine hv.congr fun k => ?_
  rw [if_neg (by omega)]
 | d + 1, j, out, h, hn, hv => by
  have hj : j < ls.length := by omega
  have hw : wrap64 ((j : Int) + 1) = ((j + 1 : Nat) : Int) := by rw [w64 _ (by omega)]; omega
  have hc : wr (ls.drop j) = (bytesOf ls[j] ++ [13, 10]) ++ wr (ls.drop (j + 1)) := by
   rw [List.drop_eq_getElem_cons hj]
   unfold wr
   rw [List.flatMap_cons]
  rw [hc] at hn hv
  rw [List.length_append, List.length_append, bytesOf_length] at hn
  simp only [List.length_cons, List.length_nil] at hn
  have ih := hb_inner ls hls i v d (j + 1) (out ++ bytesOf ls[j] ++ [13, 10]) (by omega) (by rw [List.length_append, List.length_append, bytesOf_length]; simp only [List.length_cons, List.length_nil]; omega) (by
   have : out ++ bytesOf ls[j] ++ [13, 10] ++ wr (ls.drop (j + 1)) = out ++ (bytesOf ls[j] ++ [13, 10] ++ wr (ls.drop (j + 1))) := by simp only [List.append_assoc]
   rw [this]; exact hv)
  refine Ev.succ ?_
  unfold header_Bytes.l1
  refine ih.congr fun k => ?_
  rw [if_pos (by omega), if_pos (by omega), if_pos (by omega), rdO_get hj, if_pos (by omega), Option.bind_some, if_pos (by rw [List.length_append, bytesOf_length]; omega), crlf_bytes, hw]
include hl hz in
theorem hb_outer : ∀ d i out, i + d = l.length → out.length + (hb (l.drop i)).length ≤ 9000000 → Ev (fun k => header_Bytes.l0 k out l (l.length : Int) (i : Int)) (out ++ hb (l.drop i) ++ [13, 10])
 | 0, i, out, h, hn => by
  rw [List.drop_eq_nil_of_le (by omega), show hb [] = [] from rfl, List.append_nil] at *
  refine Ev.succ (Ev.const fun k => ?_)
  unfold header_Bytes.l0
  rw [if_neg (by omega), if_pos (by rw [List.length_nil] at hn; omega), crlf_bytes]
 | d + 1, i, out, h, hn => by
  have hi : i < l.length := by omega
  have hw : wrap64 ((i : Int) + 1) = ((i + 1 : Nat) : Int) := by rw [w64 _ (by omega)]; omega
  have hc : hb (l.drop i) = wr (fln (l[i]).f0 (l[i]).f1) ++ hb (l.drop (i + 1)) := by
   rw [List.drop_eq_getElem_cons hi]
   unfold hb
   rw [List.flatMap_cons]
  obtain ⟨h1, h2⟩ := fc_zero (hz _ (List.getElem_mem hi))
  obtain ⟨h3, h4⟩ := wr_fln _ _ h1 h2
  rw [hc] at hn ⊢
  rw [List.length_append] at hn
  have ih := hb_outer d (i + 1) (out ++ wr (fln (l[i]).f0 (l[i]).f1)) (by omega) (by rw [List.length_append]; omega)
  refine Ev.succ ?_
  unfold header_Bytes.l0
  simp only [if_pos (show (i : Int) < (l.length : Int) by omega), if_pos (show (0 : Int) ≤ (i : Int) by omega), rd141 hi]
  refine Ev.bind (fLines_ev _ _ h1 h2) ?_
  refine hb_inner l (fln (l[i]).f0 (l[i]).f1) h4 i _ (fln (l[i]).f0 (l[i]).f1).length 0 out (by omega) (by rw [List.drop_zero]; omega) ?_
  rw [List.drop_zero, hw]
  rw [List.append_assoc out] at ih
  exact ih
theorem mb_inner (b : List Int) (ls : List ByteArray) (hls : ls.length ≤ 4062) (i : Int) (v : List Int) : ∀ d j out, j + d = ls.length → out.length + (wr (ls.drop j)).length ≤ 10000000 → Ev (fun k => posthouseref3_MessageBytes.l0 k (out ++ wr (ls.drop j)) (wrap64 (i + 1)) l b) v → Ev (fun k => posthouseref3_MessageBytes.l1 k out i ls (j : Int) l b) v
 | 0, j, out, h, hn, hv => by
  rw [List.drop_eq_nil_of_le (by omega), show wr [] = [] from rfl, List.append_nil] at hv
  refine Ev.succ ?_
  unfold posthouseref3_MessageBytes.l1
  refine hv.congr fun k => ?_
  rw [if_neg (by omega)]
 | d + 1, j, out, h, hn, hv => by
  have hj : j < ls.length := by omega
  have hw : wrap64 ((j : Int) + 1) = ((j + 1 : Nat) : Int) := by rw [w64 _ (by omega)]; omega
  have hc : wr (ls.drop j) = (bytesOf ls[j] ++ [13, 10]) ++ wr (ls.drop (j + 1)) := by
   rw [List.drop_eq_getElem_cons hj]
   unfold wr
   rw [List.flatMap_cons]
  rw [hc] at hn hv
  rw [List.length_append, List.length_append, bytesOf_length] at hn
  simp only [List.length_cons, List.length_nil] at hn
  have ih := mb_inner b ls hls i v d (j + 1) (out ++ bytesOf ls[j] ++ [13, 10]) (by omega) (by rw [List.length_append, List.length_append, bytesOf_length]; simp only [List.length_cons, List.length_nil]; omega) (by
   have : out ++ bytesOf ls[j] ++ [13, 10] ++ wr (ls.drop (j + 1)) = out ++ (bytesOf ls[j] ++ [13, 10] ++ wr (ls.drop (j + 1))) := by simp only [List.append_assoc]
   rw [this]; exact hv)
  refine Ev.succ ?_
  unfold posthouseref3_MessageBytes.l1
  refine ih.congr fun k => ?_
  rw [if_pos (by omega), if_pos (by omega), rdO_get hj, if_pos (by omega), Option.bind_some, Option.bind_some, if_pos (by rw [List.length_append, bytesOf_length]; simp only [List.length_cons, List.length_nil]; omega), hw]
include hl hz in
theorem mb_outer (b : List Int) (hbl : b.length ≤ 12000) : ∀ d i out, i + d = l.length → out.length + (hb (l.drop i)).length ≤ 9000000 → Ev (fun k => posthouseref3_MessageBytes.l0 k out (i : Int) l b) (out ++ hb (l.drop i) ++ [13, 10] ++ b)
 | 0, i, out, h, hn => by
  rw [List.drop_eq_nil_of_le (by omega), show hb [] = [] from rfl, List.append_nil] at *
  rw [List.length_nil] at hn
  refine Ev.succ (Ev.const fun k => ?_)
  unfold posthouseref3_MessageBytes.l0
  rw [if_neg (by omega), Option.bind_some, if_pos (by simp only [List.length_cons, List.length_nil]; omega), Option.bind_some, if_pos (by rw [List.length_append]; simp only [List.length_cons, List.length_nil]; omega)]
 | d + 1, i, out, h, hn => by
  have hi : i < l.length := by omega
  have hw : wrap64 ((i : Int) + 1) = ((i + 1 : Nat) : Int) := by rw [w64 _ (by omega)]; omega
  have hc : hb (l.drop i) = wr (fln (l[i]).f0 (l[i]).f1) ++ hb (l.drop (i + 1)) := by
   rw [List.drop_eq_getElem_cons hi]
   unfold hb
   rw [List.flatMap_cons]
  obtain ⟨h1, h2⟩ := fc_zero (hz _ (List.getElem_mem hi))
  obtain ⟨h3, h4⟩ := wr_fln _ _ h1 h2
  rw [hc] at hn ⊢
  rw [List.length_append] at hn
  have ih := mb_outer b hbl d (i + 1) (out ++ wr (fln (l[i]).f0 (l[i]).f1)) (by omega) (by rw [List.length_append]; omega)
  refine Ev.succ ?_
  unfold posthouseref3_MessageBytes.l0
  simp only [if_pos (show (i : Int) < (l.length : Int) by omega), if_pos (show (0 : Int) ≤ (i : Int) by omega), rd141 hi]
  refine Ev.bind (rLines_ev _ _ h1 h2) ?_
  refine mb_inner l b (fln (l[i]).f0 (l[i]).f1) h4 i _ (fln (l[i]).f0 (l[i]).f1).length 0 out (by omega) (by rw [List.drop_zero]; omega) ?_
  rw [List.drop_zero, hw]
  rw [List.append_assoc out] at ih
  exact ih
end
theorem Message_ev (l : List S141) (b : List Int) (hs : nameOk l) (hbl : b.length ≤ 140737488351232) : ∃ v : Int × Int, Ev (fun k => message_Validate.f k l b) v ∧ Ev (fun k => posthouseref3_MessageFault.f k l b) v ∧ (v.1 = 0 → v = (0, 0)) := by
 unfold message_Validate.f header_Validate.f posthouseref3_MessageFault.f
 by_cases hl : l.length ≤ 60
 ·
  simp only [if_neg (show ¬ (l.length : Int) > 60 by omega)]
  have hv := hv_loop l hl hs l.length 0 (by omega)
  rw [List.drop_zero] at hv
  by_cases e : (hfl l 0).1 = 0
  ·
   obtain ⟨e1, hz⟩ := hfl_code l 0 e
   have hlen := hb_len l hz
   rw [e1] at hv
   by_cases e2 : b.length ≤ 12000
   ·
    have h1 := hb_outer l hl hz l.length 0 [] (by omega) (by rw [List.drop_zero, List.length_nil]; omega)
    have h2 := mb_outer l hl hz b e2 l.length 0 [] (by omega) (by rw [List.drop_zero, List.length_nil]; omega)
    rw [List.drop_zero, List.nil_append] at h1 h2
    have hlen2 : (hb l ++ [13, 10]).length = (hb l).length + 2 := by rw [List.length_append]; rfl
    have hlen3 : (hb l ++ [13, 10] ++ b).length = (hb l).length + 2 + b.length := by rw [List.length_append, hlen2]
    have hw : wrap64 (((hb l ++ [13, 10]).length : Int) + (b.length : Int)) = (((hb l ++ [13, 10] ++ b).length : Nat) : Int) := by
     rw [hlen2, hlen3, w64 _ (by omega)]
     omega
    by_cases e3 : (hb l ++ [13, 10] ++ b).length > 12000
    ·
     have hj : Ev (fun k => posthouseref3_MessageFault.j1 k true l b) (1, -4) := by
      refine Ev.succ (Ev.const fun k => ?_)
      unfold posthouseref3_MessageFault.j1
      rfl
     refine ⟨(1, -4), ?_, ?_, fun h => by cases h⟩
     ·
      refine Ev.bind hv (Ev.congr (f := fun k => (header_Bytes.f k l).bind fun t242 => if wrap64 ((t242.length : Int) + (b.length : Int)) > 12000 then some (1, -4) else (message_Body.f k b).bind fun bt245 => some (bt245.1, bt245.2)) (Ev.bind h1 (Ev.const fun k => ?_)) fun k => ?_)
      ·
       rw [hw, if_pos (by omega)]
      ·
       rw [if_neg (by decide), if_neg (by omega)]
     ·
      have := mf_loop l b (1, -4) hl hs (fun _ => ?_) l.length 0 (by omega) (by rw [List.drop_zero]; exact id)
      ·
       rw [List.drop_zero, if_pos e] at this
       exact this
      ·
       refine Ev.congr (f := fun k => (posthouseref3_MessageBytes.f k l b).bind fun t310 => posthouseref3_MessageFault.j1 k (decide ((t310.length : Int) > 12000)) l b) (Ev.bind h2 (hj.congr fun k => ?_)) fun k => ?_
       ·
        rw [decide_eq_true (by omega)]
       ·
        rw [if_neg (by omega)]
    ·
     obtain ⟨v, hb1, hb2⟩ := body_ends b (by omega) (b.length) 0 0 (by omega) (by omega)
     have hb3 : Ev (fun k => message_Body.f k b) v := hb1
     have hb4 : Ev (fun k => posthouseref3_MessageFault.l1 k 0 0 l b) v := hb1.congr fun k => ((body_same l b k).1 0 0).symm
     refine ⟨v, ?_, ?_, hb2⟩
     ·
      refine Ev.bind hv (Ev.congr (f := fun k => (header_Bytes.f k l).bind fun t242 => if wrap64 ((t242.length : Int) + (b.length : Int)) > 12000 then some (1, -4) else (message_Body.f k b).bind fun bt245 => some (bt245.1, bt245.2)) (Ev.bind h1 ?_) fun k => ?_)
      ·
       refine Ev.congr (f := fun k => (message_Body.f k b).bind fun bt245 => some (bt245.1, bt245.2)) (Ev.bind hb3 (Ev.some_ _)) fun k => ?_
       rw [hw, if_neg (by omega)]
      ·
       rw [if_neg (by decide), if_neg (by omega)]
     ·
      have := mf_loop l b v hl hs (fun _ => ?_) l.length 0 (by omega) (by rw [List.drop_zero]; exact id)
      ·
       rw [List.drop_zero, if_pos e] at this
       exact this
      ·
       refine Ev.congr (f := fun k => (posthouseref3_MessageBytes.f k l b).bind fun t310 => posthouseref3_MessageFault.j1 k (decide ((t310.length : Int) > 12000)) l b) (Ev.bind h2 ?_) fun k => ?_
       ·
        simp only [decide_eq_false (show ¬ ((hb l ++ [13, 10] ++ b).length : Int) > 12000 by omega)]
        refine Ev.succ ?_
        unfold posthouseref3_MessageFault.j1
        simp only [Bool.false_eq_true, if_false]
        exact hb4
       ·
        rw [if_neg (by omega)]
   ·
    have hj : Ev (fun k => posthouseref3_MessageFault.j1 k true l b) (1, -4) := by
     refine Ev.succ (Ev.const fun k => ?_)
     unfold posthouseref3_MessageFault.j1
     rfl
    refine ⟨(1, -4), ?_, ?_, fun h => by cases h⟩
    ·
     refine Ev.bind hv (Ev.const fun k => ?_)
     rw [if_neg (by decide), if_pos (by omega)]
    ·
     have := mf_loop l b (1, -4) hl hs (fun _ => ?_) l.length 0 (by omega) (by rw [List.drop_zero]; exact id)
     ·
      rw [List.drop_zero, if_pos e] at this
      exact this
     ·
      refine hj.congr fun k => ?_
      rw [if_pos (by omega)]
  ·
   refine ⟨hfl l 0, ?_, ?_, fun h => absurd h e⟩
   ·
    refine Ev.bind hv (Ev.const fun k => ?_)
    have hbq : ((hfl l 0).1 == 0) = false := by simpa using e
    rw [hbq]
    rfl
   ·
    have := mf_loop l b (0, 0) hl hs (fun h => absurd h e) l.length 0 (by omega) (by rw [List.drop_zero]; exact id)
    rw [List.drop_zero, if_neg e] at this
    exact this
 ·
  simp only [if_pos (show (l.length : Int) > 60 by omega)]
  exact ⟨(2, -1), Ev.const fun k => rfl, Ev.const fun k => rfl, fun h => by cases h⟩

theorem pure : posthouselaw3_EnvelopeMatchesSpec.PureX := by
 intro x hwf
 obtain ⟨⟨ha, hl, hc⟩, hf, hb⟩ := hwf
 have hs : ∀ y ∈ x.f0.f1, y.f0.size ≤ 140737488351232 := fun y hy => (hl.2 y hy).1
 have hn : nameOk x.f1.f0 := fun y hy => (hf.2 y hy).1
 obtain ⟨v, h1, h2, h3⟩ := Message_ev x.f1.f0 x.f1.f1 hn (by have := hb.1; omega)
 have hV := Validate_ev x.f0.f0 x.f0.f1 x.f0.f2 ha hs hc
 have hE := EnvelopeFault_ev x.f0.f0 x.f0.f1 x.f0.f2 ha hs hc
 have hC : Ev (fun k => envelope_Check.f k x.f0.f0 x.f0.f1 x.f0.f2 x.f1.f0 x.f1.f1) (if (efl x.f0.f0 x.f0.f1 x.f0.f2).1 = 0 then (if v.1 = 0 then (0, 0) else (v.1, -30)) else efl x.f0.f0 x.f0.f1 x.f0.f2) := by
  unfold envelope_Check.f
  refine Ev.bind hV ?_
  by_cases e : (efl x.f0.f0 x.f0.f1 x.f0.f2).1 = 0
  ·
   obtain ⟨e1, _⟩ := efl_code e
   rw [if_pos e, e1]
   simp only [if_neg (show ¬ (!((0 : Int) == 0) || (!((0 : Int) == 0))) = true by decide)]
   refine Ev.bind h1 ?_
   by_cases e2 : v.1 = 0
   ·
    rw [if_pos e2, h3 e2]
    exact Ev.const fun k => rfl
   ·
    rw [if_neg e2]
    refine Ev.const fun k => ?_
    rw [show (v.1 == 0) = false by simpa using e2]
    rfl
  ·
   rw [if_neg e]
   refine Ev.const fun k => ?_
   rw [show ((efl x.f0.f0 x.f0.f1 x.f0.f2).1 == 0) = false by simpa using e]
   rfl
 have hM : Ev (fun k => posthouseref3_MailFault.f k x.f0.f0 x.f0.f1 x.f0.f2 x.f1.f0 x.f1.f1) (if (efl x.f0.f0 x.f0.f1 x.f0.f2).1 = 0 then (if v.1 = 0 then (0, 0) else (v.1, -30)) else efl x.f0.f0 x.f0.f1 x.f0.f2) := by
  unfold posthouseref3_MailFault.f
  refine Ev.bind hE ?_
  by_cases e : (efl x.f0.f0 x.f0.f1 x.f0.f2).1 = 0
  ·
   obtain ⟨e1, _⟩ := efl_code e
   rw [if_pos e, e1]
   simp only [if_true]
   refine Ev.bind h2 ?_
   refine Ev.succ ?_
   unfold posthouseref3_MailFault.j0
   by_cases e2 : v.1 = 0
   ·
    rw [if_pos e2]
    refine Ev.const fun k => ?_
    rw [show (v.1 != 0) = false by simpa using e2]
    rfl
   ·
    rw [if_neg e2]
    have hb : (v.1 != 0) = true := by simpa using e2
    simp only [hb, if_true]
    exact Ev.bind h2 (Ev.const fun k => rfl)
  ·
   rw [if_neg e]
   simp only [if_neg e]
   refine Ev.succ (Ev.const fun k => ?_)
   unfold posthouseref3_MailFault.j0
   rfl
 refine Ev.ex ?_
 unfold posthouselaw3_EnvelopeMatchesSpec.f
 refine Ev.bind envelopes_ev ?_
 simp only [if_true]
 refine Ev.bind hV (Ev.bind hE ?_)
 have hfin : Ev (fun k => (envelope_Check.f k x.f0.f0 x.f0.f1 x.f0.f2 x.f1.f0 x.f1.f1).bind fun bt338 => (posthouseref3_MailFault.f k x.f0.f0 x.f0.f1 x.f0.f2 x.f1.f0 x.f1.f1).bind fun bt340 => some (bt338.1 == bt340.1 && (bt338.2 == bt340.2))) true := Ev.bind hC (Ev.bind hM (Ev.const fun k => by simp))
 refine hfin.congr fun k => ?_
 rw [if_pos (by simp)]

end Go.Proofs.YtbmeebhcanknmaaDoor.XEvm.PEnvelopeMatchesSpec
