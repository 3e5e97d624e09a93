/- The envelopes for all domains have all recipients, each once: for every envelope within reach the law's own function answers true. -/
import Derived.Test.YtbmeebhcanknmaaDoorXJoiSEnvelopesOfDomainsJoin
import Derived.Test.YtbmeebhcanknmaaDoorVJoia
namespace Go.Proofs.YtbmeebhcanknmaaDoor.XJoi.PEnvelopesOfDomainsJoin
open Go Go.RowKit Go.Proofs.YtbmeebhcanknmaaDoorW.PrintWords Go.Proofs.YtbmeebhcanknmaaDoor.XJoi
set_option linter.unusedVariables false
set_option linter.unusedSimpArgs false
/-- From some number of rounds on. -/
def Ev {β : Type} (f : Nat → Option β) (v : β) : Prop := ∃ K, ∀ k, K ≤ k → f k = some v
theorem Ev.const {β : Type} {f : Nat → Option β} {v : β} (h : ∀ k, f k = some v) : Ev f v := ⟨0, fun k _ => h k⟩
theorem Ev.some_ {β : Type} (v : β) : Ev (fun _ => some v) v := .const fun _ => rfl
theorem Ev.bind {α β : Type} {f : Nat → Option α} {g : Nat → α → Option β} {a : α} {v : β} (h : Ev f a) (h2 : Ev (fun k => g k a) v) : Ev (fun k => (f k).bind (g k)) v := by
  obtain ⟨K, hK⟩ := h
  obtain ⟨M, hM⟩ := h2
  refine ⟨max K M, fun k hk => ?_⟩
  show (f k).bind (g k) = some v
  rw [hK k (by omega)]
  exact hM k (by omega)
theorem Ev.succ {β : Type} {f : Nat → Option β} {v : β} (h : Ev (fun k => f (k + 1)) v) : Ev f v := by
  obtain ⟨K, hK⟩ := h
  refine ⟨K + 1, fun k hk => ?_⟩
  obtain ⟨k, rfl⟩ : ∃ j, k = j + 1 := ⟨k - 1, by omega⟩
  exact hK k (by omega)
theorem Ev.congr {β : Type} {f g : Nat → Option β} {v : β} (h : Ev f v) (e : ∀ k, g k = f k) : Ev g v := by
  obtain ⟨K, hK⟩ := h
  exact ⟨K, fun k hk => (e k).trans (hK k hk)⟩
theorem Ev.val {β : Type} {f : Nat → Option β} {v v' : β} (h : Ev f v) (e : v = v') : Ev f v' := e ▸ h
theorem Ev.ex {β : Type} {f : Nat → Option β} {v : β} (h : Ev f v) : ∃ k, f k = some v := by
  obtain ⟨K, hK⟩ := h
  exact ⟨K, hK K (Nat.le_refl _)⟩
theorem w64 (n : Int) (h : -9223372036854775808 ≤ n ∧ n ≤ 9223372036854775807) : wrap64 n = n := by unfold wrap64; omega
/-- A text's bytes, as natural numbers. -/
def by_ (a : ByteArray) : List Nat := a.data.toList.map UInt8.toNat
theorem by_len (a : ByteArray) : (by_ a).length = a.size := by unfold by_; rw [List.length_map]; exact Array.length_toList
theorem by_lt (a : ByteArray) : ∀ n ∈ by_ a, n < 256 := by
  intro n hn
  obtain ⟨b, _, rfl⟩ := List.mem_map.1 hn
  exact b.toNat_lt
theorem bt_by (a : ByteArray) (i : Nat) (h : i < a.size) : bt a i = ((by_ a)[i]'(by rw [by_len]; exact h) : Nat) := by
  unfold bt
  rw [dif_pos (by simpa using h)]
  simp [by_]
  rfl

def okl (n : Nat) : Bool := decide (97 ≤ n ∧ n ≤ 122) || decide (65 ≤ n ∧ n ≤ 90) || decide (48 ≤ n ∧ n ≤ 57) || n == 45 || n == 95 || n == 46 || n == 43 || n == 61
def isLet (n : Nat) : Bool := decide (97 ≤ n ∧ n ≤ 122) || decide (65 ≤ n ∧ n ≤ 90)
def isDig (n : Nat) : Bool := decide (48 ≤ n ∧ n ≤ 57)
theorem letter_val (n : Nat) : envelope_letter.f (n : Int) = some (isLet n) := by
  unfold envelope_letter.f isLet
  repeat' split
  all_goals (congr 1; rw [Bool.eq_iff_iff]; simp; try omega)
theorem digit_val (n : Nat) : envelope_digit.f (n : Int) = some (isDig n) := by
  unfold envelope_digit.f isDig
  repeat' split
  all_goals (congr 1; rw [Bool.eq_iff_iff]; simp; try omega)
theorem local_body : ∀ n : Nat, n < 256 → (strings_IndexByte.f (⟨#[45, 95, 46, 43, 61]⟩ : ByteArray) (n : Int)).map (fun t => decide (t < 0)) = some (!(n == 45 || n == 95 || n == 46 || n == 43 || n == 61)) := by decide +kernel
def lenOk (n : Nat) : Bool := decide (1 ≤ n ∧ n ≤ 60)
theorem isLocal_loop (a : ByteArray) (hs : a.size ≤ 140737488351232) : ∀ d i, i + d = a.size → Ev (fun k => envelope_isLocal.l0 k a (a.size : Int) (i : Int)) (((by_ a).drop i).all okl && lenOk a.size)
  | 0, i, h => by
    refine Ev.succ (Ev.const fun k => ?_)
    unfold envelope_isLocal.l0
    rw [if_neg (by omega), List.drop_eq_nil_of_le (by rw [by_len]; omega)]
    unfold lenOk
    split
    all_goals (congr 1; rw [Bool.eq_iff_iff]; simp; omega)
  | d + 1, i, h => by
    have ih := isLocal_loop a hs d (i + 1) (by omega)
    have hi : i < (by_ a).length := by rw [by_len]; omega
    refine Ev.succ ?_
    unfold envelope_isLocal.l0
    have h2 : wrap64 ((i : Int) + 1) = ((i + 1 : Nat) : Int) := by rw [w64 _ (by omega)]; omega
    simp only [if_pos (show (i : Int) < (a.size : Int) by omega), if_pos (show (0 : Int) ≤ (i : Int) by omega), bt_by a i (by omega), letter_val, digit_val, h2, Option.bind_some]
    have hlt := by_lt a _ (List.getElem_mem hi)
    rw [List.drop_eq_getElem_cons hi, List.all_cons]
    generalize (by_ a)[i] = n at hlt ⊢
    have hb := local_body n hlt
    obtain ⟨t, ht, htb⟩ := Option.map_eq_some_iff.1 hb
    simp only [ht, Option.bind_some]
    by_cases h1 : isLet n = true
    · have : okl n = true := by unfold okl; unfold isLet at h1; simp only [h1, Bool.true_or]
      simp only [h1, if_true, this, Bool.true_and]
      exact ih
    · by_cases h3 : isDig n = true
      · have : okl n = true := by unfold okl; unfold isDig at h3; simp only [h3, Bool.true_or, Bool.or_true]
        simp only [h1, h3, if_true, this, Bool.true_and]
        exact ih
      · by_cases h4 : t < 0
        · have : okl n = false := by
            unfold okl
            unfold isLet at h1
            unfold isDig at h3
            rw [decide_eq_true h4] at htb
            simp only [Bool.not_eq_true] at h1 h3
            simp only [h1, h3, Bool.false_or]
            simpa using htb.symm
          simp only [h1, h3, h4, if_true, this, Bool.false_and]
          exact Ev.some_ _
        · have : okl n = true := by
            unfold okl
            unfold isLet at h1
            unfold isDig at h3
            rw [decide_eq_false h4] at htb
            simp only [Bool.not_eq_true] at h1 h3
            simp only [h1, h3, Bool.false_or]
            cases hx : (n == 45 || n == 95 || n == 46 || n == 43 || n == 61) with
            | true => rfl
            | false => rw [hx] at htb; cases htb
          simp only [h1, h3, h4, if_false, this, Bool.true_and]
          exact ih
theorem isLocal_ev (a : ByteArray) (hs : a.size ≤ 140737488351232) : Ev (fun k => envelope_isLocal.f k a) ((by_ a).all okl && lenOk a.size) := by
  have := isLocal_loop a hs a.size 0 (by omega)
  simpa [envelope_isLocal.f] using this

def okc (n : Nat) : Bool := decide (97 ≤ n ∧ n ≤ 122) || decide (48 ≤ n ∧ n ≤ 57) || n == 45
/-- A domain's letters; b: a label begins here. -/
def dz : Bool → List Nat → Bool
  | b, [] => !b
  | b, c :: l => if c = 46 then !b && dz true l else okc c && dz false l
/-- The split says the same. -/
theorem okc_C (b : UInt8) : IsDomainX.okC (b.toNat : Int) = okc b.toNat := by
  unfold IsDomainX.okC okc
  rw [Bool.eq_iff_iff]
  simp
  omega
theorem all_split : ∀ l : List UInt8, ((SplitSeq.split1 46 l).all IsDomainX.okL = dz true (l.map UInt8.toNat)) ∧ ∃ h t, SplitSeq.split1 46 l = h :: t ∧ ((h.all fun c => IsDomainX.okC (c.toNat : Int)) && t.all IsDomainX.okL) = dz false (l.map UInt8.toNat)
  | [] => by
    refine ⟨by decide, [], [], ?_, by decide⟩
    rfl
  | c :: l => by
    obtain ⟨h1, h, t, h2, h3⟩ := all_split l
    by_cases hc : c = 46
    · subst hc
      have e : SplitSeq.split1 46 (46 :: l) = [] :: SplitSeq.split1 46 l := by rw [SplitSeq.split1, if_pos (by decide)]
      refine ⟨?_, [], _, e, ?_⟩
      · rw [e, List.all_cons, List.map_cons, show (46 : UInt8).toNat = 46 from rfl, dz, if_pos rfl]
        rw [show IsDomainX.okL [] = false by decide]
        rfl
      · rw [h1, List.map_cons, show (46 : UInt8).toNat = 46 from rfl, dz, if_pos rfl]
        rfl
    · have e : SplitSeq.split1 46 (c :: l) = (c :: h) :: t := by rw [SplitSeq.split1, if_neg (by simpa using hc), h2]
      have hn : c.toNat ≠ 46 := fun he => hc (UInt8.toNat_inj.1 (by rw [he]; rfl))
      have hd : ∀ b, dz b ((c :: l).map UInt8.toNat) = (okc c.toNat && dz false (l.map UInt8.toNat)) := fun b => by rw [List.map_cons, dz, if_neg hn]
      refine ⟨?_, c :: h, t, e, ?_⟩
      · rw [e, hd, ← h3, List.all_cons, ← okc_C, IsDomainX.okL, List.all_cons]
        simp [Bool.and_assoc]
      · rw [hd, ← h3, List.all_cons, okc_C, Bool.and_assoc]
theorem IsDomain_val (a : ByteArray) : envelope_IsDomain.f a = some (dz true (by_ a) && decide (a.size ≤ 60)) := by
  unfold envelope_IsDomain.f
  congr 1
  unfold IsDomainX.okD
  rw [(all_split _).1]
  by_cases h : 60 < a.size
  · rw [if_pos (by omega), decide_eq_false (by omega)]; simp
  · rw [if_neg (by omega), decide_eq_true (by omega)]; simp [by_]
theorem dz_nil {l : List Nat} (h : dz true l = true) : 1 ≤ l.length := by
  cases l with
  | nil => simp [dz] at h
  | cons c l => simp

def pos (L : List Nat) : Nat := L.findIdx (· == 64)
theorem pos_le (L : List Nat) : pos L ≤ L.length := List.findIdx_le_length
/-- An address, on its bytes. -/
def adr (L : List Nat) : Bool := (L.take (pos L)).all okl && lenOk (pos L) && decide (pos L < L.length) && (dz true (L.drop (pos L + 1)) && lenOk (L.length - (pos L + 1)))
theorem by_extract (a : ByteArray) (i j : Nat) (h : j ≤ a.size) : by_ (a.extract i j) = ((by_ a).drop i).take (j - i) := by
  unfold by_
  rw [← List.map_drop, ← List.map_take]
  congr 1
  rw [ByteArray.data_extract, Array.toList_extract, List.extract_eq_take_drop]
theorem index_pos : ∀ l : List UInt8, Lib.index l [64] = if pos (l.map UInt8.toNat) < l.length then (pos (l.map UInt8.toNat) : Int) else -1
  | [] => by decide
  | b :: l => by
    have ih := index_pos l
    unfold Lib.index
    unfold pos at ih ⊢
    rw [List.map_cons, List.findIdx_cons]
    by_cases hb : b = 64
    · subst hb
      rw [if_pos (by simp [List.isPrefixOf])]
      rw [show ((64 : UInt8).toNat == 64) = true from rfl]
      simp
    · have h1 : (b.toNat == 64) = false := by
        rw [beq_eq_false_iff_ne]
        exact fun he => hb (UInt8.toNat_inj.1 (by rw [he]; rfl))
      rw [if_neg (by simp [List.isPrefixOf]; exact fun h => hb h.symm), ih, h1]
      by_cases h : List.findIdx (· == 64) (l.map UInt8.toNat) < l.length
      · rw [if_pos h, if_neg (by rw [beq_iff_eq]; omega), cond_false, if_pos (by rw [List.length_cons]; omega)]
        omega
      · rw [if_neg h, if_pos (by decide), cond_false, if_neg (by rw [List.length_cons]; omega)]
theorem Cut_val (a : ByteArray) (hs : a.size ≤ 140737488351232) : strings_Cut.f a ⟨#[64]⟩ = some (if pos (by_ a) < a.size then (a.extract 0 (pos (by_ a)), a.extract (pos (by_ a) + 1) a.size, true) else (a, ⟨#[]⟩, false)) := by
  unfold strings_Cut.f stringslite_Cut.f stringslite_Index.f
  have hi : Lib.index a.data.toList [64] = if pos (by_ a) < a.size then (pos (by_ a) : Int) else -1 := by
    rw [index_pos]; rfl
  rw [if_pos (by rfl), show (⟨#[64]⟩ : ByteArray).data.toList = [64] from rfl, hi]
  have hw : ∀ p : Nat, p < a.size → wrap64 ((p : Int) + (((⟨#[64]⟩ : ByteArray).size : Nat) : Int)) = ((p + 1 : Nat) : Int) := fun p hp => by
    rw [show (⟨#[64]⟩ : ByteArray).size = 1 from rfl, w64 _ (by omega)]; omega
  by_cases h : pos (by_ a) < a.size
  · rw [if_pos h, if_pos h]
    simp only [Option.bind_some, hw _ h]
    rw [if_pos (by omega), if_pos (by omega), if_pos (by omega), if_pos (by omega), if_pos (by omega)]
    simp
  · rw [if_neg h, if_neg h]
    simp
theorem IsAddress_ev (a : ByteArray) (hs : a.size ≤ 140737488351232) : Ev (fun k => envelope_IsAddress.f k a) (adr (by_ a)) := by
  unfold envelope_IsAddress.f
  rw [Cut_val a hs]
  simp only [Option.bind_some]
  by_cases h : pos (by_ a) < a.size
  · simp only [if_pos h, if_true]
    have h1 := isLocal_ev (a.extract 0 (pos (by_ a))) (by simp; omega)
    have hsz : (a.extract 0 (pos (by_ a))).size = pos (by_ a) := by simp; omega
    rw [by_extract _ _ _ (by omega), List.drop_zero, Nat.sub_zero, hsz] at h1
    have hx : (a.extract (pos (by_ a) + 1) a.size).size = a.size - (pos (by_ a) + 1) := by simp
    have h2 := IsDomain_val (a.extract (pos (by_ a) + 1) a.size)
    rw [by_extract _ _ _ (Nat.le_refl _), hx, List.take_of_length_le (by rw [List.length_drop, by_len]; omega)] at h2
    refine (Ev.bind h1 (v := adr (by_ a)) ?_)
    unfold adr
    rw [by_len, decide_eq_true h]
    by_cases h3 : (((by_ a).take (pos (by_ a))).all okl && lenOk (pos (by_ a))) = true
    · refine Ev.const fun k => ?_
      rw [if_pos h3, h2, h3]
      simp only [Option.bind_some, Bool.true_and, Bool.and_true]
      congr 1
      by_cases h4 : dz true ((by_ a).drop (pos (by_ a) + 1)) = true
      · have := dz_nil h4
        rw [List.length_drop, by_len] at this
        rw [h4, Bool.true_and, Bool.true_and]
        unfold lenOk
        rw [Bool.eq_iff_iff]; simp; omega
      · have h4' : dz true ((by_ a).drop (pos (by_ a) + 1)) = false := by simpa using h4
        rw [h4']; rfl
    · refine Ev.const fun k => ?_
      rw [if_neg h3]
      have h3' : (((by_ a).take (pos (by_ a))).all okl && lenOk (pos (by_ a))) = false := by simpa using h3
      rw [h3']; rfl
  · simp only [if_neg h]
    refine Ev.const fun k => ?_
    unfold adr
    rw [by_len, decide_eq_false h]
    simp

theorem Ev.of_mono {β : Type} {f : Nat → Option β} {v : β} {K : Nat} (h : f K = some v) (hm : ∀ k, LeO (f k) (f (k + 1))) : Ev f v := by
  refine ⟨K, fun k hk => ?_⟩
  obtain ⟨d, rfl⟩ : ∃ d, k = K + d := ⟨k - K, by omega⟩
  clear hk
  induction d with
  | zero => exact h
  | succ d ih => exact hm (K + d) _ ih
theorem envelopes_ev : Ev (fun k => posthouselaw3_envelopes.f k) true := Ev.of_mono (K := 60) (by decide +kernel) posthouselaw3_envelopes.mono

theorem tl_iff {a b : ByteArray} : a.toList = b.toList ↔ a = b := by
  constructor
  · intro h
    rw [ByteArray.toList_eq, ByteArray.toList_eq] at h
    exact Go.WideShapes.bytes_inj h
  · rintro rfl; rfl
/-- All conditions of an address in a list. -/
def orAll (n : Int) (a : ByteArray) : List S48 → Int
  | [] => n
  | r :: l => orAll (if r.f0 = a then Go.bits .or .i64 n r.f1 else n) a l
def hasA (out : List S48) (a : ByteArray) : Bool := out.any fun x => decide (x.f0 = a)
/-- As the reference unites. -/
def uni (out : List S48) : List S48 → List S48
  | [] => out
  | r :: l => if hasA out r.f0 = true then uni out l else uni (out ++ [⟨r.f0, orAll r.f1 r.f0 l⟩]) l
def upd (l : List S48) (out : List S48) : List S48 := out.map fun x => ⟨x.f0, orAll x.f1 x.f0 l⟩
theorem idx_has (out : List S48) (a : ByteArray) : UniteX.idx out a < out.length ↔ hasA out a = true := by
  unfold UniteX.idx hasA
  rw [List.findIdx_lt_length, List.any_eq_true]
theorem upd_has (l out : List S48) (a : ByteArray) : hasA (upd l out) a = hasA out a := by
  unfold hasA upd
  rw [List.any_map]
  rfl
theorem upd_nil (out : List S48) : upd [] out = out := by
  unfold upd
  have : (fun x : S48 => (⟨x.f0, orAll x.f1 x.f0 []⟩ : S48)) = id := rfl
  rw [this, List.map_id]
def dist (out : List S48) : Prop := (out.map S48.f0).Nodup
theorem step_dist {out : List S48} {r : S48} (h : dist out) : dist (UniteX.step out r) := by
  unfold UniteX.step
  split
  · rename_i hk
    unfold dist at h ⊢
    rw [List.map_set]
    have : (out.map S48.f0).set (UniteX.idx out r.f0) r.f0 = out.map S48.f0 := by
      refine List.ext_getElem (by simp) fun i h1 h2 => ?_
      rw [List.getElem_set]
      split
      · rename_i e
        subst e
        have := UniteX.rd_idx hk
        rw [UniteX.rd_get hk] at this
        rw [List.getElem_map, this]
      · rfl
    rw [this]
    exact h
  · rename_i hk
    unfold dist at h ⊢
    rw [List.map_append, List.nodup_append]
    refine ⟨h, by simp, ?_⟩
    intro a ha b hb e
    simp at hb
    subst hb e
    apply hk
    rw [idx_has]
    unfold hasA
    rw [List.any_eq_true]
    obtain ⟨x, hx, he⟩ := List.mem_map.1 ha
    exact ⟨x, hx, decide_eq_true he⟩
theorem upd_step {out : List S48} {r : S48} (l : List S48) (hd : dist out) : upd l (UniteX.step out r) = if hasA out r.f0 = true then upd (r :: l) out else upd (r :: l) out ++ [⟨r.f0, orAll r.f1 r.f0 l⟩] := by
  unfold UniteX.step
  by_cases hk : UniteX.idx out r.f0 < out.length
  · rw [if_pos hk, if_pos ((idx_has _ _).1 hk)]
    unfold upd
    refine List.ext_getElem (by simp) fun i h1 h2 => ?_
    rw [List.getElem_map, List.getElem_map, List.getElem_set]
    have hget := UniteX.rd_idx hk
    rw [UniteX.rd_get hk] at hget
    split
    · rename_i e
      subst e
      rw [UniteX.rd_get hk]
      simp only [orAll, hget, if_true]
    · rename_i e
      have hne : (out[i]'(by simpa using h2)).f0 ≠ r.f0 := by
        intro he
        unfold dist at hd
        have h3 : (out.map S48.f0)[i]'(by simpa using h2) = (out.map S48.f0)[UniteX.idx out r.f0]'(by simpa using hk) := by
          rw [List.getElem_map, List.getElem_map, hget, he]
        exact e ((List.getElem_inj hd).1 h3).symm
      have hne' : ¬ r.f0 = (out[i]'(by simpa using h2)).f0 := fun he => hne he.symm
      simp only [orAll, if_neg hne']
  · rw [if_neg hk, if_neg (fun h => hk ((idx_has _ _).2 h))]
    unfold upd
    rw [List.map_append]
    congr 1
    refine List.map_congr_left fun x hx => ?_
    have : ¬ r.f0 = x.f0 := fun he => hk ((idx_has _ _).2 (by unfold hasA; rw [List.any_eq_true]; exact ⟨x, hx, decide_eq_true he.symm⟩))
    simp only [orAll, if_neg this]
theorem go_uni : ∀ (l out : List S48), dist out → UniteX.go out l = uni (upd l out) l
  | [], out, _ => by rw [upd_nil]; rfl
  | r :: l, out, h => by
    unfold UniteX.go uni
    rw [go_uni l _ (step_dist h), upd_step l h, upd_has]
    split <;> rfl
theorem go_uni0 (l : List S48) : UniteX.go [] l = uni [] l := go_uni l [] (by simp [dist])

def in7 (n : Int) : Prop := 0 ≤ n ∧ n ≤ 7
theorem known_loop (out : List S48) (a : ByteArray) (hl : out.length ≤ 5864062014805) : ∀ d i, i + d = out.length → ∃ v : Int, Ev (fun k => posthouseref3_Known.l0 k out a (i : Int)) v ∧ (0 ≤ v ↔ hasA (out.drop i) a = true)
  | 0, i, h => by
    refine ⟨-1, Ev.succ (Ev.const fun k => ?_), ?_⟩
    · unfold posthouseref3_Known.l0
      rw [if_neg (by omega)]
    · rw [List.drop_eq_nil_of_le (by omega)]
      simp [hasA]
  | d + 1, i, h => by
    obtain ⟨v, h1, h2⟩ := known_loop out a hl d (i + 1) (by omega)
    have hi : i < out.length := by omega
    have hw : wrap64 ((i : Int) + 1) = ((i + 1 : Nat) : Int) := by rw [w64 _ (by omega)]; omega
    rw [List.drop_eq_getElem_cons hi]
    by_cases e : (out[i]).f0 = a
    · refine ⟨i, Ev.succ (Ev.const fun k => ?_), ?_⟩
      · unfold posthouseref3_Known.l0
        rw [if_pos (by omega), if_pos (by omega), UniteX.rd_get hi, if_pos (tl_iff.2 e)]
      · unfold hasA
        rw [List.any_cons, decide_eq_true e, Bool.true_or]
        exact ⟨fun _ => rfl, fun _ => by omega⟩
    · refine ⟨v, Ev.succ ?_, ?_⟩
      · unfold posthouseref3_Known.l0
        refine h1.congr fun k => ?_
        rw [if_pos (by omega), if_pos (by omega), UniteX.rd_get hi, if_neg (fun h => e (tl_iff.1 h)), hw]
      · rw [h2]
        unfold hasA
        rw [List.any_cons, decide_eq_false e, Bool.false_or]
theorem Known_ev (out : List S48) (a : ByteArray) (hl : out.length ≤ 5864062014805) : ∃ v : Int, Ev (fun k => posthouseref3_Known.f k out a) v ∧ (0 ≤ v ↔ hasA out a = true) := by
  have := known_loop out a hl out.length 0 (by omega)
  simpa [posthouseref3_Known.f] using this
theorem same_loop (l : List S48) (hl : l.length ≤ 5864062014805) : ∀ d i, i + d = l.length → Ev (fun k => posthouseref3_SameRecipients.l0 k l l (i : Int)) true
  | 0, i, h => by
    refine Ev.succ (Ev.const fun k => ?_)
    unfold posthouseref3_SameRecipients.l0
    rw [if_neg (by omega)]
  | d + 1, i, h => by
    have hw : wrap64 ((i : Int) + 1) = ((i + 1 : Nat) : Int) := by rw [w64 _ (by omega)]; omega
    refine Ev.succ ?_
    unfold posthouseref3_SameRecipients.l0
    refine (same_loop l hl d (i + 1) (by omega)).congr fun k => ?_
    rw [if_pos (by omega), if_pos (by omega), if_pos (by omega), hw]
    simp
theorem Same_ev (l : List S48) (hl : l.length ≤ 5864062014805) : Ev (fun k => posthouseref3_SameRecipients.f k l l) true := by
  have := same_loop l hl l.length 0 (by omega)
  simpa [posthouseref3_SameRecipients.f] using this

def okn (n : Nat) : Bool := isLet n || isDig n || n == 45 || n == 95 || n == 46
def nam (L : List Nat) : Bool := L.all okn && lenOk L.length
theorem bt_nat (a : ByteArray) (i : Nat) (h : i < (by_ a).length) : bt a i = ((by_ a)[i] : Nat) := bt_by a i (by rwa [by_len] at h)
theorem isName_loop (a : ByteArray) (hs : a.size ≤ 140737488351232) : ∀ d i, i + d = a.size → Ev (fun k => envelope_IsName.l0 k a (a.size : Int) (i : Int)) (((by_ a).drop i).all okn && lenOk a.size)
  | 0, i, h => by
    refine Ev.succ (Ev.const fun k => ?_)
    unfold envelope_IsName.l0
    rw [if_neg (by omega), List.drop_eq_nil_of_le (by rw [by_len]; omega)]
    unfold lenOk
    split
    all_goals (congr 1; rw [Bool.eq_iff_iff]; simp; omega)
  | d + 1, i, h => by
    have ih := isName_loop a hs d (i + 1) (by omega)
    have hi : i < (by_ a).length := by rw [by_len]; omega
    have h2 : wrap64 ((i : Int) + 1) = ((i + 1 : Nat) : Int) := by rw [w64 _ (by omega)]; omega
    have hlt := by_lt a _ (List.getElem_mem hi)
    refine Ev.succ ?_
    unfold envelope_IsName.l0
    simp only [if_pos (show (i : Int) < (a.size : Int) by omega), if_pos (show (0 : Int) ≤ (i : Int) by omega), bt_nat a i hi, letter_val, digit_val, Option.bind_some, h2]
    rw [List.drop_eq_getElem_cons hi, List.all_cons]
    generalize (by_ a)[i] = n at hlt ⊢
    by_cases h0 : okn n = true
    · rw [h0, Bool.true_and]
      refine ih.congr fun k => ?_
      by_cases h1 : isLet n = true
      · rw [if_pos h1]
      · rw [if_neg h1]
        by_cases h4 : isDig n = true
        · rw [if_pos h4]
        · rw [if_neg h4]
          have h3 : n = 45 ∨ n = 95 ∨ n = 46 := by
            unfold okn at h0
            have h1' : isLet n = false := by simpa using h1
            have h4' : isDig n = false := by simpa using h4
            rw [h1', h4'] at h0
            simpa [or_assoc] using h0
          rcases h3 with rfl | rfl | rfl <;> simp
    · have h1 : ¬ isLet n = true := fun h1 => h0 (by unfold okn; rw [h1]; rfl)
      have h4 : ¬ isDig n = true := fun h1 => h0 (by unfold okn; rw [h1]; simp)
      have h3 : n ≠ 45 ∧ n ≠ 95 ∧ n ≠ 46 := by
        refine ⟨?_, ?_, ?_⟩ <;> (rintro rfl; exact h0 (by decide))
      have h0' : okn n = false := by simpa using h0
      rw [h0', Bool.false_and]
      refine Ev.const fun k => ?_
      rw [if_neg h1, if_neg h4, if_neg (by omega), if_neg (by omega), if_neg (by omega)]
      rfl
theorem IsName_ev (a : ByteArray) (hs : a.size ≤ 140737488351232) : Ev (fun k => envelope_IsName.f k a) (nam (by_ a)) := by
  have := isName_loop a hs a.size 0 (by omega)
  unfold nam
  rw [by_len]
  simpa [envelope_IsName.f] using this
/-- The first fault of the recipients of an envelope. -/
def rflt (l : List S48) : Nat → Nat → Int × Int
  | 0, _ => (0, 0)
  | d + 1, i => if adr (by_ (rd_T48 l i).f0) = true then (if 0 ≤ (rd_T48 l i).f1 ∧ (rd_T48 l i).f1 ≤ 7 then (if hasA (l.take i) (rd_T48 l i).f0 = true then (7, (i : Int)) else rflt l d (i + 1)) else (3, (i : Int))) else (10, (i : Int))
theorem recipients_loop (l : List S48) (hs : ∀ x ∈ l, x.f0.size ≤ 140737488351232) : ∀ d i, i + d = l.length → Ev (fun k => RecipientsX.go k l d i) (rflt l d i)
  | 0, i, h => Ev.some_ _
  | d + 1, i, h => by
    have hi : i < l.length := by omega
    have ih := recipients_loop l hs d (i + 1) (by omega)
    unfold RecipientsX.go rflt
    have hsz := hs _ (List.getElem_mem hi)
    rw [← UniteX.rd_get hi] at hsz
    generalize rd_T48 l i = r at hsz ⊢
    simp only [if_pos hsz]
    refine Ev.bind (IsAddress_ev _ hsz) ?_
    by_cases e : adr (by_ r.f0) = true
    · simp only [e, if_true, Bool.true_eq_false, if_false]
      by_cases e2 : 0 ≤ r.f1 ∧ r.f1 ≤ 7
      · simp only [if_pos e2, if_neg (show ¬ (r.f1 < 0 ∨ r.f1 > 7) by omega)]
        by_cases e3 : hasA (l.take i) r.f0 = true
        · rw [if_pos e3]
          refine Ev.const fun k => ?_
          unfold hasA at e3
          rw [if_pos e3]
        · rw [if_neg e3]
          refine ih.congr fun k => ?_
          unfold hasA at e3
          rw [if_neg e3]
      · rw [if_neg e2]
        refine Ev.const fun k => ?_
        rw [if_pos (by omega)]
    · have e' : adr (by_ r.f0) = false := by simpa using e
      rw [if_neg e]
      refine Ev.const fun k => ?_
      rw [if_pos e']
/-- The fault of an envelope. -/
def efl (a : ByteArray) (l : List S48) (c : ByteArray) : Int × Int :=
  if ¬ a.toList = [] ∧ adr (by_ a) = false then (10, -10) else if ¬ (1 ≤ l.length ∧ l.length ≤ 60) then (2, -11) else if ¬ c.toList = [] ∧ nam (by_ c) = false then (10, -12) else rflt l l.length 0
theorem Validate_ev (a : ByteArray) (l : List S48) (c : ByteArray) (ha : a.size ≤ 140737488351232) (hs : ∀ x ∈ l, x.f0.size ≤ 140737488351232) (hc : c.size ≤ 140737488351232) : Ev (fun k => envelope_Validate.f k a l c) (efl a l c) := by
  have h1 : Ev (fun k => envelope_Validate.j1 k false a l c) (if ¬ c.toList = [] ∧ nam (by_ c) = false then (10, -12) else rflt l l.length 0) := by
    have hr : Ev (fun k => envelope_recipients.f k l) (rflt l l.length 0) := recipients_loop l hs l.length 0 (by omega)
    refine Ev.succ ?_
    unfold envelope_Validate.j1
    simp only [Bool.false_eq_true, if_false]
    by_cases e : c.toList = []
    · simp only [if_pos e]
      rw [if_neg (fun h => h.1 e)]
      exact Ev.bind hr (Ev.some_ _)
    · simp only [if_neg e]
      refine Ev.bind (IsName_ev c hc) ?_
      by_cases e2 : nam (by_ c) = true
      · rw [if_neg (fun h => by rw [e2] at h; cases h.2)]
        simp only [if_pos e2]
        exact Ev.bind hr (Ev.some_ _)
      · rw [if_pos ⟨e, by simpa using e2⟩]
        refine Ev.const fun k => ?_
        rw [if_neg e2]
  have h1t : Ev (fun k => envelope_Validate.j1 k true a l c) (2, -11) := by
    refine Ev.succ (Ev.const fun k => ?_)
    unfold envelope_Validate.j1
    rfl
  have h0 : Ev (fun k => envelope_Validate.j0 k false a l c) (if ¬ (1 ≤ l.length ∧ l.length ≤ 60) then (2, -11) else if ¬ c.toList = [] ∧ nam (by_ c) = false then (10, -12) else rflt l l.length 0) := by
    refine Ev.succ ?_
    unfold envelope_Validate.j0
    simp only [Bool.false_eq_true, if_false]
    by_cases e : (l.length : Int) < 1
    · rw [if_pos (by omega)]
      refine h1t.congr fun k => ?_
      rw [if_pos e]
    · by_cases e2 : l.length ≤ 60
      · rw [if_neg (by omega)]
        refine h1.congr fun k => ?_
        rw [if_neg e, decide_eq_false (by omega)]
      · rw [if_pos (by omega)]
        refine h1t.congr fun k => ?_
        rw [if_neg e, decide_eq_true (by omega)]
  have h0t : Ev (fun k => envelope_Validate.j0 k true a l c) (10, -10) := by
    refine Ev.succ (Ev.const fun k => ?_)
    unfold envelope_Validate.j0
    rfl
  unfold envelope_Validate.f efl
  by_cases e : a.toList = []
  · rw [if_neg (fun h => h.1 e)]
    simp only [if_pos e]
    exact h0
  · simp only [if_neg e]
    refine Ev.bind (IsAddress_ev a ha) ?_
    by_cases e2 : adr (by_ a) = true
    · rw [if_neg (fun h => by rw [e2] at h; cases h.2), e2]
      exact h0
    · have e2' : adr (by_ a) = false := by simpa using e2
      rw [if_pos ⟨e, e2'⟩, e2']
      exact h0t
theorem rlt_len {l : List S48} {i : Nat} : (l.take i).length ≤ l.length := by rw [List.length_take]; omega
theorem rflt_code (l : List S48) : ∀ d i, (rflt l d i).1 = 0 → rflt l d i = (0, 0) ∧ ∀ j, i ≤ j → j < i + d → adr (by_ (rd_T48 l j).f0) = true ∧ in7 (rd_T48 l j).f1 ∧ hasA (l.take j) (rd_T48 l j).f0 = false
  | 0, i, _ => ⟨rfl, fun j h1 h2 => by omega⟩
  | d + 1, i, h => by
    unfold rflt at h ⊢
    split at h
    · rename_i e1
      split at h
      · rename_i e2
        split at h
        · cases h
        · rename_i e3
          obtain ⟨h1, h2⟩ := rflt_code l d (i + 1) h
          rw [if_pos e1, if_pos e2, if_neg e3]
          refine ⟨h1, fun j hj1 hj2 => ?_⟩
          by_cases ej : j = i
          · subst ej
            exact ⟨e1, e2, by simpa using e3⟩
          · exact h2 j (by omega) (by omega)
      · cases h
    · cases h
theorem efl_code {a c : ByteArray} {l : List S48} (h : (efl a l c).1 = 0) : efl a l c = (0, 0) ∧ 1 ≤ l.length ∧ l.length ≤ 60 ∧ (∀ j, j < l.length → adr (by_ (rd_T48 l j).f0) = true ∧ in7 (rd_T48 l j).f1 ∧ hasA (l.take j) (rd_T48 l j).f0 = false) ∧ ¬ (¬ a.toList = [] ∧ adr (by_ a) = false) ∧ ¬ (¬ c.toList = [] ∧ nam (by_ c) = false) := by
  unfold efl at h ⊢
  split at h
  · cases h
  · rename_i h1
    split at h
    · cases h
    · rename_i h2
      split at h
      · cases h
      · rename_i h3
        obtain ⟨h4, h5⟩ := rflt_code l _ _ h
        rw [if_neg h1, if_neg h2, if_neg h3]
        exact ⟨h4, by omega, by omega, fun j hj => h5 j (by omega) (by omega), h1, h3⟩

/-- The domain of an address. -/
def domOf (a : ByteArray) : ByteArray := if pos (by_ a) < a.size then a.extract (pos (by_ a) + 1) a.size else ⟨#[]⟩
theorem domOf_size (a : ByteArray) : (domOf a).size ≤ a.size := by
  unfold domOf
  split
  · simp
  · exact Nat.zero_le _
theorem DomainOf_val (a : ByteArray) (hs : a.size ≤ 140737488351232) : envelope_DomainOf.f a = some (domOf a) := by
  unfold envelope_DomainOf.f domOf
  rw [Cut_val a hs]
  by_cases h : pos (by_ a) < a.size
  · rw [if_pos h, if_pos h]; rfl
  · rw [if_neg h, if_neg h]; rfl
def hasS (out : List ByteArray) (a : ByteArray) : Bool := out.any fun x => decide (x = a)
theorem rdO_get {l : List ByteArray} {i : Nat} (h : i < l.length) : rdOf ByteArray.empty l (i : Int) = l[i] := by
  unfold rdOf
  rw [Int.toNat_natCast, List.getD_eq_getElem?_getD, List.getElem?_eq_getElem h]
  rfl
theorem index_loop (l : List ByteArray) (a : ByteArray) (hl : l.length ≤ 8796093022208) : ∀ d i, i + d = l.length → ∃ v : Int, Ev (fun k => slices_Index_string_string.l0 k l a (l.length : Int) (i : Int)) v ∧ (0 ≤ v ↔ hasS (l.drop i) a = true)
  | 0, i, h => by
    refine ⟨-1, Ev.succ (Ev.const fun k => ?_), ?_⟩
    · unfold slices_Index_string_string.l0
      rw [if_neg (by omega)]
    · rw [List.drop_eq_nil_of_le (by omega)]
      simp [hasS]
  | d + 1, i, h => by
    obtain ⟨v, h1, h2⟩ := index_loop l a hl d (i + 1) (by omega)
    have hi : i < l.length := by omega
    have hw : wrap64 ((i : Int) + 1) = ((i + 1 : Nat) : Int) := by rw [w64 _ (by omega)]; omega
    rw [List.drop_eq_getElem_cons hi]
    by_cases e : l[i] = a
    · refine ⟨i, Ev.succ (Ev.const fun k => ?_), ?_⟩
      · unfold slices_Index_string_string.l0
        rw [if_pos (by omega), if_pos (by omega), if_pos (by omega), rdO_get hi, if_pos (tl_iff.2 e.symm)]
      · unfold hasS
        rw [List.any_cons, decide_eq_true e, Bool.true_or]
        exact ⟨fun _ => rfl, fun _ => by omega⟩
    · refine ⟨v, Ev.succ ?_, ?_⟩
      · unfold slices_Index_string_string.l0
        refine h1.congr fun k => ?_
        rw [if_pos (by omega), if_pos (by omega), if_pos (by omega), rdO_get hi, if_neg (fun h => e (tl_iff.1 h).symm), hw]
      · rw [h2]
        unfold hasS
        rw [List.any_cons, decide_eq_false e, Bool.false_or]
theorem ContainsS_ev (l : List ByteArray) (a : ByteArray) (hl : l.length ≤ 8796093022208) : Ev (fun k => slices_Contains_string_string.f k l a) (hasS l a) := by
  obtain ⟨v, h1, h2⟩ := index_loop l a hl l.length 0 (by omega)
  rw [List.drop_zero] at h2
  have h1' : Ev (fun k => slices_Index_string_string.f k l a) v := by simpa [slices_Index_string_string.f] using h1
  unfold slices_Contains_string_string.f
  refine (Ev.bind h1' (Ev.some_ (decide (v ≥ 0)))).val ?_
  rw [Bool.eq_iff_iff, decide_eq_true_iff]
  exact h2
theorem strings_loop (l m : List ByteArray) (hl : l.length ≤ 8796093022208) (he : l.length = m.length) : ∀ d i, i + d = l.length → Ev (fun k => posthouseref3_Strings.l0 k l m (i : Int)) (decide (l.drop i = m.drop i))
  | 0, i, h => by
    rw [List.drop_eq_nil_of_le (by omega), List.drop_eq_nil_of_le (by omega)]
    refine Ev.succ (Ev.const fun k => ?_)
    unfold posthouseref3_Strings.l0
    rw [if_neg (by omega)]
    rfl
  | d + 1, i, h => by
    have h1 := strings_loop l m hl he d (i + 1) (by omega)
    have hi : i < l.length := by omega
    have hj : i < m.length := by omega
    have hw : wrap64 ((i : Int) + 1) = ((i + 1 : Nat) : Int) := by rw [w64 _ (by omega)]; omega
    rw [List.drop_eq_getElem_cons hi, List.drop_eq_getElem_cons hj]
    refine Ev.succ ?_
    unfold posthouseref3_Strings.l0
    by_cases e : l[i] = m[i]
    · refine (h1.congr fun k => ?_).val ?_
      · rw [if_pos (by omega), if_pos (by omega), if_pos (by omega), rdO_get hi, rdO_get hj, if_pos (tl_iff.2 e), hw]
      · rw [Bool.eq_iff_iff, decide_eq_true_iff, decide_eq_true_iff, e]
        exact ⟨fun h => by rw [h], fun h => (List.cons.inj h).2⟩
    · rw [decide_eq_false (fun h => e (List.cons.inj h).1)]
      refine Ev.const fun k => ?_
      rw [if_pos (by omega), if_pos (by omega), if_pos (by omega), rdO_get hi, rdO_get hj, if_neg (fun h => e (tl_iff.1 h))]
theorem Strings_ev (l m : List ByteArray) (hl : l.length ≤ 8796093022208) : Ev (fun k => posthouseref3_Strings.f k l m) (decide (l = m)) := by
  unfold posthouseref3_Strings.f
  by_cases he : l.length = m.length
  · have := strings_loop l m hl he l.length 0 (by omega)
    rw [List.drop_zero, List.drop_zero] at this
    refine this.congr fun k => ?_
    rw [if_pos (by omega)]
    rfl
  · rw [decide_eq_false (fun h => he (by rw [h]))]
    refine Ev.const fun k => ?_
    rw [if_neg (by omega)]
/-- The domains, each once. -/
def doms (out : List ByteArray) : List S48 → List ByteArray
  | [] => out
  | r :: l => doms (if hasS out (domOf r.f0) = true then out else out ++ [domOf r.f0]) l
theorem doms_len : ∀ (l : List S48) (out : List ByteArray), (doms out l).length ≤ out.length + l.length
  | [], out => by simp [doms]
  | r :: l, out => by
    unfold doms
    have := doms_len l (if hasS out (domOf r.f0) = true then out else out ++ [domOf r.f0])
    split at this
    · rename_i h; rw [if_pos h]; simp; omega
    · rename_i h; rw [if_neg h]; simp at this ⊢; omega
theorem domains_loop (l : List S48) (hl : l.length ≤ 60) (hs : ∀ x ∈ l, x.f0.size ≤ 140737488351232) : ∀ d i out, i + d = l.length → out.length ≤ i → Ev (fun k => envelope_Domains.l0 k out l (l.length : Int) (i : Int)) (doms out (l.drop i), 0, 0)
  | 0, i, out, h, _ => by
    rw [List.drop_eq_nil_of_le (by omega), doms]
    refine Ev.succ (Ev.const fun k => ?_)
    unfold envelope_Domains.l0
    rw [if_neg (by omega)]
  | d + 1, i, out, h, ho => by
    have hi : i < l.length := by omega
    have hw : wrap64 ((i : Int) + 1) = ((i + 1 : Nat) : Int) := by rw [w64 _ (by omega)]; omega
    have hsz := hs _ (List.getElem_mem hi)
    rw [List.drop_eq_getElem_cons hi, doms]
    refine Ev.succ ?_
    unfold envelope_Domains.l0
    simp only [if_pos (show (i : Int) < (l.length : Int) by omega), if_pos (show (0 : Int) ≤ (i : Int) by omega), UniteX.rd_get hi, hw, DomainOf_val _ hsz, Option.bind_some]
    refine Ev.bind (ContainsS_ev out (domOf (l[i]).f0) (by omega)) ?_
    by_cases e : hasS out (domOf (l[i]).f0) = true
    · simp only [if_pos e]
      exact domains_loop l hl hs d (i + 1) out (by omega) (by omega)
    · simp only [if_neg e, if_pos (show out.length < 8796093022208 by omega)]
      exact domains_loop l hl hs d (i + 1) _ (by omega) (by simp; omega)
theorem Domains_ev (a : ByteArray) (l : List S48) (c : ByteArray) (ha : a.size ≤ 140737488351232) (hs : ∀ x ∈ l, x.f0.size ≤ 140737488351232) (hc : c.size ≤ 140737488351232) : Ev (fun k => envelope_Domains.f k a l c) (if (efl a l c).1 = 0 then (doms [] l, 0, 0) else ([], efl a l c)) := by
  unfold envelope_Domains.f
  refine Ev.bind (Validate_ev a l c ha hs hc) ?_
  by_cases e : (efl a l c).1 = 0
  · obtain ⟨h1, h2, h3, _⟩ := efl_code e
    rw [if_pos e, h1]
    have := domains_loop l h3 hs l.length 0 [] (by omega) (by simp)
    rw [List.drop_zero] at this
    exact this.congr fun k => by simp
  · rw [if_neg e]
    refine Ev.const fun k => ?_
    rw [if_pos (by simp [e])]
def forD (l : List S48) (a : ByteArray) : List S48 := l.filter fun x => decide (domOf x.f0 = a)
theorem keep_for (a1 : ByteArray) : ∀ (l : List S48), (∀ x ∈ l, x.f0.size ≤ 140737488351232) → Go.Proofs.YtbmeebhcanknmaaDoor.XWords.keepO (fun x : S48 => (envelope_DomainOf.f x.f0).map fun d => !(d.toList == a1.toList)) l = some (forD l a1)
  | [], _ => rfl
  | x :: l, hs => by
    have ih := keep_for a1 l (fun y hy => hs y (List.mem_cons_of_mem _ hy))
    rw [XWords.keepO, ih, DomainOf_val _ (hs x (List.mem_cons_self ..))]
    unfold forD
    rw [List.filter_cons]
    by_cases e : domOf x.f0 = a1
    · simp [e]
    · have e2 : ¬ (domOf x.f0).toList = a1.toList := fun h => e (tl_iff.1 h)
      have e3 : ((domOf x.f0).toList == a1.toList) = false := by simpa using e2
      simp [e, e3]
theorem For_ev (a : ByteArray) (l : List S48) (c a1 : ByteArray) (ha : a.size ≤ 140737488351232) (hs : ∀ x ∈ l, x.f0.size ≤ 140737488351232) (hc : c.size ≤ 140737488351232) : Ev (fun k => envelope_For.f k a l c a1) (if (efl a l c).1 = 0 then (if forD l a1 = [] then (ByteArray.empty, [], ByteArray.empty, 6, -13) else (a, forD l a1, c, 0, 0)) else (ByteArray.empty, [], ByteArray.empty, (efl a l c).1, (efl a l c).2)) := by
  unfold envelope_For.f
  refine Ev.bind (Validate_ev a l c ha hs hc) ?_
  by_cases e : (efl a l c).1 = 0
  · obtain ⟨h1, h2, h3, _⟩ := efl_code e
    rw [if_pos e, h1]
    refine Ev.const fun k => ?_
    rw [if_pos ⟨rfl, rfl⟩, api_Recipient_72.f, if_pos (by omega), Option.bind_some, keep_for a1 l hs, Option.bind_some]
    by_cases e2 : forD l a1 = []
    · rw [if_pos e2, if_pos (by rw [e2]; rfl)]
    · rw [if_neg e2, if_neg (fun h => e2 (List.eq_nil_of_length_eq_zero h))]
  · rw [if_neg e]
    refine Ev.const fun k => ?_
    rw [if_neg (fun h => e h.1)]

theorem known_loop2 (out : List S48) (a : ByteArray) (hl : out.length ≤ 5864062014805) : ∀ d i, i + d = out.length → hasA (out.drop i) a = true → ∃ v : Nat, ∃ hv : v < out.length, Ev (fun k => posthouseref3_Known.l0 k out a (i : Int)) (v : Int) ∧ (out[v]).f0 = a
  | 0, i, h, hh => by
    rw [List.drop_eq_nil_of_le (by omega)] at hh
    cases hh
  | d + 1, i, h, hh => by
    have hi : i < out.length := by omega
    have hw : wrap64 ((i : Int) + 1) = ((i + 1 : Nat) : Int) := by rw [w64 _ (by omega)]; omega
    by_cases e : (out[i]).f0 = a
    · refine ⟨i, hi, Ev.succ (Ev.const fun k => ?_), e⟩
      unfold posthouseref3_Known.l0
      rw [if_pos (by omega), if_pos (by omega), UniteX.rd_get hi, if_pos (tl_iff.2 e)]
    · obtain ⟨v, hv, h1, h2⟩ := known_loop2 out a hl d (i + 1) (by omega) (by
        rw [List.drop_eq_getElem_cons hi] at hh
        unfold hasA at hh ⊢
        rw [List.any_cons, decide_eq_false e, Bool.false_or] at hh
        exact hh)
      refine ⟨v, hv, Ev.succ ?_, h2⟩
      unfold posthouseref3_Known.l0
      refine h1.congr fun k => ?_
      rw [if_pos (by omega), if_pos (by omega), UniteX.rd_get hi, if_neg (fun h => e (tl_iff.1 h)), hw]
theorem Known_ev2 (out : List S48) (a : ByteArray) (hl : out.length ≤ 5864062014805) (hh : hasA out a = true) : ∃ v : Nat, ∃ hv : v < out.length, Ev (fun k => posthouseref3_Known.f k out a) (v : Int) ∧ (out[v]).f0 = a := by
  obtain ⟨v, hv, h1, h2⟩ := known_loop2 out a hl out.length 0 (by omega) hh
  exact ⟨v, hv, by simpa [posthouseref3_Known.f] using h1, h2⟩
theorem hasA_iff {l : List S48} {a : ByteArray} : hasA l a = true ↔ ∃ x ∈ l, x.f0 = a := by
  unfold hasA
  rw [List.any_eq_true]
  simp only [decide_eq_true_iff]
/-- Recipients without a fault. -/
def good (l : List S48) : Prop := (∀ x ∈ l, adr (by_ x.f0) = true ∧ in7 x.f1) ∧ (l.map S48.f0).Nodup
theorem good_of {l : List S48} (h : ∀ j, j < l.length → adr (by_ (rd_T48 l j).f0) = true ∧ in7 (rd_T48 l j).f1 ∧ hasA (l.take j) (rd_T48 l j).f0 = false) : good l := by
  refine ⟨fun x hx => ?_, ?_⟩
  · obtain ⟨j, hj, rfl⟩ := List.mem_iff_getElem.1 hx
    have := h j hj
    rw [UniteX.rd_get hj] at this
    exact ⟨this.1, this.2.1⟩
  · rw [List.nodup_iff_pairwise_ne, List.pairwise_iff_getElem]
    intro i j hi hj hij he
    rw [List.length_map] at hi hj
    rw [List.getElem_map, List.getElem_map] at he
    have := (h j hj).2.2
    rw [UniteX.rd_get hj] at this
    have h2 : hasA (l.take j) (l[j]).f0 = true := hasA_iff.2 ⟨l[i], List.mem_iff_getElem.2 ⟨i, by rw [List.length_take]; omega, by rw [List.getElem_take]⟩, he⟩
    rw [h2] at this
    cases this
theorem rflt_good {l : List S48} (h : good l) : ∀ d i, i + d = l.length → rflt l d i = (0, 0)
  | 0, _, _ => rfl
  | d + 1, i, hd => by
    have hi : i < l.length := by omega
    unfold rflt
    rw [UniteX.rd_get hi]
    obtain ⟨h1, h2⟩ := h.1 _ (List.getElem_mem hi)
    rw [if_pos h1, if_pos (show 0 ≤ (l[i]).f1 ∧ (l[i]).f1 ≤ 7 from h2), if_neg, rflt_good h d (i + 1) (by omega)]
    intro hh
    obtain ⟨x, hx, he⟩ := hasA_iff.1 hh
    obtain ⟨j, hj, rfl⟩ := List.mem_iff_getElem.1 hx
    rw [List.length_take] at hj
    rw [List.getElem_take] at he
    have hn := h.2
    rw [List.nodup_iff_pairwise_ne, List.pairwise_iff_getElem] at hn
    have := hn j i (by rw [List.length_map]; omega) (by rw [List.length_map]; omega) (by omega)
    rw [List.getElem_map, List.getElem_map] at this
    exact this he
theorem good_for {l : List S48} (h : good l) (a : ByteArray) : good (forD l a) := by
  refine ⟨fun x hx => h.1 x ((List.mem_filter.1 hx).1), ?_⟩
  exact List.Nodup.sublist (List.Sublist.map _ List.filter_sublist) h.2
theorem hasS_iff {l : List ByteArray} {a : ByteArray} : hasS l a = true ↔ a ∈ l := by
  unfold hasS
  rw [List.any_eq_true]
  simp only [decide_eq_true_iff]
  exact ⟨fun ⟨x, hx, e⟩ => e ▸ hx, fun h => ⟨a, h, rfl⟩⟩
theorem doms_nodup : ∀ (l : List S48) (out : List ByteArray), out.Nodup → (doms out l).Nodup
  | [], out, h => h
  | r :: l, out, h => by
    unfold doms
    refine doms_nodup l _ ?_
    split
    · exact h
    · rename_i hn
      rw [List.nodup_append]
      refine ⟨h, by simp, ?_⟩
      intro a ha b hb e
      simp at hb
      subst hb e
      exact hn (hasS_iff.2 ha)
theorem doms_mem (d : ByteArray) : ∀ (l : List S48) (out : List ByteArray), d ∈ doms out l ↔ d ∈ out ∨ ∃ x ∈ l, domOf x.f0 = d
  | [], out => by simp [doms]
  | r :: l, out => by
    unfold doms
    rw [doms_mem d l]
    split
    · rename_i h
      rw [hasS_iff] at h
      constructor
      · rintro (h1 | ⟨x, hx, e⟩)
        · exact .inl h1
        · exact .inr ⟨x, List.mem_cons_of_mem _ hx, e⟩
      · rintro (h1 | ⟨x, hx, e⟩)
        · exact .inl h1
        · rcases List.mem_cons.1 hx with rfl | hx
          · exact .inl (e ▸ h)
          · exact .inr ⟨x, hx, e⟩
    · constructor
      · rintro (h1 | ⟨x, hx, e⟩)
        · rcases List.mem_append.1 h1 with h1 | h1
          · exact .inl h1
          · exact .inr ⟨r, List.mem_cons_self .., (List.mem_singleton.1 h1).symm⟩
        · exact .inr ⟨x, List.mem_cons_of_mem _ hx, e⟩
      · rintro (h1 | ⟨x, hx, e⟩)
        · exact .inl (List.mem_append.2 (.inl h1))
        · rcases List.mem_cons.1 hx with rfl | hx
          · exact .inl (List.mem_append.2 (.inr (List.mem_singleton.2 e.symm)))
          · exact .inr ⟨x, hx, e⟩
/-- The recipients, domain by domain. -/
def allD (l : List S48) (D : List ByteArray) : List S48 := D.flatMap (forD l)
def cnt (a : ByteArray) : List ByteArray → Nat
  | [] => 0
  | d :: D => (if a = d then 1 else 0) + cnt a D
theorem cnt_zero {a : ByteArray} : ∀ D, a ∉ D → cnt a D = 0
  | [], _ => rfl
  | d :: D, h => by
    rw [cnt, if_neg (fun e : a = d => h (by rw [e]; exact List.mem_cons_self ..)), cnt_zero D (fun h2 => h (List.mem_cons_of_mem _ h2))]
theorem cnt_one {a : ByteArray} : ∀ D : List ByteArray, D.Nodup → cnt a D ≤ 1 ∧ (a ∈ D → cnt a D = 1)
  | [], _ => ⟨Nat.zero_le _, fun h => by cases h⟩
  | d :: D, h => by
    obtain ⟨h1, h2⟩ := List.nodup_cons.1 h
    obtain ⟨h3, h4⟩ := cnt_one (a := a) D h2
    unfold cnt
    by_cases e : a = d
    · subst e
      rw [if_pos rfl, cnt_zero D h1]
      exact ⟨Nat.le_refl _, fun _ => rfl⟩
    · rw [if_neg e, Nat.zero_add]
      refine ⟨h3, fun hm => ?_⟩
      rcases List.mem_cons.1 hm with h5 | h5
      · exact absurd h5 e
      · exact h4 h5
theorem allD_len1 (x : S48) (l : List S48) : ∀ D, (allD (x :: l) D).length = cnt (domOf x.f0) D + (allD l D).length
  | [] => rfl
  | d :: D => by
    have ih := allD_len1 x l D
    unfold allD at ih ⊢
    rw [List.flatMap_cons, List.flatMap_cons, List.length_append, List.length_append, ih, cnt]
    unfold forD
    rw [List.filter_cons]
    by_cases e : domOf x.f0 = d
    · rw [if_pos (decide_eq_true e), if_pos e]
      simp; omega
    · rw [if_neg (by simpa using e), if_neg e]
      omega
theorem allD_nil : ∀ D, allD [] D = []
  | [] => rfl
  | d :: D => by
    have ih := allD_nil D
    unfold allD at ih ⊢
    rw [List.flatMap_cons, ih]
    rfl
theorem allD_len {D : List ByteArray} (hD : D.Nodup) : ∀ l : List S48, (∀ x ∈ l, domOf x.f0 ∈ D) → (allD l D).length = l.length
  | [], _ => by rw [allD_nil]
  | x :: l, h => by
    rw [allD_len1, allD_len hD l (fun y hy => h y (List.mem_cons_of_mem _ hy)), (cnt_one D hD).2 (h x (List.mem_cons_self ..)), List.length_cons]
    omega
theorem allD_le {D : List ByteArray} (hD : D.Nodup) : ∀ l : List S48, (allD l D).length ≤ l.length
  | [] => by rw [allD_nil]; exact Nat.le_refl _
  | x :: l => by
    have := allD_le hD l
    have := (cnt_one (a := domOf x.f0) D hD).1
    rw [allD_len1, List.length_cons]
    omega
theorem allD_mem {l : List S48} {D : List ByteArray} {x : S48} : x ∈ allD l D ↔ x ∈ l ∧ domOf x.f0 ∈ D := by
  unfold allD forD
  rw [List.mem_flatMap]
  constructor
  · rintro ⟨d, hd, hx⟩
    rw [List.mem_filter] at hx
    exact ⟨hx.1, by rw [of_decide_eq_true hx.2]; exact hd⟩
  · rintro ⟨h1, h2⟩
    exact ⟨_, h2, List.mem_filter.2 ⟨h1, decide_eq_true rfl⟩⟩
theorem nodup_inj {l : List S48} (h : (l.map S48.f0).Nodup) {x y : S48} (hx : x ∈ l) (hy : y ∈ l) (e : x.f0 = y.f0) : x = y := by
  obtain ⟨i, hi, rfl⟩ := List.mem_iff_getElem.1 hx
  obtain ⟨j, hj, rfl⟩ := List.mem_iff_getElem.1 hy
  have h3 : (l.map S48.f0)[i]'(by rw [List.length_map]; exact hi) = (l.map S48.f0)[j]'(by rw [List.length_map]; exact hj) := by rw [List.getElem_map, List.getElem_map, e]
  have := (List.getElem_inj h).1 h3
  subst this
  rfl
theorem law_l1 (l all : List S48) (a c : ByteArray) (hl : l.length ≤ 60) (ha : all.length ≤ 60) (hg : good l) (h1 : ∀ x ∈ l, x ∈ all) (h2 : ∀ x ∈ all, x ∈ l) : ∀ d i, i + d = l.length → Ev (fun k => posthouselaw3_EnvelopesOfDomainsJoin.l1 k all (i : Int) a l c) true
  | 0, i, h => by
    refine Ev.succ (Ev.const fun k => ?_)
    unfold posthouselaw3_EnvelopesOfDomainsJoin.l1
    rw [if_neg (by omega)]
  | d + 1, i, h => by
    have hi : i < l.length := by omega
    have hw : wrap64 ((i : Int) + 1) = ((i + 1 : Nat) : Int) := by rw [w64 _ (by omega)]; omega
    have ih := law_l1 l all a c hl ha hg h1 h2 d (i + 1) (by omega)
    obtain ⟨v, hv, e1, e2⟩ := Known_ev2 all (l[i]).f0 (by omega) (hasA_iff.2 ⟨l[i], h1 _ (List.getElem_mem hi), rfl⟩)
    have e3 : all[v] = l[i] := nodup_inj hg.2 (h2 _ (List.getElem_mem hv)) (List.getElem_mem hi) e2
    refine Ev.succ ?_
    unfold posthouselaw3_EnvelopesOfDomainsJoin.l1
    simp only [if_pos (show (i : Int) < (l.length : Int) by omega), if_pos (show (0 : Int) ≤ (i : Int) by omega), UniteX.rd_get hi, hw]
    refine Ev.bind e1 ?_
    simp only [if_neg (show ¬ (v : Int) < 0 by omega), if_pos (show (0 : Int) ≤ (v : Int) by omega), if_pos (show (v : Int) < (all.length : Int) by omega), UniteX.rd_get hv, e3]
    refine ih.congr fun k => ?_
    simp
theorem law_l0 (l : List S48) (a c : ByteArray) (ha : a.size ≤ 140737488351232) (hs : ∀ x ∈ l, x.f0.size ≤ 140737488351232) (hc : c.size ≤ 140737488351232) (e0 : (efl a l c).1 = 0) (D : List ByteArray) (hD : D = doms [] l) : ∀ d i out, i + d = D.length → out = allD l (D.take i) → Ev (fun k => posthouselaw3_EnvelopesOfDomainsJoin.l0 k D out (i : Int) a l c) true := by
  obtain ⟨h1, h2, h3, h4, h5, h6⟩ := efl_code e0
  have hg := good_of h4
  have hDn : D.Nodup := hD ▸ doms_nodup l [] List.nodup_nil
  have hDl : D.length ≤ 60 := by
    have := doms_len l []
    rw [← hD] at this
    simp at this
    omega
  have hDm : ∀ x ∈ l, domOf x.f0 ∈ D := fun x hx => by rw [hD, doms_mem]; exact .inr ⟨x, hx, rfl⟩
  intro d
  induction d with
  | zero =>
    intro i out hi ho
    have ho : out = allD l D := by rw [ho, List.take_of_length_le (by omega)]
    have hlen : out.length = l.length := by rw [ho]; exact allD_len hDn l hDm
    refine Ev.succ ?_
    unfold posthouselaw3_EnvelopesOfDomainsJoin.l0
    simp only [if_neg (show ¬ (i : Int) < (D.length : Int) by omega), if_pos (show (out.length : Int) = (l.length : Int) by omega)]
    exact law_l1 l out a c h3 (by omega) hg (fun x hx => by rw [ho, allD_mem]; exact ⟨hx, hDm x hx⟩) (fun x hx => by rw [ho, allD_mem] at hx; exact hx.1) l.length 0 (by omega)
  | succ d ih =>
    intro i out hi ho
    have hi' : i < D.length := by omega
    have hw : wrap64 ((i : Int) + 1) = ((i + 1 : Nat) : Int) := by rw [w64 _ (by omega)]; omega
    have hne : forD l D[i] ≠ [] := fun he => by
      have hm : D[i] ∈ doms [] l := hD ▸ List.getElem_mem hi'
      rw [doms_mem] at hm
      rcases hm with hm | ⟨x, hx, e⟩
      · cases hm
      · have : x ∈ forD l D[i] := List.mem_filter.2 ⟨hx, decide_eq_true e⟩
        rw [he] at this
        cases this
    have hfl : (forD l D[i]).length ≤ l.length := List.length_filter_le ..
    have hol : out.length ≤ l.length := by
      rw [ho]
      exact allD_le (hDn.sublist (List.take_sublist ..)) l
    refine Ev.succ ?_
    unfold posthouselaw3_EnvelopesOfDomainsJoin.l0
    simp only [if_pos (show (i : Int) < (D.length : Int) by omega), if_pos (show (0 : Int) ≤ (i : Int) by omega), rdO_get hi', hw]
    refine Ev.bind (For_ev a l c D[i] ha hs hc) ?_
    rw [if_pos e0, if_neg hne]
    simp only [if_true]
    have he : efl a (forD l D[i]) c = (0, 0) := by
      unfold efl
      rw [if_neg h5, if_neg (fun h => h ⟨by have : (forD l D[i]).length ≠ 0 := fun h => hne (List.eq_nil_of_length_eq_zero h); omega, by omega⟩), if_neg h6]
      exact rflt_good (good_for hg _) _ 0 (by omega)
    have hv := Validate_ev a (forD l D[i]) c ha (fun x hx => hs x ((List.mem_filter.1 hx).1)) hc
    rw [he] at hv
    refine Ev.bind hv ?_
    have := ih (i + 1) (out ++ forD l D[i]) (by omega) (by
      rw [ho, List.take_succ_eq_append_getElem hi']
      unfold allD
      rw [List.flatMap_append]
      simp)
    refine this.congr fun k => ?_
    rw [if_neg (by decide), if_pos (by omega)]
theorem pure : posthouselaw3_EnvelopesOfDomainsJoin.PureX := by
  intro x hwf
  obtain ⟨ha, hl, hc⟩ := hwf
  have hs : ∀ y ∈ x.f1, y.f0.size ≤ 140737488351232 := fun y hy => (hl.2 y hy).1
  refine Ev.ex ?_
  unfold posthouselaw3_EnvelopesOfDomainsJoin.f
  refine Ev.bind (Domains_ev x.f0 x.f1 x.f2 ha hs hc) ?_
  refine Ev.bind envelopes_ev ?_
  simp only [if_true]
  refine Ev.succ ?_
  unfold posthouselaw3_EnvelopesOfDomainsJoin.j0
  by_cases e : (efl x.f0 x.f1 x.f2).1 = 0
  · simp only [if_pos e]
    refine (law_l0 x.f1 x.f0 x.f2 ha hs hc e _ rfl (doms [] x.f1).length 0 [] (by omega) rfl).congr fun k => ?_
    rw [if_neg (by decide)]
    rfl
  · simp only [if_neg e]
    have hb : ((efl x.f0 x.f1 x.f2).1 != 0) = true := by simpa using e
    rw [hb]
    simp only [if_true]
    refine Ev.bind envelopes_ev (Ev.const fun k => ?_)
    rfl

end Go.Proofs.YtbmeebhcanknmaaDoor.XJoi.PEnvelopesOfDomainsJoin
