import Derived.Test.YtcjcmegkfplnkaaL24
set_option linter.unusedVariables false
set_option linter.unusedSimpArgs false
namespace Go.Proofs.Ytcjcmegkfplnkaa
open Go.Av

/-! ### What tokens that were told look like -/

def GoodWord (s : List UInt8) : Prop := (∃ c r, s = c :: r ∧ isLetter c = true) ∧ ∀ c ∈ s, isWord c = true ∧ isUpper c = false

/-- A token that was told. -/
inductive Good : Tok → Prop
  | word (s : List UInt8) (pos : Int) : GoodWord s → Good ⟨1, s, 0, pos⟩
  | number (m : Nat) (pos : Int) : m ≤ 9223372036854775807 → Good ⟨2, [], m, pos⟩
  | quoted (s : List UInt8) (pos : Int) : s.length ≤ 1000 → Good ⟨3, s, 0, pos⟩
  | mark (c : UInt8) (pos : Int) : marksL.contains c = true → Good ⟨4, [c], 0, pos⟩
  | pair (c d : UInt8) (pos : Int) : pair c d = true → Good ⟨4, [c, d], 0, pos⟩

theorem isWord_small {c : UInt8} (h : isWord c = true) : isWord (small c) = true ∧ isUpper (small c) = false := by
  by_cases hu : 65 ≤ c.toNat ∧ c.toNat ≤ 90
  · have := small_up hu.1 hu.2
    simp only [isWord, isLetter, isDigit, isUpper, this, Bool.or_eq_true, decide_eq_true_eq, decide_eq_false_iff_not]
    omega
  · rw [small_not hu]
    refine ⟨h, ?_⟩
    simp only [isUpper, decide_eq_false_iff_not]
    exact hu
theorem isLetter_small {c : UInt8} (h : isLetter c = true) : isLetter (small c) = true := by
  by_cases hu : 65 ≤ c.toNat ∧ c.toNat ≤ 90
  · have := small_up hu.1 hu.2
    simp only [isLetter, this, decide_eq_true_eq]
    omega
  · rw [small_not hu]; exact h
theorem small_low {c : UInt8} (h : isUpper c = false) : small c = c := by
  simp [small, h]

theorem goodWord_of {t : List UInt8} {c : UInt8} {r : List UInt8} (ht : t = c :: r) (hc : isLetter c = true) : GoodWord ((wordOf t).map small) := by
  subst ht
  have hw : isWord c = true := by simp [isWord, hc]
  constructor
  · refine ⟨small c, (wordOf r).map small, ?_, isLetter_small hc⟩
    simp [wordOf, hw]
  · intro x hx
    simp only [List.mem_map] at hx
    obtain ⟨y, hy, rfl⟩ := hx
    exact isWord_small (List.all_eq_true.1 List.all_takeWhile y hy)

theorem numStep_good {a : Int} {c : UInt8} (hc : isDigit c = true) (h0 : 0 ≤ a) : ∀ b, numStep (some a) c = some b → 0 ≤ b ∧ b ≤ 9223372036854775807 := by
  intro b hb
  have := isDigit_spec hc
  simp only [numStep] at hb
  split at hb
  · split at hb
    · simp only [Option.some.injEq] at hb
      omega
    · cases hb
  · cases hb

theorem num_none : ∀ (l : List UInt8), l.foldl numStep none = none
  | [] => rfl
  | c :: l => num_none l

theorem num_good : ∀ (l : List UInt8) (a : Int), (∀ c ∈ l, isDigit c = true) → 0 ≤ a ∧ a ≤ 9223372036854775807 → ∀ b, l.foldl numStep (some a) = some b → 0 ≤ b ∧ b ≤ 9223372036854775807
  | [], a, _, ha, b, hb => by simp at hb; omega
  | c :: l, a, hl, ha, b, hb => by
    rw [List.foldl_cons] at hb
    cases hs : numStep (some a) c with
    | none => rw [hs, num_none] at hb; cases hb
    | some a' =>
      rw [hs] at hb
      exact num_good l a' (fun x hx => hl x (List.mem_cons_of_mem _ hx)) (numStep_good (hl c (by simp)) ha.1 a' hs) b hb

/-- What is told is good. -/
theorem nextR_good (t : List UInt8) (ht : t ≠ []) (hb : (nextR t).2.1 = true) (pos : Int) : Good { (nextR t).1 with pos := pos } := by
  match t, ht with
  | c :: r, _ =>
    unfold nextR at hb ⊢
    simp only at hb ⊢
    split at hb
    · rename_i hc
      rw [if_pos hc]
      exact .word _ _ (goodWord_of rfl hc)
    · rename_i hc
      rw [if_neg hc]
      split at hb
      · rename_i hd
        rw [if_pos hd]
        simp only at hb ⊢
        cases hn : numO (c :: r) with
        | none => rw [hn] at hb; cases hb
        | some n =>
          have := num_good (digits (c :: r)) 0 (fun x hx => List.all_eq_true.1 List.all_takeWhile x hx) (by omega) n hn
          obtain ⟨m, rfl⟩ : ∃ m : Nat, n = (m : Int) := ⟨n.natAbs, by omega⟩
          exact .number m _ (by omega)
      · rename_i hd
        rw [if_neg hd]
        split at hb
        · rename_i hq
          rw [if_pos hq]
          cases hqr : quo r with
          | none => rw [hqr] at hb; cases hb
          | some ln =>
            obtain ⟨l, n⟩ := ln
            rw [hqr] at hb
            simp only [decide_eq_true_eq] at hb
            exact .quoted l _ hb
        · rename_i hq
          rw [if_neg hq]
          simp only at hb ⊢
          match r with
          | [] =>
            simp only [markP] at hb ⊢
            exact .mark c _ hb
          | d :: r' =>
            simp only [markP] at hb ⊢
            split at hb
            · rename_i hp
              rw [if_pos hp]
              exact .pair c d _ hp
            · rename_i hp
              rw [if_neg hp]
              exact .mark c _ hb

theorem cutF_good : ∀ (f : Nat) (t : List UInt8) (i n : Nat), ∀ x ∈ (cutF f t i n).1, Good x ∧ x.s.length ≤ t.length := by
  intro f
  induction f with
  | zero => intro t i n x hx; simp [cutF] at hx
  | succ f ih =>
    intro t i n x hx
    by_cases h1 : t.drop (blanks t) = []
    · rw [cutF_end h1] at hx; simp at hx
    · by_cases h2 : n = 400
      · rw [cutF_long h1 h2] at hx; simp at hx
      · cases h3 : (nextR (t.drop (blanks t))).2.1 with
        | false => rw [cutF_bad h1 h2 h3] at hx; simp at hx
        | true =>
          rw [cutF_tok h1 h2 h3] at hx
          simp only [List.mem_cons] at hx
          rcases hx with rfl | hx
          · refine ⟨nextR_good _ h1 h3 _, ?_⟩
            have hd : (t.drop (blanks t)).length ≤ t.length := by simp
            refine Nat.le_trans ?_ hd
            generalize t.drop (blanks t) = u at h1 h3
            match u, h1 with
            | c :: r, _ =>
              simp only [nextR] at h3 ⊢
              split
              · simp only [List.length_map]; exact takeWhile_le _
              · rename_i hc
                rw [if_neg hc] at h3
                split
                · simp
                · rename_i hd
                  rw [if_neg hd] at h3
                  split
                  · rename_i hq
                    rw [if_pos hq] at h3
                    cases hqr : quo r with
                    | none => rw [hqr] at h3; cases h3
                    | some ln =>
                      obtain ⟨l, m⟩ := ln
                      have := quo_len _ r (Nat.le_refl _) l m hqr
                      simp only [List.length_cons]; omega
                  · match r with
                    | [] => simp [markP]
                    | d :: r' => simp only [markP]; split <;> simp
          · have := ih _ _ _ x hx
            refine ⟨this.1, Nat.le_trans this.2 ?_⟩
            simp

/-! ### Put, and told again -/

/-- What may stand behind a token: nothing, or a blank. -/
def Behind (r : List UInt8) : Prop := r = [] ∨ ∃ r', r = 32 :: r'

theorem behind_no {p : UInt8 → Bool} (hp : p 32 = false) {r : List UInt8} (hr : Behind r) : r.takeWhile p = [] := by
  rcases hr with rfl | ⟨r', rfl⟩
  · rfl
  · rw [List.takeWhile_cons, hp]; rfl

theorem takeWhile_behind {p : UInt8 → Bool} (hp : p 32 = false) {s r : List UInt8} (hr : Behind r) (hs : ∀ c ∈ s, p c = true) : (s ++ r).takeWhile p = s := by
  rw [List.takeWhile_append_of_pos hs, behind_no hp hr, List.append_nil]

theorem isDigit_digit {d : Nat} (h : d < 10) : isDigit (UInt8.ofNat (48 + d)) = true := by
  simp only [isDigit, u8_digit h, decide_eq_true_eq]; omega

theorem dec_digits : ∀ (f m : Nat), m < f → (∀ c ∈ dec m, isDigit c = true) ∧ (m ≤ 9223372036854775807 → (dec m).foldl numStep (some 0) = some (m : Int)) := by
  intro f
  induction f with
  | zero => intro m h; omega
  | succ f ih =>
    intro m hm
    by_cases h1 : m < 10
    · rw [dec_small h1]
      refine ⟨fun c hc => ?_, fun hb => ?_⟩
      · simp only [List.mem_singleton] at hc; subst hc; exact isDigit_digit h1
      · simp only [List.foldl_cons, List.foldl_nil, numStep, u8_digit h1]
        rw [if_pos (by omega), if_pos (by omega)]
        congr 1; omega
    · rw [dec_big h1]
      have hi := ih (m / 10) (by omega)
      have hd : m % 10 < 10 := Nat.mod_lt _ (by decide)
      refine ⟨fun c hc => ?_, fun hb => ?_⟩
      · rcases List.mem_append.1 hc with hc | hc
        · exact hi.1 c hc
        · simp only [List.mem_singleton] at hc; subst hc; exact isDigit_digit hd
      · rw [List.foldl_append, hi.2 (by omega)]
        simp only [List.foldl_cons, List.foldl_nil, numStep, u8_digit hd]
        rw [if_pos (by omega), if_pos (by omega)]
        congr 1; omega

theorem quo_dbl : ∀ (s r : List UInt8), Behind r → quo (dbl s ++ 39 :: r) = some (s, (dbl s).length + 1)
  | [], r, hr => by
    show quo (39 :: r) = some ([], 1)
    rcases hr with rfl | ⟨r', rfl⟩
    · exact quo_end
    · exact quo_stop r' (by decide)
  | c :: s, r, hr => by
    have ih := quo_dbl s r hr
    have e : dbl (c :: s) = (if c = 39 then [39, 39] else [c]) ++ dbl s := rfl
    by_cases hc : c = 39
    · subst hc
      rw [e, if_pos rfl]
      show quo (39 :: 39 :: (dbl s ++ 39 :: r)) = _
      rw [quo_two, ih]
      simp
    · rw [e, if_neg hc]
      show quo (c :: (dbl s ++ 39 :: r)) = _
      rw [quo_ne _ hc, ih]
      simp

theorem mark_facts {c : UInt8} (h : marksL.contains c = true) : isLetter c = false ∧ isDigit c = false ∧ c ≠ 39 ∧ isBlank c = false ∧ Go.Proofs.Ytcjcmegkfplnkaa.pair c 32 = false := by
  simp only [marksL, List.contains_eq_mem, List.mem_cons, List.not_mem_nil, or_false, decide_eq_true_eq] at h
  rcases h with rfl | rfl | rfl | rfl | rfl | rfl | rfl | rfl | rfl | rfl | rfl | rfl <;> decide

theorem pair_facts {c d : UInt8} (h : Go.Proofs.Ytcjcmegkfplnkaa.pair c d = true) : isLetter c = false ∧ isDigit c = false ∧ c ≠ 39 ∧ isBlank c = false := by
  simp only [Go.Proofs.Ytcjcmegkfplnkaa.pair, Bool.or_eq_true, Bool.and_eq_true, beq_iff_eq] at h
  rcases h with (⟨rfl, _⟩ | ⟨rfl, _⟩) | ⟨rfl, _⟩ <;> decide

theorem letter_facts {c : UInt8} (h : isLetter c = true) : isBlank c = false := by
  simp only [isLetter, decide_eq_true_eq] at h
  simp only [isBlank, decide_eq_false_iff_not]; omega
theorem digit_facts {c : UInt8} (h : isDigit c = true) : isLetter c = false ∧ isBlank c = false := by
  simp only [isDigit, decide_eq_true_eq] at h
  simp only [isLetter, isBlank, decide_eq_false_iff_not]; omega

/-- A good token's text is told as that token. -/
theorem nextR_back {t : Tok} (hg : Good t) (r : List UInt8) (hr : Behind r) : (∃ c u, tokText t = c :: u ∧ isBlank c = false) ∧ (nextR (tokText t ++ r)).1.key = t.key ∧ (nextR (tokText t ++ r)).2.1 = true ∧ (nextR (tokText t ++ r)).2.2 = (tokText t).length := by
  cases hg with
  | word s pos hs =>
    obtain ⟨⟨c, u, rfl, hc⟩, hall⟩ := hs
    have ht : tokText ⟨1, c :: u, 0, pos⟩ = c :: u := by simp [tokText]
    have hw : wordOf (c :: (u ++ r)) = c :: u := takeWhile_behind (p := isWord) rfl (s := c :: u) hr fun x hx => (hall x hx).1
    have hm : (c :: u).map small = c :: u := by
      conv => rhs; rw [← List.map_id (c :: u)]
      exact List.map_congr_left fun x hx => small_low (hall x hx).2
    rw [ht]
    refine ⟨⟨c, u, rfl, letter_facts hc⟩, ?_⟩
    simp only [List.cons_append, nextR, hc, if_true, hw, hm, Tok.key]
    exact ⟨by trivial, by trivial, by trivial⟩
  | number m pos hm =>
    have ht : tokText ⟨2, [], m, pos⟩ = dec m := by simp [tokText, numB]
    obtain ⟨h1, h2⟩ := dec_digits (m + 1) m (by omega)
    have h3 := h2 hm
    rw [ht]
    cases hd : dec m with
    | nil => exact absurd hd (dec_ne m)
    | cons c u =>
      rw [hd] at h1 h3
      have hc := h1 c (by simp)
      obtain ⟨f1, f2⟩ := digit_facts hc
      have hw : digits (c :: (u ++ r)) = c :: u := takeWhile_behind (p := isDigit) rfl (s := c :: u) hr h1
      refine ⟨⟨c, u, rfl, f2⟩, ?_⟩
      have hn : numO (c :: (u ++ r)) = some (m : Int) := by unfold numO; rw [hw]; exact h3
      simp only [List.cons_append, nextR, f1, hc, if_true, Bool.false_eq_true, if_false, hw, hn, Tok.key]
      exact ⟨by trivial, by trivial, by trivial⟩
  | quoted s pos hs =>
    have ht : tokText ⟨3, s, 0, pos⟩ = 39 :: (dbl s ++ [39]) := by simp [tokText]
    have hq := quo_dbl s r hr
    rw [ht]
    refine ⟨⟨39, _, rfl, by decide⟩, ?_⟩
    have e1 : isLetter 39 = false := by decide
    have e2 : isDigit 39 = false := by decide
    have e3 : 39 :: (dbl s ++ [39]) ++ r = 39 :: (dbl s ++ 39 :: r) := by simp
    rw [e3]
    simp only [nextR, e1, e2, Bool.false_eq_true, if_false, if_true, hq, Tok.key]
    exact ⟨by trivial, by simpa using hs, by simp⟩
  | mark c pos hc =>
    obtain ⟨f1, f2, f3, f4, f5⟩ := mark_facts hc
    have ht : tokText ⟨4, [c], 0, pos⟩ = [c] := by simp [tokText]
    rw [ht]
    refine ⟨⟨c, [], rfl, f4⟩, ?_⟩
    have hm : markP ([c] ++ r) = ([c], true) := by
      rcases hr with rfl | ⟨r', rfl⟩
      · simp only [List.append_nil, markP, hc]
      · simp only [List.singleton_append, markP, f5, hc, Bool.false_eq_true, if_false]
    have e : nextR ([c] ++ r) = (⟨4, (markP ([c] ++ r)).1, 0, 0⟩, (markP ([c] ++ r)).2, (markP ([c] ++ r)).1.length) := by
      simp only [List.singleton_append, nextR, f1, f2, f3, Bool.false_eq_true, if_false]
    rw [e, hm]
    exact ⟨by trivial, by trivial, by trivial⟩
  | pair c d pos hp =>
    obtain ⟨f1, f2, f3, f4⟩ := pair_facts hp
    have ht : tokText ⟨4, [c, d], 0, pos⟩ = [c, d] := by simp [tokText]
    rw [ht]
    refine ⟨⟨c, [d], rfl, f4⟩, ?_⟩
    have hm : markP ([c, d] ++ r) = ([c, d], true) := by
      simp only [List.cons_append, markP, hp, if_true]
    have e : nextR ([c, d] ++ r) = (⟨4, (markP ([c, d] ++ r)).1, 0, 0⟩, (markP ([c, d] ++ r)).2, (markP ([c, d] ++ r)).1.length) := by
      simp only [List.cons_append, nextR, f1, f2, f3, Bool.false_eq_true, if_false]
    rw [e, hm]
    exact ⟨by trivial, by trivial, by trivial⟩

def restT (ts : List Tok) : List UInt8 := ts.flatMap fun t => 32 :: tokText t

theorem restT_behind (ts : List Tok) : Behind (restT ts) := by
  cases ts with
  | nil => exact .inl rfl
  | cons t ts => exact .inr ⟨tokText t ++ restT ts, rfl⟩

theorem cut_step {t : Tok} (hg : Good t) (pre r : List UInt8) (hpre : pre = [] ∨ pre = [32]) (hr : Behind r) (f i n : Nat) (hn : n ≠ 400) :
    ∃ x i', x.key = t.key ∧ (cutF (f + 1) (pre ++ (tokText t ++ r)) i n).1 = x :: (cutF f r i' (n + 1)).1 ∧ (cutF (f + 1) (pre ++ (tokText t ++ r)) i n).2 = (cutF f r i' (n + 1)).2 := by
  obtain ⟨⟨c, u, hc1, hc2⟩, h1, h2, h3⟩ := nextR_back hg r hr
  have hb : blanks (pre ++ (tokText t ++ r)) = pre.length := by
    have e : ∀ x : List UInt8, (c :: x).takeWhile isBlank = [] := fun x => by rw [List.takeWhile_cons, hc2]; rfl
    unfold blanks
    rw [hc1]
    rcases hpre with rfl | rfl
    · simp only [List.nil_append, List.cons_append, e]
    · have : isBlank 32 = true := by decide
      simp only [List.cons_append, List.nil_append, List.takeWhile_cons, this, hc2]; rfl
  have hdr : (pre ++ (tokText t ++ r)).drop (blanks (pre ++ (tokText t ++ r))) = tokText t ++ r := by rw [hb]; simp
  have hne : (pre ++ (tokText t ++ r)).drop (blanks (pre ++ (tokText t ++ r))) ≠ [] := by rw [hdr, hc1]; simp
  rw [cutF_tok hne hn (by rw [hdr]; exact h2), hdr, h3]
  rw [List.drop_left]
  refine ⟨_, _, ?_, rfl, rfl⟩
  exact h1

theorem cut_rest : ∀ (ts : List Tok), (∀ t ∈ ts, Good t) → ∀ (f i n : Nat), ts.length < f → n + ts.length ≤ 400 → (cutF f (restT ts) i n).1.map Tok.key = ts.map Tok.key ∧ (cutF f (restT ts) i n).2 = none
  | [], _, f, i, n, hf, hn => by
    obtain ⟨f, rfl⟩ : ∃ g, f = g + 1 := ⟨f - 1, by simp at hf; omega⟩
    rw [show restT [] = [] from rfl, cutF_end rfl]
    exact ⟨rfl, rfl⟩
  | t :: ts, hg, f, i, n, hf, hn => by
    obtain ⟨f, rfl⟩ : ∃ g, f = g + 1 := ⟨f - 1, by simp at hf; omega⟩
    simp only [List.length_cons] at hf hn
    obtain ⟨x, i', e1, e2, e3⟩ := cut_step (hg t (by simp)) [32] (restT ts) (.inr rfl) (restT_behind ts) f i n (by omega)
    have ih := cut_rest ts (fun t ht => hg t (List.mem_cons_of_mem _ ht)) f i' (n + 1) (by omega) (by omega)
    rw [show restT (t :: ts) = [32] ++ (tokText t ++ restT ts) from rfl, e2, e3, List.map_cons, List.map_cons, e1, ih.1]
    exact ⟨rfl, ih.2⟩

theorem putT_rest (t : Tok) (ts : List Tok) : putT (t :: ts) = tokText t ++ restT ts := by
  have key : ∀ (l : List Tok) (k : Nat), 0 < k → (l.zipIdx k).flatMap (fun p => (if 0 < p.2 then [(32 : UInt8)] else []) ++ tokText p.1) = restT l := by
    intro l
    induction l with
    | nil => intro k _; rfl
    | cons a l ih =>
      intro k hk
      rw [List.zipIdx_cons, List.flatMap_cons, ih (k + 1) (by omega)]
      simp [restT, hk]
  unfold putT
  rw [List.zipIdx_cons, List.flatMap_cons, key ts 1 (by decide)]
  simp

theorem restT_len : ∀ (ts : List Tok) (N : Nat), (∀ t ∈ ts, (tokText t).length ≤ N) → ts.length ≤ (restT ts).length ∧ (restT ts).length ≤ ts.length * (N + 1)
  | [], N, _ => by simp [restT]
  | t :: ts, N, h => by
    have ih := restT_len ts N (fun t ht => h t (List.mem_cons_of_mem _ ht))
    have h1 := h t (by simp)
    rw [show restT (t :: ts) = 32 :: (tokText t ++ restT ts) from rfl]
    simp only [List.length_cons, List.length_append, Nat.add_mul, Nat.one_mul]
    omega

/-- Tokens that were told are told again of their text. -/
theorem cut_back (ts : List Tok) (hg : ∀ t ∈ ts, Good t) (hl : ts.length ≤ 400) : (cutS (putT ts)).1.map Tok.key = ts.map Tok.key ∧ (cutS (putT ts)).2 = none := by
  cases ts with
  | nil => exact ⟨rfl, rfl⟩
  | cons t ts =>
    have hr := restT_len ts (ts.foldl (fun n t => max n (tokText t).length) 0) ?_
    · obtain ⟨⟨c, u, hc1, _⟩, _⟩ := nextR_back (hg t (by simp)) [] (.inl rfl)
      simp only [List.length_cons] at hl
      unfold cutS
      rw [putT_rest]
      obtain ⟨x, i', e1, e2, e3⟩ := cut_step (hg t (by simp)) [] (restT ts) (.inl rfl) (restT_behind ts) ((tokText t ++ restT ts).length) 0 0 (by decide)
      have hlen : ts.length < (tokText t ++ restT ts).length := by
        rw [List.length_append, hc1, List.length_cons]; omega
      have ih := cut_rest ts (fun t ht => hg t (List.mem_cons_of_mem _ ht)) ((tokText t ++ restT ts).length) i' 1 hlen (by omega)
      rw [List.nil_append] at e2 e3
      rw [e2, e3, List.map_cons, List.map_cons, e1]
      rw [show (0 + 1) = 1 from rfl]
      exact ⟨by rw [ih.1], ih.2⟩
    · have key : ∀ (l : List Tok) (a : Nat), a ≤ l.foldl (fun n t => max n (tokText t).length) a ∧ ∀ t ∈ l, (tokText t).length ≤ l.foldl (fun n t => max n (tokText t).length) a := by
        intro l
        induction l with
        | nil => intro a; exact ⟨Nat.le_refl _, fun t ht => by cases ht⟩
        | cons b l ih =>
          intro a
          have := ih (max a (tokText b).length)
          refine ⟨by rw [List.foldl_cons]; omega, fun t ht => ?_⟩
          rw [List.foldl_cons]
          rcases List.mem_cons.1 ht with rfl | ht
          · omega
          · exact this.2 t ht
      exact (key ts 0).2

end Go.Proofs.Ytcjcmegkfplnkaa
