import Derived.Test.YtnmgamcmjjngcaaY7
set_option linter.unusedVariables false
set_option linter.unusedSimpArgs false
namespace Go.Proofs.Ytnmgamcmjjngcaa
open Go.Av

/-! ### Entries whose indexes run behind b (no program) -/

def Run : Nat → List Entry → Prop
  | _, [] => True
  | b, e :: r => e.index.toNat = b + 1 ∧ Run (b + 1) r

theorem Run.append : ∀ {l : List Entry} {b : Nat} {m : List Entry}, Run b l → Run (b + l.length) m → Run b (l ++ m)
  | [], b, m, _, h => by simpa using h
  | e :: r, b, m, h, g => ⟨h.1, Run.append h.2 (by have : b + 1 + r.length = b + (e :: r).length := by simp; omega
                                                   rw [this]; exact g)⟩
theorem Run.take : ∀ {l : List Entry} {b : Nat} (n : Nat), Run b l → Run b (l.take n)
  | [], _, n, _ => by simp [Run]
  | e :: r, b, 0, _ => trivial
  | e :: r, b, n + 1, h => ⟨h.1, Run.take n h.2⟩
theorem Run.drop : ∀ {l : List Entry} {b : Nat} (n : Nat), Run b l → Run (b + n) (l.drop n)
  | [], _, n, _ => by simp [Run]
  | e :: r, b, 0, h => h
  | e :: r, b, n + 1, h => by
    have := Run.drop n h.2
    rw [show b + (n + 1) = b + 1 + n by omega]
    exact this

theorem Run.le : ∀ {l : List Entry} {b : Nat} (t : UInt64), Run b l → (l.filter fun e => decide (e.index ≤ t)) = l.take (t.toNat - b)
  | [], _, t, _ => by simp
  | e :: r, b, t, h => by
    have ih := Run.le t h.2
    have he := h.1
    by_cases hc : e.index ≤ t
    · have := UInt64.le_iff_toNat_le.1 hc
      rw [List.filter_cons, if_pos (by simpa using hc), ih, show t.toNat - b = (t.toNat - (b + 1)) + 1 by omega]; rfl
    · have : ¬ e.index.toNat ≤ t.toNat := fun g => hc (UInt64.le_iff_toNat_le.2 g)
      rw [List.filter_cons, if_neg (by simpa using hc), ih, show t.toNat - b = 0 by omega, show t.toNat - (b + 1) = 0 by omega]; rfl
theorem Run.lt : ∀ {l : List Entry} {b : Nat} (t : UInt64), Run b l → (l.filter fun e => decide (e.index < t)) = l.take (t.toNat - (b + 1))
  | [], _, t, _ => by simp
  | e :: r, b, t, h => by
    have ih := Run.lt t h.2
    have he := h.1
    by_cases hc : e.index < t
    · have := UInt64.lt_iff_toNat_lt.1 hc
      rw [List.filter_cons, if_pos (by simpa using hc), ih, show t.toNat - (b + 1) = (t.toNat - (b + 1 + 1)) + 1 by omega]; rfl
    · have : ¬ e.index.toNat < t.toNat := fun g => hc (UInt64.lt_iff_toNat_lt.2 g)
      rw [List.filter_cons, if_neg (by simpa using hc), ih, show t.toNat - (b + 1) = 0 by omega, show t.toNat - (b + 1 + 1) = 0 by omega]; rfl
theorem Run.ge : ∀ {l : List Entry} {b : Nat} (t : UInt64), Run b l → (l.filter fun e => decide (t ≤ e.index)) = l.drop (t.toNat - (b + 1))
  | [], _, t, _ => by simp
  | e :: r, b, t, h => by
    have ih := Run.ge t h.2
    have he := h.1
    by_cases hc : t ≤ e.index
    · have := UInt64.le_iff_toNat_le.1 hc
      rw [List.filter_cons, if_pos (by simpa using hc), ih, show t.toNat - (b + 1) = 0 by omega, show t.toNat - (b + 1 + 1) = 0 by omega]; rfl
    · have : ¬ t.toNat ≤ e.index.toNat := fun g => hc (UInt64.le_iff_toNat_le.2 g)
      rw [List.filter_cons, if_neg (by simpa using hc), ih, show t.toNat - (b + 1) = (t.toNat - (b + 1 + 1)) + 1 by omega]; rfl
theorem Run.find : ∀ {l : List Entry} {b : Nat} (t : UInt64), Run b l → b < t.toNat → l.find? (fun e => e.index == t) = l[t.toNat - b - 1]?
  | [], _, t, _, _ => by simp
  | e :: r, b, t, h, hb => by
    have he := h.1
    by_cases hc : e.index = t
    · have : e.index.toNat = t.toNat := by rw [hc]
      rw [List.find?_cons_of_pos (by simpa using hc), show t.toNat - b - 1 = 0 by omega]; rfl
    · have : e.index.toNat ≠ t.toNat := fun g => hc (UInt64.toNat_inj.1 g)
      have ih := Run.find t h.2 (by omega)
      rw [List.find?_cons_of_neg (by simpa using hc), ih, show t.toNat - b - 1 = (t.toNat - (b + 1) - 1) + 1 by omega, List.getElem?_cons_succ]

theorem follow_run : ∀ (r : List Entry) (x : Entry) (b : Nat), x.index.toNat = b + 1 → follow (x :: r) = true → b + 1 + r.length < 18446744073709551616 → Run b (x :: r)
  | [], x, b, h, _, _ => ⟨h, trivial⟩
  | y :: r, x, b, h, hf, hb => by
    simp only [follow, Bool.and_eq_true, beq_iff_eq] at hf
    have hy : y.index = x.index + 1 := by rw [← hf.1]; simp
    have hy2 : y.index.toNat = b + 1 + 1 := by
      rw [hy, UInt64.toNat_add, h]
      show (b + 1 + 1) % 18446744073709551616 = b + 1 + 1
      simp only [List.length_cons] at hb
      exact Nat.mod_eq_of_lt (by omega)
    exact ⟨h, follow_run r y (b + 1) hy2 hf.2 (by simp only [List.length_cons] at hb; omega)⟩

/-- What the reference's loop looks at. -/
def chk (a : UInt64) : Nat → List Entry → Bool
  | _, [] => true
  | i, e :: r => e.index == a + UInt64.ofNat i && chk a (i + 1) r

theorem chk_follow (a : UInt64) : ∀ (r : List Entry) (e : Entry) (i : Nat), e.index = a + UInt64.ofNat i → chk a i (e :: r) = follow (e :: r)
  | [], e, i, h => by simp [chk, follow, h]
  | f :: r, e, i, h => by
    have h1 : (f.index - 1 == e.index) = (f.index == a + UInt64.ofNat (i + 1)) := by
      rw [h, UInt64.ofNat_add, ← UInt64.add_assoc]
      generalize a + UInt64.ofNat i = z
      show (f.index - 1 == z) = (f.index == z + 1)
      by_cases hc : f.index = z + 1
      · have e1 : f.index - 1 = z := by rw [hc, UInt64.add_sub_cancel]
        rw [beq_iff_eq.2 e1, beq_iff_eq.2 hc]
      · have : f.index - 1 ≠ z := fun g => hc (by rw [← g, UInt64.sub_add_cancel])
        rw [beq_eq_false_iff_ne.2 this, beq_eq_false_iff_ne.2 hc]
    have h2 : chk a i (e :: f :: r) = chk a (i + 1) (f :: r) := by
      show (e.index == a + UInt64.ofNat i && chk a (i + 1) (f :: r)) = _
      rw [h]; simp
    have h3 : follow (e :: f :: r) = ((f.index - 1 == e.index) && follow (f :: r)) := rfl
    rw [h2, h3, h1]
    by_cases hc : f.index = a + UInt64.ofNat (i + 1)
    · rw [chk_follow a r f (i + 1) hc, beq_iff_eq.2 hc, Bool.true_and]
    · show (f.index == a + UInt64.ofNat (i + 1) && chk a (i + 1 + 1) r) = _
      rw [beq_eq_false_iff_ne.2 hc, Bool.false_and, Bool.false_and]

theorem tell1_len (d : List UInt64 × UInt64) (e : Entry) (h : d.1.length ≤ 9) : (tell1 d e).1.length ≤ 9 := by
  unfold tell1
  split
  · next m hm =>
    unfold tells at hm
    split at hm
    · exact ofM_len _ _ hm
    · cases hm
  · exact h
theorem told_len : ∀ (l : List Entry) (d : List UInt64 × UInt64), d.1.length ≤ 9 → (told d l).1.length ≤ 9
  | [], _, h => h
  | e :: r, d, h => told_len r (tell1 d e) (tell1_len d e h)

/-- A log whose entries stand one behind the other, with room for more. -/
structure Log.ok (L : Log) (n : Nat) : Prop where
  run : Run L.s.index.toNat L.l
  len : L.l.length ≤ 20 * n
  top : L.s.index.toNat + L.l.length ≤ 4611686018427387904 + 20 * n
  small : ∀ x ∈ L.l, x.data.length ≤ 100
  members : L.s.members.length ≤ 9
  data : L.s.data.length ≤ 200

theorem Log.ok.more {L : Log} {n m : Nat} (h : L.ok n) (hm : n ≤ m) : L.ok m := ⟨h.run, by have := h.len; omega, by have := h.top; omega, h.small, h.members, h.data⟩

theorem Log.ok.append {L : Log} {n : Nat} (h : L.ok n) (hn : n ≤ 100) {e : List Entry} (he : e.length ≤ 12) (hd : ∀ x ∈ e, x.data.length ≤ 100) : (L.append e).1.ok (n + 1) := by
  match e, he, hd with
  | [], _, _ => exact h.more (Nat.le_succ n)
  | x :: r, he, hd =>
    by_cases hc : follow (x :: r) = true ∧ L.s.index + 1 ≤ x.index ∧ x.index - 1 ≤ L.s.index + UInt64.ofNat L.l.length
    · obtain ⟨hf, hA, hB⟩ := hc
      have h1 := h.len
      have h2 := h.top
      have h4 : (UInt64.ofNat L.l.length).toNat = L.l.length := UInt64.toNat_ofNat_of_lt' (by simp only [UInt64.size]; omega)
      have hA' := UInt64.le_iff_toNat_le.1 hA
      have hB' := UInt64.le_iff_toNat_le.1 hB
      have hx := x.index.toNat_lt
      have hk : (x.index - (L.s.index + 1)).toNat ≤ L.l.length ∧ x.index.toNat = L.s.index.toNat + (x.index - (L.s.index + 1)).toNat + 1 := by
        simp only [UInt64.toNat_add, UInt64.toNat_sub, h4] at hA' hB' ⊢
        simp at hA' hB' ⊢
        omega
      rw [Log.append_good L x r hf hA hB]
      generalize (x.index - (L.s.index + 1)).toNat = k at hk
      have h5 : (L.l.take k).length = k := by rw [List.length_take]; omega
      refine ⟨?_, ?_, ?_, ?_, h.members, h.data⟩
      · refine (h.run.take k).append ?_
        rw [h5]
        exact follow_run r x _ hk.2 hf (by simp only [List.length_cons] at he; omega)
      · show (L.l.take k ++ x :: r).length ≤ _
        rw [List.length_append, h5]; omega
      · show L.s.index.toNat + (L.l.take k ++ x :: r).length ≤ _
        rw [List.length_append, h5]; omega
      · intro y hy
        rcases List.mem_append.1 hy with g | g
        · exact h.small y (List.mem_of_mem_take g)
        · exact hd y g
    · rw [Log.append, if_neg hc]
      exact h.more (Nat.le_succ n)

theorem Log.ok.compact {L : Log} {n : Nat} (h : L.ok n) (hn : n ≤ 100) (i : UInt64) {data : List UInt8} (hd : data.length ≤ 200) : (L.compact i data).1.ok (n + 1) := by
  have h1 := h.len
  have h2 := h.top
  by_cases hc : L.s.index + 1 ≤ i ∧ i ≤ L.s.index + UInt64.ofNat L.l.length
  · obtain ⟨n1, n2, n3⟩ := place_in (by omega) (by omega) hc.1 hc.2
    rw [Log.compact, if_pos hc]
    generalize (i - L.s.index).toNat = k at n1 n2 n3
    refine ⟨?_, ?_, ?_, ?_, ?_, hd⟩
    · show Run i.toNat (L.l.drop k)
      rw [n3]; exact h.run.drop k
    · show (L.l.drop k).length ≤ _
      rw [List.length_drop]; omega
    · show i.toNat + (L.l.drop k).length ≤ _
      rw [List.length_drop]; omega
    · intro y hy; exact h.small y (List.mem_of_mem_drop hy)
    · exact told_len _ _ h.members
  · rw [Log.compact, if_neg hc]
    exact h.more (Nat.le_succ n)

theorem Log.ok.clean {L : Log} {n : Nat} (h : L.ok n) : Log.ok { L with dirty := 0, fresh := false } n := ⟨h.run, h.len, h.top, h.small, h.members, h.data⟩

end Go.Proofs.Ytnmgamcmjjngcaa
