import Derived.Test.YtnmgamcmjjngcaaM12
set_option linter.unusedVariables false
set_option linter.unusedSimpArgs false
namespace Go.Proofs.Ytnmgamcmjjngcaa
open Go.Av


theorem wn_list (l : List UInt64) (hl : l.length ≤ 1000) (p : Nat) (h₀ : AHeap) (k : List RT) (Q : AV → AHeap → Prop) (acc : List UInt8) (hacc : acc.length ≤ 1000000)
    (hkk : ∀ h', WAt h₀ p (acc ++ putNs l) h' → RRun Try.prog Try.f78 52 k (Env.get []) h' Q) : ∀ (m j : Nat) (h : AHeap), j + m = l.length → WAt h₀ p (acc ++ putNs (l.take j)) h →
    RRun Try.prog Try.f78 52 (.inLoop r78l0 :: .inBlock 0 :: k) (Env.get [(0, ptr p), (9, u64s l), (10, i64 l.length), (11, i64 j)]) h Q := by
  have hla : (l.map fun x => [enc x]).length = l.length := by simp
  intro m
  induction m with
  | zero =>
    intro j h hj hw
    refine RRun.inLoop ?_
    repeat' (first | refine S.nilK ?_ | (refine S.op rfl ?_; first | refine R.mv rfl ?_ | refine R.fieldAddr rfl ?_ | refine R.fieldAddrR rfl ?_ | refine R.nilCheck rfl ?_ | refine R.nilCheckR rfl ?_ | refine R.loadR rfl rfl ?_ | refine R.load (by decide) rfl (by (repeat' (first | assumption | exact AHeap.set_same _ _ _ | refine AHeap.get_fresh ‹_› ?_ | refine AHeap.so ?_ ?_ | exact AHeap.n1 ‹_› | exact AHeap.n2 ‹_› | exact AHeap.ne_of ‹_› ‹_› | exact AHeap.n4 ‹_› ‹_› | exact AHeap.n5 ‹_› | exact AHeap.n6 ‹_› | exact AHeap.n7 ‹_› ‹_› | exact AHeap.n8 ‹_› ‹_›)); first | done | fail) rfl ?_ | refine S.addI rfl rfl (by omega) ?_ | refine S.subI rfl rfl (by omega) ?_ | refine S.addU rfl rfl ?_ | refine S.subU rfl rfl ?_ | refine S.addUc rfl (by decide) ?_ | refine S.subUc rfl (by decide) ?_ | refine S.arith rfl rfl rfl ?_ | refine R.len rfl ?_ | refine R.lenA rfl ?_ | refine R.lenStr rfl ?_ | refine S.convIU rfl (by omega) ?_ | refine S.convUI rfl (by omega) ?_ | refine R.convInt rfl ?_ | refine R.eqPtrNil rfl rfl ?_ | refine R.buildSl rfl rfl rfl (by decide) ?_ | ((first | refine S.lss rfl rfl ?_ ?_ | refine S.gtr rfl rfl ?_ ?_ | refine S.geq rfl rfl ?_ ?_ | refine S.eqInt rfl rfl ?_ ?_) <;> intro hlt <;> try (exfalso; omega))) | (refine S.op0 rfl ?_; first | refine S.storeS rfl rfl rfl (by rfl) rfl (by first | decide | exact Nat.le_refl _ | exact Nat.le_of_ble_eq_true rfl) ?_ | refine S.store rfl rfl (by (repeat' (first | assumption | exact AHeap.set_same _ _ _ | refine AHeap.get_fresh ‹_› ?_ | refine AHeap.so ?_ ?_ | exact AHeap.n1 ‹_› | exact AHeap.n2 ‹_› | exact AHeap.ne_of ‹_› ‹_› | exact AHeap.n4 ‹_› ‹_› | exact AHeap.n5 ‹_› | exact AHeap.n6 ‹_› | exact AHeap.n7 ‹_› ‹_› | exact AHeap.n8 ‹_› ‹_›)); first | done | fail) rfl rfl rfl (by rfl) rfl ?_) | refine S.skip rfl ?_ | refine S.skip0 rfl ?_ | refine S.seq ?_ | refine S.region ?_ | refine S.condT rfl ?_ | refine S.condF rfl ?_ | refine RRun.skip ?_ | refine RRun.block ?_ | refine RRun.inBlock ?_ | refine RRun.exit rfl ?_)
    rw [List.take_of_length_le (by omega)] at hw
    exact S.keep [] rfl (hkk h hw)
  | succ m ih =>
    intro j h hj hw
    have hlt : j < l.length := by omega
    obtain ⟨v, hv⟩ : ∃ v, l[j]? = some v := ⟨l[j], List.getElem?_eq_getElem hlt⟩
    have hga : (l.map fun x => [enc x])[((j : Nat) : Int).toNat]? = some [enc v] := by simp only [Int.toNat_natCast, List.getElem?_map, hv]; rfl
    have htk : l.take (j + 1) = l.take j ++ [v] := by rw [List.take_add_one, hv]; rfl
    have hpn : putNs (l.take (j + 1)) = putNs (l.take j) ++ putN v.toNat := by rw [htk]; simp [putNs]
    have hlen : ∀ i, i ≤ l.length → (putNs (l.take i)).length ≤ 10 * i := by
      intro i
      induction i with
      | zero => intro _; simp [putNs]
      | succ i ihi =>
        intro hi
        obtain ⟨w, hw⟩ : ∃ w, l[i]? = some w := ⟨l[i], List.getElem?_eq_getElem (by omega)⟩
        have e : l.take (i + 1) = l.take i ++ [w] := by rw [List.take_add_one, hw]; rfl
        have e2 : putNs (l.take (i + 1)) = putNs (l.take i) ++ putN w.toNat := by rw [e]; simp [putNs]
        have := ihi (by omega)
        have := putN_len (UInt64.toNat_lt w)
        rw [e2, List.length_append]; omega
    have hlj := hlen j (by omega)
    have hA : (acc ++ putNs (l.take j)).length ≤ 1010000 := by rw [List.length_append]; omega
    have ih' := fun h' => ih (j + 1) h' (by omega)
    rw [hpn, ← List.append_assoc] at ih'
    generalize acc ++ putNs (l.take j) = A at hw hA ih'
    refine RRun.inLoop ?_
    repeat' (first | refine S.nilK ?_ | (refine S.op rfl ?_; first | refine R.indexAddr (cc := .ro) (es := l.map fun x => [enc x]) rfl rfl (by omega) hga ?_ | refine R.mv rfl ?_ | refine R.fieldAddr rfl ?_ | refine R.fieldAddrR rfl ?_ | refine R.nilCheck rfl ?_ | refine R.nilCheckR rfl ?_ | refine R.loadR rfl rfl ?_ | refine R.load (by decide) rfl (by (repeat' (first | assumption | exact AHeap.set_same _ _ _ | refine AHeap.get_fresh ‹_› ?_ | refine AHeap.so ?_ ?_ | exact AHeap.n1 ‹_› | exact AHeap.n2 ‹_› | exact AHeap.ne_of ‹_› ‹_› | exact AHeap.n4 ‹_› ‹_› | exact AHeap.n5 ‹_› | exact AHeap.n6 ‹_› | exact AHeap.n7 ‹_› ‹_› | exact AHeap.n8 ‹_› ‹_›)); first | done | fail) rfl ?_ | refine S.addI rfl rfl (by omega) ?_ | refine S.subI rfl rfl (by omega) ?_ | refine S.addU rfl rfl ?_ | refine S.subU rfl rfl ?_ | refine S.addUc rfl (by decide) ?_ | refine S.subUc rfl (by decide) ?_ | refine S.arith rfl rfl rfl ?_ | refine R.len rfl ?_ | refine R.lenA rfl ?_ | refine R.lenStr rfl ?_ | refine S.convIU rfl (by omega) ?_ | refine S.convUI rfl (by omega) ?_ | refine R.convInt rfl ?_ | refine R.eqPtrNil rfl rfl ?_ | refine R.buildSl rfl rfl rfl (by decide) ?_ | ((first | refine S.lss rfl rfl ?_ ?_ | refine S.gtr rfl rfl ?_ ?_ | refine S.geq rfl rfl ?_ ?_ | refine S.eqInt rfl rfl ?_ ?_) <;> intro hlt <;> try (exfalso; omega))) | (refine S.op0 rfl ?_; first | refine S.storeS rfl rfl rfl (by rfl) rfl (by first | decide | exact Nat.le_refl _ | exact Nat.le_of_ble_eq_true rfl) ?_ | refine S.store rfl rfl (by (repeat' (first | assumption | exact AHeap.set_same _ _ _ | refine AHeap.get_fresh ‹_› ?_ | refine AHeap.so ?_ ?_ | exact AHeap.n1 ‹_› | exact AHeap.n2 ‹_› | exact AHeap.ne_of ‹_› ‹_› | exact AHeap.n4 ‹_› ‹_› | exact AHeap.n5 ‹_› | exact AHeap.n6 ‹_› | exact AHeap.n7 ‹_› ‹_› | exact AHeap.n8 ‹_› ‹_›)); first | done | fail) rfl rfl rfl (by rfl) rfl ?_) | refine S.skip rfl ?_ | refine S.skip0 rfl ?_ | refine S.seq ?_ | refine S.region ?_ | refine S.condT rfl ?_ | refine S.condF rfl ?_ | refine RRun.skip ?_ | refine RRun.block ?_ | refine RRun.inBlock ?_ | refine RRun.exit rfl ?_)
    refine RRun.loopIn (S.keep [0, 5, 6, 9, 10, 11] (l' := [(0, ptr p), (5, enc v), (6, i64 (7 * 0 : Nat)), (9, u64s l), (10, i64 l.length), (11, i64 j)]) rfl (wn_shift v [] _ _ h _ _ _ _ (fun s hs1 hs2 hs3 => ?_) 9 0 (by omega) (fun i hi => by omega)))
    repeat' (first | refine S.nilK ?_ | (refine S.op rfl ?_; first | refine R.mv rfl ?_ | refine R.fieldAddr rfl ?_ | refine R.fieldAddrR rfl ?_ | refine R.nilCheck rfl ?_ | refine R.nilCheckR rfl ?_ | refine R.loadR rfl rfl ?_ | refine R.load (by decide) rfl (by (repeat' (first | assumption | exact AHeap.set_same _ _ _ | refine AHeap.get_fresh ‹_› ?_ | refine AHeap.so ?_ ?_ | exact AHeap.n1 ‹_› | exact AHeap.n2 ‹_› | exact AHeap.ne_of ‹_› ‹_› | exact AHeap.n4 ‹_› ‹_› | exact AHeap.n5 ‹_› | exact AHeap.n6 ‹_› | exact AHeap.n7 ‹_› ‹_› | exact AHeap.n8 ‹_› ‹_›)); first | done | fail) rfl ?_ | refine S.addI rfl rfl (by omega) ?_ | refine S.subI rfl rfl (by omega) ?_ | refine S.addU rfl rfl ?_ | refine S.subU rfl rfl ?_ | refine S.addUc rfl (by decide) ?_ | refine S.subUc rfl (by decide) ?_ | refine S.arith rfl rfl rfl ?_ | refine R.len rfl ?_ | refine R.lenA rfl ?_ | refine R.lenStr rfl ?_ | refine S.convIU rfl (by omega) ?_ | refine S.convUI rfl (by omega) ?_ | refine R.convInt rfl ?_ | refine R.eqPtrNil rfl rfl ?_ | refine R.buildSl rfl rfl rfl (by decide) ?_ | ((first | refine S.lss rfl rfl ?_ ?_ | refine S.gtr rfl rfl ?_ ?_ | refine S.geq rfl rfl ?_ ?_ | refine S.eqInt rfl rfl ?_ ?_) <;> intro hlt <;> try (exfalso; omega))) | (refine S.op0 rfl ?_; first | refine S.storeS rfl rfl rfl (by rfl) rfl (by first | decide | exact Nat.le_refl _ | exact Nat.le_of_ble_eq_true rfl) ?_ | refine S.store rfl rfl (by (repeat' (first | assumption | exact AHeap.set_same _ _ _ | refine AHeap.get_fresh ‹_› ?_ | refine AHeap.so ?_ ?_ | exact AHeap.n1 ‹_› | exact AHeap.n2 ‹_› | exact AHeap.ne_of ‹_› ‹_› | exact AHeap.n4 ‹_› ‹_› | exact AHeap.n5 ‹_› | exact AHeap.n6 ‹_› | exact AHeap.n7 ‹_› ‹_› | exact AHeap.n8 ‹_› ‹_›)); first | done | fail) rfl rfl rfl (by rfl) rfl ?_) | refine S.skip rfl ?_ | refine S.skip0 rfl ?_ | refine S.seq ?_ | refine S.region ?_ | refine S.condT rfl ?_ | refine S.condF rfl ?_ | refine RRun.skip ?_ | refine RRun.block ?_ | refine RRun.inBlock ?_ | refine RRun.exit rfl ?_)
    refine RRun.loopIn (S.keep [0, 5, 6, 9, 10, 11] rfl (wn_bytes v p h₀ _ _ _ _ _ s A h hs1 (by omega) hw (fun h2 hw2 => ?_)))
    obtain ⟨c0, hp, ho, h0p, h0t, hpt, hb⟩ := hw2
    have hm : v.toNat % 256 < 256 := Nat.mod_lt _ (by decide)
    have hmm : v.toNat % 256 % 128 = v.toNat % 128 := Nat.mod_mod_of_dvd _ (by decide)
    have hs4 : (A ++ Go.Proofs.Ytnmgamcmjjngcaa.hk v.toNat s).length ≤ 1020000 := by rw [List.length_append, hk_len]; omega
    have hput : A ++ putN v.toNat = A ++ Go.Proofs.Ytnmgamcmjjngcaa.hk v.toNat s ++ [UInt8.ofNat (v.toNat % 128)] := by
      unfold putN
      rw [hiB_hk s v.toNat hs2 hs3]; simp
    rw [hput] at ih'
    repeat' (first | refine S.nilK ?_ | (refine S.op rfl ?_; first | refine S.conv8N rfl ?_ | refine S.low7 hm rfl ?_ | refine R.mv rfl ?_ | refine R.fieldAddr rfl ?_ | refine R.fieldAddrR rfl ?_ | refine R.nilCheck rfl ?_ | refine R.nilCheckR rfl ?_ | refine R.loadR rfl rfl ?_ | refine R.load (by decide) rfl (by (repeat' (first | assumption | exact AHeap.set_same _ _ _ | refine AHeap.get_fresh ‹_› ?_ | refine AHeap.so ?_ ?_ | exact AHeap.n1 ‹_› | exact AHeap.n2 ‹_› | exact AHeap.ne_of ‹_› ‹_› | exact AHeap.n4 ‹_› ‹_› | exact AHeap.n5 ‹_› | exact AHeap.n6 ‹_› | exact AHeap.n7 ‹_› ‹_› | exact AHeap.n8 ‹_› ‹_›)); first | done | fail) rfl ?_ | refine S.addI rfl rfl (by omega) ?_ | refine S.subI rfl rfl (by omega) ?_ | refine S.addU rfl rfl ?_ | refine S.subU rfl rfl ?_ | refine S.addUc rfl (by decide) ?_ | refine S.subUc rfl (by decide) ?_ | refine S.arith rfl rfl rfl ?_ | refine R.len rfl ?_ | refine R.lenA rfl ?_ | refine R.lenStr rfl ?_ | refine S.convIU rfl (by omega) ?_ | refine S.convUI rfl (by omega) ?_ | refine R.convInt rfl ?_ | refine R.eqPtrNil rfl rfl ?_ | refine R.buildSl rfl rfl rfl (by decide) ?_ | ((first | refine S.lss rfl rfl ?_ ?_ | refine S.gtr rfl rfl ?_ ?_ | refine S.geq rfl rfl ?_ ?_ | refine S.eqInt rfl rfl ?_ ?_) <;> intro hlt <;> try (exfalso; omega))) | (refine S.op0 rfl ?_; first | refine S.storeS rfl rfl rfl (by rfl) rfl (by first | decide | exact Nat.le_refl _ | exact Nat.le_of_ble_eq_true rfl) ?_ | refine S.store rfl rfl (by (repeat' (first | assumption | exact AHeap.set_same _ _ _ | refine AHeap.get_fresh ‹_› ?_ | refine AHeap.so ?_ ?_ | exact AHeap.n1 ‹_› | exact AHeap.n2 ‹_› | exact AHeap.ne_of ‹_› ‹_› | exact AHeap.n4 ‹_› ‹_› | exact AHeap.n5 ‹_› | exact AHeap.n6 ‹_› | exact AHeap.n7 ‹_› ‹_› | exact AHeap.n8 ‹_› ‹_›)); first | done | fail) rfl rfl rfl (by rfl) rfl ?_) | refine S.skip rfl ?_ | refine S.skip0 rfl ?_ | refine S.seq ?_ | refine S.region ?_ | refine S.condT rfl ?_ | refine S.condF rfl ?_ | refine RRun.skip ?_ | refine RRun.block ?_ | refine RRun.inBlock ?_ | refine RRun.exit rfl ?_)
    rw [hmm]
    refine S.op rfl (S.wapp (ys := [UInt8.ofNat (v.toNat % 128)]) rfl hp ho h0p h0t hpt hb rfl rfl (.sl _ _) (by simp only [List.length_cons, List.length_nil]; omega) (fun c' h' hp' hw' => ?_))
    repeat' (first | refine S.nilK ?_ | (refine S.op rfl ?_; first | refine R.mv rfl ?_ | refine R.fieldAddr rfl ?_ | refine R.fieldAddrR rfl ?_ | refine R.nilCheck rfl ?_ | refine R.nilCheckR rfl ?_ | refine R.loadR rfl rfl ?_ | refine R.load (by decide) rfl (by (repeat' (first | assumption | exact AHeap.set_same _ _ _ | refine AHeap.get_fresh ‹_› ?_ | refine AHeap.so ?_ ?_ | exact AHeap.n1 ‹_› | exact AHeap.n2 ‹_› | exact AHeap.ne_of ‹_› ‹_› | exact AHeap.n4 ‹_› ‹_› | exact AHeap.n5 ‹_› | exact AHeap.n6 ‹_› | exact AHeap.n7 ‹_› ‹_› | exact AHeap.n8 ‹_› ‹_›)); first | done | fail) rfl ?_ | refine S.addI rfl rfl (by omega) ?_ | refine S.subI rfl rfl (by omega) ?_ | refine S.addU rfl rfl ?_ | refine S.subU rfl rfl ?_ | refine S.addUc rfl (by decide) ?_ | refine S.subUc rfl (by decide) ?_ | refine S.arith rfl rfl rfl ?_ | refine R.len rfl ?_ | refine R.lenA rfl ?_ | refine R.lenStr rfl ?_ | refine S.convIU rfl (by omega) ?_ | refine S.convUI rfl (by omega) ?_ | refine R.convInt rfl ?_ | refine R.eqPtrNil rfl rfl ?_ | refine R.buildSl rfl rfl rfl (by decide) ?_ | ((first | refine S.lss rfl rfl ?_ ?_ | refine S.gtr rfl rfl ?_ ?_ | refine S.geq rfl rfl ?_ ?_ | refine S.eqInt rfl rfl ?_ ?_) <;> intro hlt <;> try (exfalso; omega))) | (refine S.op0 rfl ?_; first | refine S.storeS rfl rfl rfl (by rfl) rfl (by first | decide | exact Nat.le_refl _ | exact Nat.le_of_ble_eq_true rfl) ?_ | refine S.store rfl rfl (by (repeat' (first | assumption | exact AHeap.set_same _ _ _ | refine AHeap.get_fresh ‹_› ?_ | refine AHeap.so ?_ ?_ | exact AHeap.n1 ‹_› | exact AHeap.n2 ‹_› | exact AHeap.ne_of ‹_› ‹_› | exact AHeap.n4 ‹_› ‹_› | exact AHeap.n5 ‹_› | exact AHeap.n6 ‹_› | exact AHeap.n7 ‹_› ‹_› | exact AHeap.n8 ‹_› ‹_›)); first | done | fail) rfl rfl rfl (by rfl) rfl ?_) | refine S.skip rfl ?_ | refine S.skip0 rfl ?_ | refine S.seq ?_ | refine S.region ?_ | refine S.condT rfl ?_ | refine S.condF rfl ?_ | refine RRun.skip ?_ | refine RRun.block ?_ | refine RRun.inBlock ?_ | refine RRun.exit rfl ?_)
    rw [show ((j : Int) + 1) = ((j + 1 : Nat) : Int) by omega]
    exact S.keep [0, 9, 10, 11] rfl (ih' _ hw')

theorem wN_spec (l : List UInt64) (hl : l.length ≤ 1000) (p : Nat) (h₀ h : AHeap) (acc : List UInt8) (hacc : acc.length ≤ 1000000) (hw : WAt h₀ p acc h) :
    ACalls Try.prog 78 [ptr p, u64s l] h (fun _ h' => WAt h₀ p (acc ++ putNs l) h') := by
  obtain ⟨c, hc1, hc2⟩ := res78
  refine ACalls.enter Try.func78 hc1 Try.ntmps78 hc2 (Nat.le_of_ble_eq_true rfl) rfl ?_
  have hla : (l.map fun x => [enc x]).length = l.length := by simp
  repeat' (first | refine S.nilK ?_ | (refine S.op rfl ?_; first | refine R.mv rfl ?_ | refine R.fieldAddr rfl ?_ | refine R.fieldAddrR rfl ?_ | refine R.nilCheck rfl ?_ | refine R.nilCheckR rfl ?_ | refine R.loadR rfl rfl ?_ | refine R.load (by decide) rfl (by (repeat' (first | assumption | exact AHeap.set_same _ _ _ | refine AHeap.get_fresh ‹_› ?_ | refine AHeap.so ?_ ?_ | exact AHeap.n1 ‹_› | exact AHeap.n2 ‹_› | exact AHeap.ne_of ‹_› ‹_› | exact AHeap.n4 ‹_› ‹_› | exact AHeap.n5 ‹_› | exact AHeap.n6 ‹_› | exact AHeap.n7 ‹_› ‹_› | exact AHeap.n8 ‹_› ‹_›)); first | done | fail) rfl ?_ | refine S.addI rfl rfl (by omega) ?_ | refine S.subI rfl rfl (by omega) ?_ | refine S.addU rfl rfl ?_ | refine S.subU rfl rfl ?_ | refine S.addUc rfl (by decide) ?_ | refine S.subUc rfl (by decide) ?_ | refine S.arith rfl rfl rfl ?_ | refine R.len rfl ?_ | refine R.lenA rfl ?_ | refine R.lenStr rfl ?_ | refine S.convIU rfl (by omega) ?_ | refine S.convUI rfl (by omega) ?_ | refine R.convInt rfl ?_ | refine R.eqPtrNil rfl rfl ?_ | refine R.buildSl rfl rfl rfl (by decide) ?_ | ((first | refine S.lss rfl rfl ?_ ?_ | refine S.gtr rfl rfl ?_ ?_ | refine S.geq rfl rfl ?_ ?_ | refine S.eqInt rfl rfl ?_ ?_) <;> intro hlt <;> try (exfalso; omega))) | (refine S.op0 rfl ?_; first | refine S.storeS rfl rfl rfl (by rfl) rfl (by first | decide | exact Nat.le_refl _ | exact Nat.le_of_ble_eq_true rfl) ?_ | refine S.store rfl rfl (by (repeat' (first | assumption | exact AHeap.set_same _ _ _ | refine AHeap.get_fresh ‹_› ?_ | refine AHeap.so ?_ ?_ | exact AHeap.n1 ‹_› | exact AHeap.n2 ‹_› | exact AHeap.ne_of ‹_› ‹_› | exact AHeap.n4 ‹_› ‹_› | exact AHeap.n5 ‹_› | exact AHeap.n6 ‹_› | exact AHeap.n7 ‹_› ‹_› | exact AHeap.n8 ‹_› ‹_›)); first | done | fail) rfl rfl rfl (by rfl) rfl ?_) | refine S.skip rfl ?_ | refine S.skip0 rfl ?_ | refine S.seq ?_ | refine S.region ?_ | refine S.condT rfl ?_ | refine S.condF rfl ?_ | refine RRun.skip ?_ | refine RRun.block ?_ | refine RRun.inBlock ?_ | refine RRun.exit rfl ?_)
  rw [hla]
  refine RRun.loopIn (S.keep [0, 9, 10, 11] rfl (wn_list l hl p h₀ _ _ acc hacc (fun h' hw' => ?_) l.length 0 h (by omega) (by simpa [putNs] using hw)))
  repeat' (first | refine S.nilK ?_ | (refine S.op rfl ?_; first | refine R.mv rfl ?_ | refine R.fieldAddr rfl ?_ | refine R.fieldAddrR rfl ?_ | refine R.nilCheck rfl ?_ | refine R.nilCheckR rfl ?_ | refine R.loadR rfl rfl ?_ | refine R.load (by decide) rfl (by (repeat' (first | assumption | exact AHeap.set_same _ _ _ | refine AHeap.get_fresh ‹_› ?_ | refine AHeap.so ?_ ?_ | exact AHeap.n1 ‹_› | exact AHeap.n2 ‹_› | exact AHeap.ne_of ‹_› ‹_› | exact AHeap.n4 ‹_› ‹_› | exact AHeap.n5 ‹_› | exact AHeap.n6 ‹_› | exact AHeap.n7 ‹_› ‹_› | exact AHeap.n8 ‹_› ‹_›)); first | done | fail) rfl ?_ | refine S.addI rfl rfl (by omega) ?_ | refine S.subI rfl rfl (by omega) ?_ | refine S.addU rfl rfl ?_ | refine S.subU rfl rfl ?_ | refine S.addUc rfl (by decide) ?_ | refine S.subUc rfl (by decide) ?_ | refine S.arith rfl rfl rfl ?_ | refine R.len rfl ?_ | refine R.lenA rfl ?_ | refine R.lenStr rfl ?_ | refine S.convIU rfl (by omega) ?_ | refine S.convUI rfl (by omega) ?_ | refine R.convInt rfl ?_ | refine R.eqPtrNil rfl rfl ?_ | refine R.buildSl rfl rfl rfl (by decide) ?_ | ((first | refine S.lss rfl rfl ?_ ?_ | refine S.gtr rfl rfl ?_ ?_ | refine S.geq rfl rfl ?_ ?_ | refine S.eqInt rfl rfl ?_ ?_) <;> intro hlt <;> try (exfalso; omega))) | (refine S.op0 rfl ?_; first | refine S.storeS rfl rfl rfl (by rfl) rfl (by first | decide | exact Nat.le_refl _ | exact Nat.le_of_ble_eq_true rfl) ?_ | refine S.store rfl rfl (by (repeat' (first | assumption | exact AHeap.set_same _ _ _ | refine AHeap.get_fresh ‹_› ?_ | refine AHeap.so ?_ ?_ | exact AHeap.n1 ‹_› | exact AHeap.n2 ‹_› | exact AHeap.ne_of ‹_› ‹_› | exact AHeap.n4 ‹_› ‹_› | exact AHeap.n5 ‹_› | exact AHeap.n6 ‹_› | exact AHeap.n7 ‹_› ‹_› | exact AHeap.n8 ‹_› ‹_›)); first | done | fail) rfl rfl rfl (by rfl) rfl ?_) | refine S.skip rfl ?_ | refine S.skip0 rfl ?_ | refine S.seq ?_ | refine S.region ?_ | refine S.condT rfl ?_ | refine S.condF rfl ?_ | refine RRun.skip ?_ | refine RRun.block ?_ | refine RRun.inBlock ?_ | refine RRun.exit rfl ?_)
  apply S.done rr78
  case hx => repeat (first | exact ResAt.nil | apply ResAt.tmp rfl | apply ResAt.cellA rfl (by (repeat' (first | assumption | exact AHeap.set_same _ _ _ | refine AHeap.get_fresh ‹_› ?_ | refine AHeap.so ?_ ?_ | exact AHeap.n1 ‹_› | exact AHeap.n2 ‹_› | exact AHeap.ne_of ‹_› ‹_› | exact AHeap.n4 ‹_› ‹_› | exact AHeap.n5 ‹_› | exact AHeap.n6 ‹_› | exact AHeap.n7 ‹_› ‹_› | exact AHeap.n8 ‹_› ‹_›)); first | done | fail) (by rfl) | apply ResAt.cell1 rfl (by (repeat' (first | assumption | exact AHeap.set_same _ _ _ | refine AHeap.get_fresh ‹_› ?_ | refine AHeap.so ?_ ?_ | exact AHeap.n1 ‹_› | exact AHeap.n2 ‹_› | exact AHeap.ne_of ‹_› ‹_› | exact AHeap.n4 ‹_› ‹_› | exact AHeap.n5 ‹_› | exact AHeap.n6 ‹_› | exact AHeap.n7 ‹_› ‹_› | exact AHeap.n8 ‹_› ‹_›)); first | done | fail) (by rfl))
  exact hw'

/-- (*plenum/row.Writer).Bytes -/
def r79 : RCode :=
  (.seq (.region [
    ⟨(some 2), none, .act, .mv (.const (.slice none 0 0))⟩])
  (.seq (.seq (.region [
    ⟨(some 3), none, .act, .mv (.tmp 0)⟩,
    ⟨(some 4), none, .act, .eq false .ptr (.tmp 3) (.const (.pointer none))⟩])
  (.cond (.tmp 4)
   (.seq (.region [
     ⟨(some 2), none, .act, .mv (.const (.slice none 0 0))⟩])
   .ret)
   .skip))
  (.seq (.region [
    ⟨(some 5), none, .act, .mv (.tmp 0)⟩,
    ⟨(some 6), none, .act, .nilCheck (.tmp 5)⟩,
    ⟨(some 7), none, .act, .fieldAddr 0 (.tmp 6)⟩,
    ⟨(some 8), none, .act, .load false 1 (.tmp 7)⟩,
    ⟨(some 9), none, .act, .append 1 1 [(.int .u8 0)] (.const (.slice none 0 0)) (.tmp 8)⟩,
    ⟨(some 2), none, .act, .mv (.tmp 9)⟩])
  .ret)))
theorem res79 : ∃ c, Try.f79.body = some c ∧ resCode Try.prog 10 c = some r79 := ⟨_, rfl, by kernel_rfl⟩
theorem rr79 : resRes Try.prog Try.f79.results.toList = some [.tmp 2] := by kernel_rfl
theorem wBytes_spec (p : Nat) (h : AHeap) (acc : List UInt8) (hacc : acc.length ≤ 10000000) (c0 : Cap) (hp : h p = some (.box [bysC acc c0])) :
    ACalls Try.prog 79 [ptr p] h (fun x h' => x = bysC acc .ro ∧ h' = h) := by
  obtain ⟨c, hc1, hc2⟩ := res79
  refine ACalls.weak (ACalls.enter Try.func79 hc1 Try.ntmps79 hc2 (Nat.le_of_ble_eq_true rfl) rfl ?_)
  repeat' (first | refine S.nilK ?_ | (refine S.op rfl ?_; first | refine R.mv rfl ?_ | refine R.fieldAddr rfl ?_ | refine R.fieldAddrR rfl ?_ | refine R.nilCheck rfl ?_ | refine R.nilCheckR rfl ?_ | refine R.loadR rfl rfl ?_ | refine R.load (by decide) rfl (by (repeat' (first | assumption | exact AHeap.set_same _ _ _ | refine AHeap.get_fresh ‹_› ?_ | refine AHeap.so ?_ ?_ | exact AHeap.n1 ‹_› | exact AHeap.n2 ‹_› | exact AHeap.ne_of ‹_› ‹_› | exact AHeap.n4 ‹_› ‹_› | exact AHeap.n5 ‹_› | exact AHeap.n6 ‹_› | exact AHeap.n7 ‹_› ‹_› | exact AHeap.n8 ‹_› ‹_›)); first | done | fail) rfl ?_ | refine R.eqPtrNil rfl rfl ?_ | ((first | refine S.eqInt rfl rfl ?_ ?_) <;> intro hlt <;> try (exfalso; omega))) | refine S.skip rfl ?_ | refine S.skip0 rfl ?_ | refine S.seq ?_ | refine S.region ?_ | refine S.condT rfl ?_ | refine S.condF rfl ?_ | refine RRun.skip ?_ | refine RRun.block ?_ | refine RRun.inBlock ?_ | refine RRun.exit rfl ?_)
  refine S.op rfl (S.appendG (h₀ := h) (ys := Go.Av.byteCells acc) rfl (.start h) rfl .nil rfl (.sl _ _) (one_bytes acc) (by simp [Go.Av.byteCells]; omega) (by simp [Go.Av.byteCells]; omega) (fun c' h' g1 _ => ?_))
  repeat' (first | refine S.nilK ?_ | (refine S.op rfl ?_; first | refine R.mv rfl ?_ | refine R.fieldAddr rfl ?_ | refine R.fieldAddrR rfl ?_ | refine R.nilCheck rfl ?_ | refine R.nilCheckR rfl ?_ | refine R.loadR rfl rfl ?_ | refine R.load (by decide) rfl (by (repeat' (first | assumption | exact AHeap.set_same _ _ _ | refine AHeap.get_fresh ‹_› ?_ | refine AHeap.so ?_ ?_ | exact AHeap.n1 ‹_› | exact AHeap.n2 ‹_› | exact AHeap.ne_of ‹_› ‹_› | exact AHeap.n4 ‹_› ‹_› | exact AHeap.n5 ‹_› | exact AHeap.n6 ‹_› | exact AHeap.n7 ‹_› ‹_› | exact AHeap.n8 ‹_› ‹_›)); first | done | fail) rfl ?_ | refine R.eqPtrNil rfl rfl ?_ | ((first | refine S.eqInt rfl rfl ?_ ?_) <;> intro hlt <;> try (exfalso; omega))) | refine S.skip rfl ?_ | refine S.skip0 rfl ?_ | refine S.seq ?_ | refine S.region ?_ | refine S.condT rfl ?_ | refine S.condF rfl ?_ | refine RRun.skip ?_ | refine RRun.block ?_ | refine RRun.inBlock ?_ | refine RRun.exit rfl ?_)
  apply S.ret rr79
  case hx => repeat (first | exact ResAt.nil | apply ResAt.tmp rfl | apply ResAt.cellA rfl (by (repeat' (first | assumption | exact AHeap.set_same _ _ _ | refine AHeap.get_fresh ‹_› ?_ | refine AHeap.so ?_ ?_ | exact AHeap.n1 ‹_› | exact AHeap.n2 ‹_› | exact AHeap.ne_of ‹_› ‹_› | exact AHeap.n4 ‹_› ‹_› | exact AHeap.n5 ‹_› | exact AHeap.n6 ‹_› | exact AHeap.n7 ‹_› ‹_› | exact AHeap.n8 ‹_› ‹_›)); first | done | fail) (by rfl) | apply ResAt.cell1 rfl (by (repeat' (first | assumption | exact AHeap.set_same _ _ _ | refine AHeap.get_fresh ‹_› ?_ | refine AHeap.so ?_ ?_ | exact AHeap.n1 ‹_› | exact AHeap.n2 ‹_› | exact AHeap.ne_of ‹_› ‹_› | exact AHeap.n4 ‹_› ‹_› | exact AHeap.n5 ‹_› | exact AHeap.n6 ‹_› | exact AHeap.n7 ‹_› ‹_› | exact AHeap.n8 ‹_› ‹_›)); first | done | fail) (by rfl))
  exact ⟨_, _, .toRo _ _ _, g1.le, rfl, rfl⟩

/-! ### Zig -/
theorem S.mul2 {P : Program} {c : Cls} {E : AEnv} {h : AHeap} {K : AV → AHeap → Prop} {y : Operand} {m : Nat} (hm : 2 * m < 18446744073709551616) (hy : aev E y = some (.v (.int .u64 (m : Int)))) (hk : K (.v (.int .u64 ((2 * m : Nat) : Int))) h) : ROpS P c (.bin .mul (.const (.int .u64 2)) y) E h K := by
  refine R.bin rfl hy (v := .int .u64 ((2 * m : Nat) : Int)) ?_ hk
  show some (Value.int .u64 (IntKind.u64.wrap ((2 : Int) * (m : Int)))) = _
  rw [show (2 : Int) * (m : Int) = ((2 * m : Nat) : Int) by omega, wrap_u64N hm]

def zig (n : Int) : Nat := if 0 ≤ n then (2 * n).toNat else (-2 * n - 1).toNat

/-- plenum/plenumref01.Zig -/
def r84 : RCode :=
  (.seq (.region [
    ⟨(some 2), none, .act, .mv (.const (.int .u64 0))⟩])
  (.seq (.seq (.region [
    ⟨(some 3), none, .act, .mv (.tmp 0)⟩,
    ⟨(some 4), none, .act, .bin .geq (.tmp 3) (.const (.int .i64 0))⟩])
  (.cond (.tmp 4)
   (.seq (.region [
     ⟨(some 5), none, .act, .mv (.tmp 0)⟩,
     ⟨(some 6), none, .act, .convInt .u64 (.tmp 5)⟩,
     ⟨(some 7), none, .act, .bin .mul (.const (.int .u64 2)) (.tmp 6)⟩,
     ⟨(some 2), none, .act, .mv (.tmp 7)⟩])
   .ret)
   .skip))
  (.seq (.region [
    ⟨(some 8), none, .act, .mv (.tmp 0)⟩,
    ⟨(some 9), none, .act, .bin .add (.tmp 8) (.const (.int .i64 1))⟩,
    ⟨(some 10), none, .act, .un .neg (.tmp 9)⟩,
    ⟨(some 11), none, .act, .convInt .u64 (.tmp 10)⟩,
    ⟨(some 12), none, .act, .bin .mul (.const (.int .u64 2)) (.tmp 11)⟩,
    ⟨(some 13), none, .act, .bin .add (.tmp 12) (.const (.int .u64 1))⟩,
    ⟨(some 2), none, .act, .mv (.tmp 13)⟩])
  .ret)))
theorem res84 : ∃ c, Try.f84.body = some c ∧ resCode Try.prog 14 c = some r84 := ⟨_, rfl, by kernel_rfl⟩
theorem rr84 : resRes Try.prog Try.f84.results.toList = some [.tmp 2] := by kernel_rfl
theorem zigR_spec (n : Int) (hf : -9223372036854775808 ≤ n ∧ n ≤ 9223372036854775807) (h : AHeap) : ACalls Try.prog 84 [i64 n] h (fun x h' => x = enc (UInt64.ofNat (zig n)) ∧ h' = h) := by
  obtain ⟨c, hc1, hc2⟩ := res84
  refine ACalls.enter Try.func84 hc1 Try.ntmps84 hc2 (Nat.le_of_ble_eq_true rfl) rfl ?_
  by_cases h0 : 0 ≤ n
  · obtain ⟨m, rfl⟩ : ∃ m : Nat, n = (m : Int) := ⟨n.toNat, by omega⟩
    have hz : (UInt64.ofNat (zig (m : Int))).toNat = 2 * m := by
      unfold zig; rw [if_pos h0]; simp; omega
    repeat' (first | refine S.nilK ?_ | (refine S.op rfl ?_; first | refine S.convU (by omega) rfl ?_ | refine S.mul2 (by omega) rfl ?_ | refine R.mv rfl ?_ | refine S.addI rfl rfl (by omega) ?_ | refine S.addU rfl rfl ?_ | refine S.addUc rfl (by decide) ?_ | refine S.arith rfl rfl rfl ?_ | refine S.convIU rfl (by omega) ?_ | refine S.convUI rfl (by omega) ?_ | refine R.convInt rfl ?_ | ((first | refine S.geq rfl rfl ?_ ?_) <;> intro hlt <;> try (exfalso; omega))) | refine S.skip rfl ?_ | refine S.skip0 rfl ?_ | refine S.seq ?_ | refine S.region ?_ | refine S.condT rfl ?_ | refine S.condF rfl ?_ | refine RRun.skip ?_ | refine RRun.block ?_ | refine RRun.inBlock ?_ | refine RRun.exit rfl ?_)
    apply S.ret rr84
    case hx => repeat (first | exact ResAt.nil | apply ResAt.tmp rfl | apply ResAt.cellA rfl (by (repeat' (first | assumption | exact AHeap.set_same _ _ _ | refine AHeap.get_fresh ‹_› ?_ | refine AHeap.so ?_ ?_ | exact AHeap.n1 ‹_› | exact AHeap.n2 ‹_› | exact AHeap.ne_of ‹_› ‹_› | exact AHeap.n4 ‹_› ‹_› | exact AHeap.n5 ‹_› | exact AHeap.n6 ‹_› | exact AHeap.n7 ‹_› ‹_› | exact AHeap.n8 ‹_› ‹_›)); first | done | fail) (by rfl) | apply ResAt.cell1 rfl (by (repeat' (first | assumption | exact AHeap.set_same _ _ _ | refine AHeap.get_fresh ‹_› ?_ | refine AHeap.so ?_ ?_ | exact AHeap.n1 ‹_› | exact AHeap.n2 ‹_› | exact AHeap.ne_of ‹_› ‹_› | exact AHeap.n4 ‹_› ‹_› | exact AHeap.n5 ‹_› | exact AHeap.n6 ‹_› | exact AHeap.n7 ‹_› ‹_› | exact AHeap.n8 ‹_› ‹_›)); first | done | fail) (by rfl))
    refine ⟨?_, rfl⟩
    show AV.v (.int .u64 ((2 * m : Nat) : Int)) = AV.v (.int .u64 _)
    rw [hz]
  · obtain ⟨m, hm⟩ : ∃ m : Nat, -(n + 1) = (m : Int) := ⟨(-(n + 1)).toNat, by omega⟩
    have hz : (UInt64.ofNat (zig n)).toNat = 2 * m + 1 := by
      unfold zig; rw [if_neg h0]; simp; omega
    repeat' (first | refine S.nilK ?_ | (refine S.op rfl ?_; first | refine R.mv rfl ?_ | refine S.addI rfl rfl (by omega) ?_ | refine S.addU rfl rfl ?_ | refine S.addUc rfl (by decide) ?_ | refine S.arith rfl rfl rfl ?_ | refine S.convIU rfl (by omega) ?_ | refine S.convUI rfl (by omega) ?_ | refine R.convInt rfl ?_ | ((first | refine S.geq rfl rfl ?_ ?_) <;> intro hlt <;> try (exfalso; omega))) | refine S.skip rfl ?_ | refine S.skip0 rfl ?_ | refine S.seq ?_ | refine S.region ?_ | refine S.condT rfl ?_ | refine S.condF rfl ?_ | refine RRun.skip ?_ | refine RRun.block ?_ | refine RRun.inBlock ?_ | refine RRun.exit rfl ?_)
    refine S.op rfl (R.neg rfl ?_)
    rw [show (0 - (n + 1)) = (m : Int) by omega, wrap_i64 (by omega) (by omega)]
    repeat' (first | refine S.nilK ?_ | (refine S.op rfl ?_; first | refine S.convU (by omega) rfl ?_ | refine S.mul2 (by omega) rfl ?_ | refine S.addN (m := 1) (by omega) rfl rfl ?_ | refine R.mv rfl ?_ | refine S.addI rfl rfl (by omega) ?_ | refine S.addU rfl rfl ?_ | refine S.addUc rfl (by decide) ?_ | refine S.arith rfl rfl rfl ?_ | refine S.convIU rfl (by omega) ?_ | refine S.convUI rfl (by omega) ?_ | refine R.convInt rfl ?_ | ((first | refine S.geq rfl rfl ?_ ?_) <;> intro hlt <;> try (exfalso; omega))) | refine S.skip rfl ?_ | refine S.skip0 rfl ?_ | refine S.seq ?_ | refine S.region ?_ | refine S.condT rfl ?_ | refine S.condF rfl ?_ | refine RRun.skip ?_ | refine RRun.block ?_ | refine RRun.inBlock ?_ | refine RRun.exit rfl ?_)
    apply S.ret rr84
    case hx => repeat (first | exact ResAt.nil | apply ResAt.tmp rfl | apply ResAt.cellA rfl (by (repeat' (first | assumption | exact AHeap.set_same _ _ _ | refine AHeap.get_fresh ‹_› ?_ | refine AHeap.so ?_ ?_ | exact AHeap.n1 ‹_› | exact AHeap.n2 ‹_› | exact AHeap.ne_of ‹_› ‹_› | exact AHeap.n4 ‹_› ‹_› | exact AHeap.n5 ‹_› | exact AHeap.n6 ‹_› | exact AHeap.n7 ‹_› ‹_› | exact AHeap.n8 ‹_› ‹_›)); first | done | fail) (by rfl) | apply ResAt.cell1 rfl (by (repeat' (first | assumption | exact AHeap.set_same _ _ _ | refine AHeap.get_fresh ‹_› ?_ | refine AHeap.so ?_ ?_ | exact AHeap.n1 ‹_› | exact AHeap.n2 ‹_› | exact AHeap.ne_of ‹_› ‹_› | exact AHeap.n4 ‹_› ‹_› | exact AHeap.n5 ‹_› | exact AHeap.n6 ‹_› | exact AHeap.n7 ‹_› ‹_› | exact AHeap.n8 ‹_› ‹_›)); first | done | fail) (by rfl))
    refine ⟨?_, rfl⟩
    show AV.v (.int .u64 ((2 * m + 1 : Nat) : Int)) = AV.v (.int .u64 _)
    rw [hz]

theorem wrap_u64_neg {n : Int} (h1 : n < 0) (h2 : -18446744073709551616 ≤ n) : IntKind.u64.wrap n = n + 18446744073709551616 := by
  simp only [IntKind.wrap, IntKind.bits, IntKind.signed]
  simp
  omega

theorem xor_ones (a : Nat) (ha : a < 18446744073709551616) : (BitVec.ofInt 64 ((a : Nat) : Int) ^^^ BitVec.ofInt 64 ((18446744073709551615 : Nat) : Int)).toNat = 18446744073709551615 - a := by
  have e : BitVec.ofInt 64 ((18446744073709551615 : Nat) : Int) = BitVec.allOnes 64 := by decide
  rw [e, BitVec.xor_allOnes, BitVec.toNat_not, BitVec.ofInt_natCast, BitVec.toNat_ofNat]
  omega

/-- plenum/num.Zig -/
def r95 : RCode :=
  (.seq (.region [
    ⟨(some 2), none, .act, .mv (.const (.int .u64 0))⟩])
  (.seq (.region [
    ⟨(some 3), none, .act, .mv (.tmp 0)⟩,
    ⟨(some 4), none, .act, .convInt .u64 (.tmp 3)⟩,
    ⟨(some 5), none, .act, .bin .shl (.tmp 4) (.const (.int .u64 1))⟩,
    ⟨(some 6), none, .act, .mv (.tmp 0)⟩,
    ⟨(some 7), none, .act, .bin .shr (.tmp 6) (.const (.int .u64 63))⟩,
    ⟨(some 8), none, .act, .convInt .u64 (.tmp 7)⟩,
    ⟨(some 9), none, .act, .bin .xor (.tmp 5) (.tmp 8)⟩,
    ⟨(some 2), none, .act, .mv (.tmp 9)⟩])
  .ret))
theorem res95 : ∃ c, Try.f95.body = some c ∧ resCode Try.prog 10 c = some r95 := ⟨_, rfl, by kernel_rfl⟩
theorem rr95 : resRes Try.prog Try.f95.results.toList = some [.tmp 2] := by kernel_rfl
theorem zig_spec (n : Int) (hf : -9223372036854775808 ≤ n ∧ n ≤ 9223372036854775807) (h : AHeap) : ACalls Try.prog 95 [i64 n] h (fun x h' => x = enc (UInt64.ofNat (zig n)) ∧ h' = h) := by
  obtain ⟨c, hc1, hc2⟩ := res95
  refine ACalls.enter Try.func95 hc1 Try.ntmps95 hc2 (Nat.le_of_ble_eq_true rfl) rfl ?_
  unfold r95
  refine S.seq (S.region (S.op rfl (R.mv rfl (S.nilK (S.seq (S.region (S.op rfl (R.mv rfl (S.op rfl (R.convInt rfl (S.op rfl (R.shl rfl rfl (by decide) (S.op rfl (R.mv rfl (S.op rfl (R.shr rfl rfl (by decide) (S.op rfl (R.convInt rfl (S.op rfl (S.arith rfl rfl rfl ?_))))))))))))))))))))
  have hz : (IntKind.u64.wrap ((BitVec.ofInt IntKind.u64.bits (IntKind.u64.wrap (IntKind.u64.wrap n * 2 ^ (min (1 : Int).toNat IntKind.u64.bits))) ^^^ BitVec.ofInt IntKind.u64.bits (IntKind.u64.wrap (n.fdiv (2 ^ (min (63 : Int).toNat IntKind.i64.bits))))).toNat : Int)) = ((UInt64.ofNat (zig n)).toNat : Int) := by
    have e1 : (2 : Int) ^ (min (1 : Int).toNat IntKind.u64.bits) = 2 := by decide
    have e2 : (2 : Int) ^ (min (63 : Int).toNat IntKind.i64.bits) = 9223372036854775808 := by decide
    rw [e1, e2, Int.fdiv_eq_ediv_of_nonneg _ (by decide)]
    by_cases h0 : 0 ≤ n
    · obtain ⟨m, rfl⟩ : ∃ m : Nat, n = (m : Int) := ⟨n.toNat, by omega⟩
      have hz : (UInt64.ofNat (zig (m : Int))).toNat = 2 * m := by
        unfold zig; rw [if_pos h0]; simp; omega
      have w1 : IntKind.u64.wrap (m : Int) = (m : Int) := wrap_u64N (by omega)
      have w2 : IntKind.u64.wrap (((2 * m : Nat) : Int)) = ((2 * m : Nat) : Int) := wrap_u64N (by omega)
      rw [hz, w1, show (m : Int) * 2 = ((2 * m : Nat) : Int) by omega, w2, show ((m : Int) / 9223372036854775808) = 0 by omega]
      have : (BitVec.ofInt IntKind.u64.bits ((2 * m : Nat) : Int) ^^^ BitVec.ofInt IntKind.u64.bits (IntKind.u64.wrap 0)).toNat = 2 * m := by
        show (BitVec.ofInt 64 ((2 * m : Nat) : Int) ^^^ BitVec.ofInt 64 (IntKind.u64.wrap 0)).toNat = 2 * m
        have e : BitVec.ofInt 64 (IntKind.u64.wrap 0) = 0#64 := by decide
        rw [e, BitVec.xor_zero, BitVec.ofInt_natCast, BitVec.toNat_ofNat]
        omega
      rw [this, w2]
    · have hz : (UInt64.ofNat (zig n)).toNat = (-2 * n - 1).toNat := by
        unfold zig; rw [if_neg h0]; simp; omega
      have hw : IntKind.u64.wrap (IntKind.u64.wrap n * 2) = ((18446744073709551616 + 2 * n).toNat : Int) := by
        have w1 : IntKind.u64.wrap n = n + 18446744073709551616 := wrap_u64_neg (by omega) (by omega)
        rw [w1]
        simp only [IntKind.wrap, IntKind.bits, IntKind.signed]
        simp
        omega
      rw [hz, hw, show (n / 9223372036854775808) = -1 by omega, show IntKind.u64.wrap (-1) = ((18446744073709551615 : Nat) : Int) by decide]
      show IntKind.u64.wrap ((BitVec.ofInt 64 _ ^^^ BitVec.ofInt 64 _).toNat : Int) = _
      rw [xor_ones _ (by omega), wrap_u64N (by omega)]
      omega
  rw [hz]
  repeat' (first | refine S.nilK ?_ | (refine S.op rfl ?_; first | refine R.mv rfl ?_ | refine S.arith rfl rfl rfl ?_ | refine S.convIU rfl (by omega) ?_ | refine S.convUI rfl (by omega) ?_ | refine R.convInt rfl ?_) | refine S.skip rfl ?_ | refine S.skip0 rfl ?_ | refine S.seq ?_ | refine S.region ?_ | refine S.condT rfl ?_ | refine S.condF rfl ?_ | refine RRun.skip ?_ | refine RRun.block ?_ | refine RRun.inBlock ?_ | refine RRun.exit rfl ?_)
  apply S.ret rr95
  case hx => repeat (first | exact ResAt.nil | apply ResAt.tmp rfl | apply ResAt.cellA rfl (by (repeat' (first | assumption | exact AHeap.set_same _ _ _ | refine AHeap.get_fresh ‹_› ?_ | refine AHeap.so ?_ ?_ | exact AHeap.n1 ‹_› | exact AHeap.n2 ‹_› | exact AHeap.ne_of ‹_› ‹_› | exact AHeap.n4 ‹_› ‹_› | exact AHeap.n5 ‹_› | exact AHeap.n6 ‹_› | exact AHeap.n7 ‹_› ‹_› | exact AHeap.n8 ‹_› ‹_›)); first | done | fail) (by rfl) | apply ResAt.cell1 rfl (by (repeat' (first | assumption | exact AHeap.set_same _ _ _ | refine AHeap.get_fresh ‹_› ?_ | refine AHeap.so ?_ ?_ | exact AHeap.n1 ‹_› | exact AHeap.n2 ‹_› | exact AHeap.ne_of ‹_› ‹_› | exact AHeap.n4 ‹_› ‹_› | exact AHeap.n5 ‹_› | exact AHeap.n6 ‹_› | exact AHeap.n7 ‹_› ‹_› | exact AHeap.n8 ‹_› ‹_›)); first | done | fail) (by rfl))
  exact ⟨rfl, rfl⟩

end Go.Proofs.Ytnmgamcmjjngcaa
