import Derived.Test.YtcghjnkepooofaaGreatW1
set_option linter.unusedVariables false
namespace Go.Proofs.YtcghjnkepooofaaGreat
open Go.Av

def kkT (t : TypeId) : Option KK := match Nat.beq t 22 with | true => some (.int .u64) | false => none
theorem kk_ok : KkOk Tryz.prog kkT := fun t q h => by
  unfold kkT at h
  rcases nbeq (a := t) (b := 22) with ⟨h1, h2⟩ | ⟨h1, h2⟩
  · rw [h1] at h
    cases h
    subst h2
    exact KeyR.int Tryz.underlying22
  · rw [h1] at h; cases h

def isTrue (x : Option (EV × List EBlk)) : Bool := match x with | some (.k (.bool true), _) => true | _ => false
theorem isTrue_ok {x : Option (EV × List EBlk)} (h : isTrue x = true) : ∃ H', x = some (.k (.bool true), H') := by
  unfold isTrue at h
  split at h
  · exact ⟨_, rfl⟩
  · cases h

theorem awake_run : isTrue (evalCall kkT (lookT tabL) 2000 30 4 [] []) = true := by kernel_rfl

theorem awake_spec (h : AHeap) : ACalls Tryz.prog 4 [] h (fun x h' => x = .v (.bool true) ∧ h' = h) := by
  obtain ⟨H', he⟩ := isTrue_ok awake_run
  exact ACalls.eval kk_ok tab_ok (args := []) he h

end Go.Proofs.YtcghjnkepooofaaGreat
