/-
  ParseCases answers true for every text: a text without a quote reads the same, small or great its letters. No condition.
-/
import Derived.Test.YtdinnoejipmiiaaP19
import Derived.Test.YtdinnoejipmiiaaP25
import Derived.OpenShut
import Derived.JoinedCond
import Derived.HandedShaped
import Derived.Shelf.Vars
set_option linter.unusedVariables false
set_option linter.unusedSimpArgs false
namespace Go.Proofs.Ytdinnoejipmiiaa
open Go.Av
open Go.ChangeShapes Go.WideShapes Go.ChangeAt Go.RowKit
theorem laid : laidOutB Try.prog = true := by kernel_rfl
theorem own : ownKnob Try.prog.godebug = none := by kernel_rfl
theorem maxLen_cell {W : World} (hsh : W.ShapedOpen Try.prog) : ∃ m, W.cell? ⟨0, 0, none⟩ = some (.int .i64 m) :=
  Go.Proofs.cell_of_shapedOpen_int (t := 3) (zero := #[.int .i64 0]) hsh (of_decide_eq_true (by kernel_rfl)) (by kernel_rfl) rfl (by kernel_rfl) (by kernel_rfl) Try.underlying3
theorem rdS : Rd Try.prog 9 (fun s : List UInt8 => [str s]) (fun s => s.length ≤ maxLen) :=
  (Rd.str Try.underlying9).conv (fun s => s.data.toList) fun s h => ⟨(Array.length_toList (xs := s.data)) ▸ h, congrArg (fun x => [x]) (str_of s)⟩
theorem said_trueG {H : Type} {enc : TypeId × Value → H} {P : Program} {f : Func} {id : FuncId} {s : ChangeSpec} {W : World} {args : Array Value} {ds gs : List (DataW H)} {before : List MemPlace} {al : List AV} {tb : TypeId}
    (hl : laidOutB P = true) (hs : s.vars = []) (hr : f.resultTypes = #[tb]) (htb : P.underlying tb = some .bool) (hp : ∀ t ∈ f.params.toList, P.readableRec t = true ∧ t < P.types.size)
    (hfn : s.fn H ds = { results := [.lit (.bool true)], args := ds }) (hW : DataW.Whole enc P f.params.toList s.vars false W args.toList ds gs before)
    (hm : ∃ m, W.cell? ⟨0, 0, none⟩ = some (.int .i64 m)) (hargs : ∀ st, VRels st al args.toList) (hcall : ∀ h, Glob h → ACalls P id al h (fun x h' => x = bl true ∧ h' = h)) :
    Calls P id args W fun e W' => ∃ v, e = .returned v ∧ s.post enc P f false true false false W args v W' := by
  obtain ⟨m, hm⟩ := hm
  obtain ⟨o, ho⟩ : ∃ o, W.heap[0]? = some o := by
    cases h0 : W.heap[0]? with
    | none => simp [World.cell?, h0] at hm
    | some o => exact ⟨o, rfl⟩
  obtain ⟨hg, hrel⟩ := globH_ok ho hm
  have hc := hcall _ hg args.toList W (hargs _) hrel
  simp only [Array.toArray_toList] at hc
  refine hc.mono fun e W' ⟨u, x, h', he, ⟨hx, hh⟩, hv, hr', hev⟩ => ?_
  subst hx
  subst hh
  cases hv
  refine ⟨_, he, ?_⟩
  have hb := globH_below ho hr' hev
  have hlt := hW.lt
  have hW' := hW
  obtain ⟨pa, pv, hA, hV, rfl, _, _⟩ := hW
  rw [hs] at hV
  obtain ⟨rfl, rfl⟩ := trodVars_none hV
  refine ⟨ds, [], _, [], pa, [], hW', ?_, ?_, ?_, hb.frame _, fun h => by cases h⟩
  · rw [List.append_nil, hfn, hr]
    exact trodAll_cons_mk (RowKit.shut_bool htb true) trodAll_mk0
  · rw [List.append_nil, hfn]
    exact trodAll_below hl hb hA hp fun x hx => hlt x (List.mem_append_left _ hx)
  · rw [hs, List.append_nil, hfn]; rfl
end Go.Proofs.Ytdinnoejipmiiaa

namespace Go.Proofs.Ytdinnoejipmiiaa
open Go.Av
open Go.ChangeShapes Go.WideShapes Go.ChangeAt Go.RowKit
set_option maxRecDepth 100000 in
theorem cases_contract (H : Type) (enc : TypeId × Value → H) (W : World) (base : Nat) (args : Array Value) (ds gs : List (DataW H)) (before : List MemPlace)
    (hval : ∀ (j : Nat) t v, Try.f4.params[j]? = some t → args[j]? = some v → Value.okWide Try.prog W .any base t v)
    (hW : DataW.Whole enc Try.prog Try.f4.params.toList Rows.parseCasesSpec.vars false W args.toList ds gs before) (hsh : W.ShapedOpen Try.prog) :
    Calls Try.prog 4 args W fun e W' => ∃ v, e = .returned v ∧ Rows.parseCasesSpec.post enc Try.prog Try.f4 false true false false W args v W' := by
  have hW' := hW
  obtain ⟨p, q, hA0, hV, rfl, hfz, hnd⟩ := hW
  have hA : DataW.TrodAll enc Try.prog W 0 (fun _ => true) true Try.f4.params.toList args.toList ds p := hA0
  rw [Try.params4] at hA hval
  obtain ⟨v0, vs0, d0, ds0, p0, q0, hargs, rfl, rfl, h0, r0⟩ := trodAll_cons hA
  obtain ⟨rfl, rfl, rfl⟩ := trodAll_nil r0
  obtain rfl : args = #[v0] := by cases args; simp_all
  obtain ⟨s, _, x0⟩ := arg_one (cells_string Try.underlying9 (hval 0 9 v0 rfl rfl)) rdS h0
  cases x0
  exact said_trueG (tb := 4) laid rfl (by kernel_rfl) Try.underlying4 (by rw [Try.params4]; exact of_decide_eq_true (by kernel_rfl)) rfl hW' (maxLen_cell hsh) (fun st => .cons (.v _) .nil) (fun h hg => parseCases_spec s h hg)
set_option maxRecDepth 100000 in
theorem cases_lifted (os : Os) (started : os.Started) (H : Type) (enc : TypeId × Value → H) :
    ReturnsInHanded {} Try.checked os 4 .any (Rows.parseCasesSpec.pre6 enc Try.prog Try.f4 Rows.parseCasesRow.domain false) (Rows.parseCasesSpec.post enc Try.prog Try.f4 false true false false) := by
  refine returnsInHanded_of_change_shaped (C := Try.checked) own started (by kernel_rfl) Try.func4
    (ChangeSpec.witness6 (enc := enc) (C := Try.checked) false ⟨#[], #[.string ⟨#[]⟩], []⟩ 8 (by kernel_rfl) (by kernel_rfl) (by kernel_rfl) (by kernel_rfl)) ?_
  intro W base args ds gs before hval hW _ _ hsh _
  exact cases_contract H enc W base args ds gs before hval hW hsh
theorem parseCases_holds : Rows.ParseCasesSaid :=
  OpenClaim.holds_of_wide 4 Try.f4 rfl rfl rfl rfl rfl rfl rfl ⟨rfl, rfl, rfl, rfl, rfl⟩ rfl rfl rfl rfl rfl (by kernel_rfl) Try.func4 (by kernel_rfl)
    (of_decide_eq_true (by kernel_rfl)) (by unfold Func.isWrapper; first | (rw [if_pos (by decide +kernel)]; kernel_rfl) | (rw [if_neg (by decide +kernel)]; exact ⟨rfl, rfl⟩))
    (fun os started H enc _ => cases_lifted os started H enc)
#print axioms parseCases_holds
end Go.Proofs.Ytdinnoejipmiiaa
