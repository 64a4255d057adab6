/- LibraryNobody returns true for every text and every whole number: a reel or a library that no call returned reports ErrNil and zero values. Under the condition that the listed variables of Go's library hold what their initialisers lay. -/
import Derived.Test.YtoeeipkiadbnpaaGreatDoorLibraryNobodyM12
import Derived.Test.YtoeeipkiadbnpaaGreatDoorLibraryNobodyM20
import Derived.Test.YtoeeipkiadbnpaaGreatDoorLibraryNobodyM1
import Derived.Test.YtoeeipkiadbnpaaGreatDoorTie
import Derived.Test.YtoeeipkiadbnpaaGreatDoorCards
import Derived.SevenTiedAt
namespace Go.Proofs.YtoeeipkiadbnpaaGreatDoor.libraryNobody
open Go.ChangeShapes Go.WideShapes Go.ChangeAt Go.RowKit Go.Lib Go.Joins
open Go.ChangeMaps (open_string shut_string)
set_option linter.unusedVariables false
set_option maxRecDepth 100000 in
theorem witness_row (os : Os) {H : Type} (enc : TypeId × Value → H) :
    (OpenSpec.ofChange Rows.libraryNobodySpec).preRow enc Tryz.prog Tryz.f9 Rows.libraryNobodyRow.domain false Rows.libraryNobodyRow.laid ((Open.laidWorld os).forCall (fun _ _ => 0) ⟨#[], #[.string ⟨#[]⟩, .int .i64 0], []⟩).memory #[.string ⟨#[]⟩, .int .i64 0] := by
  have hw : (DataW.whole enc Tryz.prog ((Open.laidWorld os).forCall (fun _ _ => 0) ⟨#[], #[.string ⟨#[]⟩, .int .i64 0], []⟩).memory Tryz.f9.params.toList (OpenSpec.ofChange Rows.libraryNobodySpec).vars false (#[.string ⟨#[]⟩, .int .i64 0] : Array Value).toList 8).map (fun x => (x.1, x.2.1)) =
      some ([.lit (.string []), .lit (.int .i64 0)], []) := by kernel_rfl
  obtain ⟨⟨x1, x2, x3⟩, hx, hx1⟩ := Option.map_eq_some_iff.1 hw
  simp only [Prod.mk.injEq] at hx1
  obtain ⟨rfl, rfl⟩ := hx1
  exact OpenSpec.preRow_of_cond 8 hx (by kernel_rfl) (fun k hk => by cases hk) (by kernel_rfl) (Open.laid_met os _)
set_option maxRecDepth 100000 in
set_option maxHeartbeats 2000000 in
theorem lifted (os : Os) (started : os.Started) (H : Type) (enc : TypeId × Value → H) (F : Stop.Interp) :
    ReturnsInHanded {} Tryz.checked os 9 .any ((OpenSpec.ofChange Rows.libraryNobodySpec).preRow enc Tryz.prog Tryz.f9 Rows.libraryNobodyRow.domain false Rows.libraryNobodyRow.laid) (((OpenSpec.ofChange Rows.libraryNobodySpec).at F).post enc Tryz.prog Tryz.f9 false true false false) := by
  refine returnsInHanded_of_row (C := Tryz.checked) (s := OpenSpec.ofChange Rows.libraryNobodySpec) Open.own started (by kernel_rfl) Tryz.func9
    (Open.witness #[.string ⟨#[]⟩, .int .i64 0] (by kernel_rfl) (witness_row os enc)) ?_
  intro W base args ds gs before hval0 hW _ _ _ hL hS _
  have hval : ∀ (j : Nat) t v, Tryz.f9.params[j]? = some t → args[j]? = some v → Value.okWide Tryz.prog W .any base t v := hval0
  have hW' := hW
  obtain ⟨p, q, hA0, hV0, rfl, _, _⟩ := hW
  have hA : DataW.TrodAll enc Tryz.prog W 0 (fun _ => true) true Tryz.f9.params.toList args.toList ds p := hA0
  rw [Tryz.params9] at hA hval
  obtain ⟨v0, vs0, d0, ds0, p0, q0, hargs, rfl, rfl, h0, r0⟩ := trodAll_cons hA
  obtain ⟨v1, vs1, d1, ds1, p1, q1, rfl, rfl, rfl, h1, r1⟩ := trodAll_cons r0
  obtain ⟨rfl, rfl, rfl⟩ := trodAll_nil r1
  obtain rfl : args = #[v0, v1] := by cases args; simp_all
  obtain ⟨rfl, rfl⟩ := trodVars_none hV0
  obtain ⟨s0, rfl, rfl, rfl, w0⟩ := open_string Tryz.underlying9 (hval 0 9 v0 rfl rfl) h0
  obtain ⟨b1, rfl, rfl, rfl, wb1⟩ := open_int Tryz.underlying3 (hval 1 3 v1 rfl rfl) h1
  clear hA0 hV0 hval0
  refine (Lib10.nobody_calls s0 b1 W (Open.tabs_in hL hS)).mono ?_
  rintro e W' ⟨rfl, bel⟩
  have e1 : ((OpenSpec.ofChange Rows.libraryNobodySpec).at F).fn H ([.lit (.string s0.data.toList), .lit (.int .i64 b1)] ++ []) = { results := [.lit (.bool true)], args := [.lit (.string s0.data.toList), .lit (.int .i64 b1)] } := rfl
  refine ⟨_, rfl, _, _, _, [], [], [], hW', ?_, ?_, ?_, bel.frame _, fun h => by cases h⟩
  · rw [e1]; exact trodAll_mk1 (shut_bool Tryz.underlying4 _)
  · rw [e1]; exact trodAll_cons_mk (shut_string Tryz.underlying9 w0) (trodAll_cons_mk (shut_int Tryz.underlying3 wb1) trodAll_mk0)
  · rw [e1]; rfl
theorem over : Rows.LibraryNobodySaid :=
  OpenClaim.holds_of_cond 9 Tryz.f9 rfl rfl rfl rfl rfl rfl rfl ⟨rfl, rfl, rfl, rfl, rfl⟩ rfl rfl rfl rfl rfl (by as_aux_lemma => kernel_rfl) Tryz.func9 closed
    (by as_aux_lemma => exact of_decide_eq_true (by kernel_rfl)) (by as_aux_lemma => unfold Func.isWrapper; first | (rw [if_pos (by decide +kernel)]; kernel_rfl) | (rw [if_neg (by decide +kernel)]; exact ⟨rfl, rfl⟩))
    (fun os started H enc _ F0 => by rw [OpenClaim.pre_eq_preRow]; exact lifted os started H enc F0)
theorem named9 : Tryz.prog.funcNamed "sackbut/sackbutlaw10.LibraryNobody" = some 9 := by kernel_rfl
theorem standless : ([9, 3] : List TypeId).all (fun t => decide (Tryz.prog.wantsStandIn t = false)) = true := by kernel_rfl
theorem plain (f : FuncId) (fn : Func) (hf : Tryz.pinned.checked.prog.funcNamed "sackbut/sackbutlaw10.LibraryNobody" = some f) (hfn : Tryz.pinned.checked.prog.funcs[f]? = some fn) :
    true = Tryz.pinned.checked.prog.looks [] ∧ ∀ (j : Nat) t, fn.params[j]? = some t → Tryz.pinned.checked.prog.wantsStandIn t = false := by
  obtain rfl : f = 9 := Option.some.inj (named9.symm.trans hf) |>.symm
  obtain rfl : fn = Tryz.f9 := (Option.some.inj (Tryz.func9.symm.trans hfn)).symm
  exact ⟨by as_aux_lemma => kernel_rfl, fun j t ht => by
    rw [Tryz.params9] at ht
    have hm : t ∈ ([9, 3] : List TypeId) := by
      have := Array.mem_of_getElem? ht
      simpa using this
    exact of_decide_eq_true (List.all_eq_true.1 standless t hm)⟩
theorem card : Rows.LibraryNobodyCardSaid :=
  Claim7.holds_tied_plain_at .later [] _ _ _ _
    over (fun _ h => by cases h) (by as_aux_lemma => kernel_rfl) (fun _ h => by cases h) libraryNobody_row_tie rfl ⟨rfl, rfl⟩ (by as_aux_lemma => kernel_rfl) rfl plain
    (by as_aux_lemma => kernel_rfl)
end Go.Proofs.YtoeeipkiadbnpaaGreatDoor.libraryNobody
namespace Go.Proofs.YtoeeipkiadbnpaaGreatDoor
/-- The card, under a short name, for the claim. -/
theorem libraryNobody_holds : Rows.LibraryNobodyCardSaid := libraryNobody.card
#print axioms libraryNobody_holds
end Go.Proofs.YtoeeipkiadbnpaaGreatDoor
