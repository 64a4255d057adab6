/- LibraryChairs, where what it reads is small: it returns true for every row of texts and every text and every whole number; what came in reads as it did. Under the condition that the listed variables of Go's library hold what their initialisers lay. -/
import Derived.Test.YtoeeipkiadbnpaaGreatDoorLibraryChairsM12
import Derived.Test.YtoeeipkiadbnpaaGreatDoorLibraryChairsM21
import Derived.Test.YtoeeipkiadbnpaaGreatDoorLibraryChairsM25
import Derived.Test.YtoeeipkiadbnpaaGreatDoorLibraryChairsM1
import Derived.Test.YtoeeipkiadbnpaaGreatDoorTie
import Derived.Test.YtoeeipkiadbnpaaGreatDoorCards
import Derived.SevenTiedAt
namespace Go.Proofs.YtoeeipkiadbnpaaGreatDoor.libraryChairs
open Go.ChangeShapes Go.WideShapes Go.ChangeAt Go.RowKit Go.Lib Go.Joins
open Go.ChangeMaps (open_string shut_string)
set_option linter.unusedVariables false
set_option maxRecDepth 100000 in
theorem witness_row (os : Os) {H : Type} (enc : TypeId × Value → H) :
    (Rows.OpenSpec.upto Rows.libraryChairsSpec).preRow enc Tryz.prog Tryz.f3 Rows.libraryChairsUptoRow.domain false Rows.libraryChairsUptoRow.laid ((Open.laidWorld os).forCall (fun _ _ => 0) ⟨#[], #[.slice none 0 0, .string ByteArray.empty, .int .i64 0], []⟩).memory #[.slice none 0 0, .string ByteArray.empty, .int .i64 0] := by
  have hw : (DataW.whole enc Tryz.prog ((Open.laidWorld os).forCall (fun _ _ => 0) ⟨#[], #[.slice none 0 0, .string ByteArray.empty, .int .i64 0], []⟩).memory Tryz.f3.params.toList (Rows.OpenSpec.upto Rows.libraryChairsSpec).vars false (#[.slice none 0 0, .string ByteArray.empty, .int .i64 0] : Array Value).toList 8).map (fun x => (x.1, x.2.1)) =
      some ([.nil, .lit (.string []), .lit (.int .i64 0)], []) := by kernel_rfl
  obtain ⟨⟨x1, x2, x3⟩, hx, hx1⟩ := Option.map_eq_some_iff.1 hw
  simp only [Prod.mk.injEq] at hx1
  obtain ⟨rfl, rfl⟩ := hx1
  exact OpenSpec.preRow_of_cond 8 hx (by kernel_rfl) (fun k hk => by cases hk; kernel_rfl) (by kernel_rfl) (Open.laid_met os _)
theorem laidOut : laidOutB Tryz.prog = true := by kernel_rfl
theorem rd22 : Tryz.prog.readableRec 22 = true := by kernel_rfl
theorem lt22 : 22 < Tryz.prog.types.size := of_decide_eq_true (by kernel_rfl)
set_option maxRecDepth 100000 in
set_option maxHeartbeats 2000000 in
theorem lifted (os : Os) (started : os.Started) (H : Type) (enc : TypeId × Value → H) (F : Stop.Interp) :
    ReturnsInHanded {} Tryz.checked os 3 .any ((Rows.OpenSpec.upto Rows.libraryChairsSpec).preRow enc Tryz.prog Tryz.f3 Rows.libraryChairsUptoRow.domain false Rows.libraryChairsUptoRow.laid) (((Rows.OpenSpec.upto Rows.libraryChairsSpec).at F).post enc Tryz.prog Tryz.f3 false true false false) := by
  refine returnsInHanded_of_row (C := Tryz.checked) (s := Rows.OpenSpec.upto Rows.libraryChairsSpec) Open.own started (by kernel_rfl) Tryz.func3
    (Open.witness #[.slice none 0 0, .string ByteArray.empty, .int .i64 0] (by kernel_rfl) (witness_row os enc)) ?_
  intro W base args ds gs before hval0 hW _ hcond _ hL hS _
  have hval : ∀ (j : Nat) t v, Tryz.f3.params[j]? = some t → args[j]? = some v → Value.okWide Tryz.prog W .any base t v := hval0
  have hk := hcond _ rfl
  have hW' := hW
  obtain ⟨p, q, hA0, hV0, rfl, _, _⟩ := hW
  have hA : DataW.TrodAll enc Tryz.prog W 0 (fun _ => true) true Tryz.f3.params.toList args.toList ds p := hA0
  rw [Tryz.params3] at hA hval
  obtain ⟨v0, vs0, d0, ds0, p0, q0, hargs, rfl, rfl, h0, r0⟩ := trodAll_cons hA
  obtain ⟨v1, vs1, d1, ds1, p1, q1, rfl, rfl, rfl, h1, r1⟩ := trodAll_cons r0
  obtain ⟨v2, vs2, d2, ds2, p2, q2, rfl, rfl, rfl, h2, r2⟩ := trodAll_cons r1
  obtain ⟨rfl, rfl, rfl⟩ := trodAll_nil r2
  obtain rfl : args = #[v0, v1, v2] := by cases args; simp_all
  obtain ⟨rfl, rfl⟩ := trodVars_none hV0
  obtain ⟨a0, len0, cap0, rfl⟩ := okWide_slice Tryz.underlying22 (hval 0 22 v0 rfl rfl)
  obtain ⟨s1, rfl, rfl, rfl, ws1⟩ := open_string Tryz.underlying9 (hval 1 9 v1 rfl rfl) h1
  obtain ⟨b2, rfl, rfl, rfl, wb2⟩ := open_int Tryz.underlying3 (hval 2 3 v2 rfl rfl) h2
  have l0 : ∀ x ∈ p0, x.block < W.heap.size := by obtain ⟨m, hm⟩ := h0; exact DataW.trod_lt m _ _ _ hm
  obtain ⟨l, hln, hlc, hC, hsz⟩ := Lib10.strings_in h0
  subst hln
  have hbd := Lib10.bulk_bound hk
  have m0 := Lib10.bulk_part (show d0 ∈ (([d0, .lit (.string s1.data.toList), .lit (.int .i64 b2)] : List (DataW H)) ++ []) from by simp)
  have m1 := Lib10.bulk_part (show DataW.lit (H := H) (.string s1.data.toList) ∈ (([d0, .lit (.string s1.data.toList), .lit (.int .i64 b2)] : List (DataW H)) ++ []) from by simp)
  have z1 : Rows.uptoBulk (DataW.lit (H := H) (.string s1.data.toList)) = s1.data.toList.length + 1 := by simp [Rows.uptoBulk]
  have y1 : s1.data.toList.length = s1.size := by rw [Array.length_toList]; rfl
  clear hA0 hV0 hval0 hcond hk
  refine (Lib10.chairs_walk b2 hC hlc (fun x hx => by have := hsz x hx; omega) (by omega) (Open.tabs_in hL hS)).mono ?_
  rintro e W' ⟨rfl, bel⟩
  have e1 : ((Rows.OpenSpec.upto Rows.libraryChairsSpec).at F).fn H ([d0, .lit (.string s1.data.toList), .lit (.int .i64 b2)] ++ []) = { results := [.lit (.bool true)], args := [d0, .lit (.string s1.data.toList), .lit (.int .i64 b2)] } := rfl
  refine ⟨_, rfl, _, _, _, [], p0 ++ ([] ++ ([] ++ [])), [], hW', ?_, ?_, ?_, bel.frame _, fun h => by cases h⟩
  · rw [e1]; exact trodAll_mk1 (shut_bool Tryz.underlying4 _)
  · rw [e1]; exact (trodAll_cons_mk (Below.trod laidOut rd22 lt22 h0 bel l0) (trodAll_cons_mk (shut_string Tryz.underlying9 ws1) (trodAll_cons_mk (shut_int Tryz.underlying3 wb2) trodAll_mk0)))
  · rw [e1]; rfl
theorem over : Rows.LibraryChairsUptoSaid :=
  OpenClaim.holds_of_cond 3 Tryz.f3 rfl rfl rfl rfl rfl rfl rfl ⟨rfl, rfl, rfl, rfl, rfl⟩ rfl rfl rfl rfl rfl (by as_aux_lemma => kernel_rfl) Tryz.func3 closed
    (by as_aux_lemma => exact of_decide_eq_true (by kernel_rfl)) (by as_aux_lemma => unfold Func.isWrapper; first | (rw [if_pos (by decide +kernel)]; kernel_rfl) | (rw [if_neg (by decide +kernel)]; exact ⟨rfl, rfl⟩))
    (fun os started H enc _ F0 => by rw [OpenClaim.pre_eq_preRow]; exact lifted os started H enc F0)
theorem named3 : Tryz.prog.funcNamed "sackbut/sackbutlaw10.LibraryChairs" = some 3 := by kernel_rfl
theorem standless : ([22, 9, 3] : List TypeId).all (fun t => decide (Tryz.prog.wantsStandIn t = false)) = true := by kernel_rfl
theorem plain (f : FuncId) (fn : Func) (hf : Tryz.pinned.checked.prog.funcNamed "sackbut/sackbutlaw10.LibraryChairs" = some f) (hfn : Tryz.pinned.checked.prog.funcs[f]? = some fn) :
    true = Tryz.pinned.checked.prog.looks [] ∧ ∀ (j : Nat) t, fn.params[j]? = some t → Tryz.pinned.checked.prog.wantsStandIn t = false := by
  obtain rfl : f = 3 := Option.some.inj (named3.symm.trans hf) |>.symm
  obtain rfl : fn = Tryz.f3 := (Option.some.inj (Tryz.func3.symm.trans hfn)).symm
  exact ⟨by as_aux_lemma => kernel_rfl, fun j t ht => by
    rw [Tryz.params3] at ht
    have hm : t ∈ ([22, 9, 3] : List TypeId) := by
      have := Array.mem_of_getElem? ht
      simpa using this
    exact of_decide_eq_true (List.all_eq_true.1 standless t hm)⟩
theorem card : Rows.LibraryChairsUptoCardSaid :=
  Claim7.holds_tied_plain_at .later [] _ _ _ _
    over (fun _ h => by cases h) (by as_aux_lemma => kernel_rfl) (fun _ h => by cases h) libraryChairsUpto_row_tie rfl ⟨rfl, rfl⟩ (by as_aux_lemma => kernel_rfl) rfl plain
    (by as_aux_lemma => kernel_rfl)
end Go.Proofs.YtoeeipkiadbnpaaGreatDoor.libraryChairs
namespace Go.Proofs.YtoeeipkiadbnpaaGreatDoor
/-- The card, under a short name, for the claim. -/
theorem libraryChairs_holds : Rows.LibraryChairsUptoCardSaid := libraryChairs.card
#print axioms libraryChairs_holds
end Go.Proofs.YtoeeipkiadbnpaaGreatDoor
