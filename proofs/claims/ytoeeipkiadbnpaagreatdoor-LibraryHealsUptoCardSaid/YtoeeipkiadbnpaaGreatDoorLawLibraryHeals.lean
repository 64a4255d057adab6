/- LibraryHeals, where what it reads is small: it returns true for every row of texts and every row of pairs and every whole number; what came in reads as it did. Under the condition that the listed variables of Go's library hold what their initialisers lay. -/
import Derived.Test.YtoeeipkiadbnpaaGreatDoorLibraryHealsM12
import Derived.Test.YtoeeipkiadbnpaaGreatDoorLibraryHealsM22
import Derived.Test.YtoeeipkiadbnpaaGreatDoorLibraryHealsM26
import Derived.Test.YtoeeipkiadbnpaaGreatDoorLibraryHealsM1
import Derived.Test.YtoeeipkiadbnpaaGreatDoorTie
import Derived.Test.YtoeeipkiadbnpaaGreatDoorCards
import Derived.SevenTiedAt
namespace Go.Proofs.YtoeeipkiadbnpaaGreatDoor.libraryHeals
open Go.ChangeShapes Go.WideShapes Go.ChangeAt Go.RowKit Go.Lib Go.Joins
open Go.ChangeMaps (open_string shut_string)
set_option linter.unusedVariables false
set_option maxRecDepth 100000 in
theorem witness_row (os : Os) {H : Type} (enc : TypeId × Value → H) :
    (Rows.OpenSpec.upto Rows.libraryHealsSpec).preRow enc Tryz.prog Tryz.f8 Rows.libraryHealsUptoRow.domain false Rows.libraryHealsUptoRow.laid ((Open.laidWorld os).forCall (fun _ _ => 0) ⟨#[], #[.slice none 0 0, .slice none 0 0, .int .i64 0], []⟩).memory #[.slice none 0 0, .slice none 0 0, .int .i64 0] := by
  have hw : (DataW.whole enc Tryz.prog ((Open.laidWorld os).forCall (fun _ _ => 0) ⟨#[], #[.slice none 0 0, .slice none 0 0, .int .i64 0], []⟩).memory Tryz.f8.params.toList (Rows.OpenSpec.upto Rows.libraryHealsSpec).vars false (#[.slice none 0 0, .slice none 0 0, .int .i64 0] : Array Value).toList 8).map (fun x => (x.1, x.2.1)) =
      some ([.nil, .nil, .lit (.int .i64 0)], []) := by kernel_rfl
  obtain ⟨⟨x1, x2, x3⟩, hx, hx1⟩ := Option.map_eq_some_iff.1 hw
  simp only [Prod.mk.injEq] at hx1
  obtain ⟨rfl, rfl⟩ := hx1
  exact OpenSpec.preRow_of_cond 8 hx (by kernel_rfl) (fun k hk => by cases hk; kernel_rfl) (by kernel_rfl) (Open.laid_met os _)
theorem laidOut : laidOutB Tryz.prog = true := by kernel_rfl
theorem rd22 : Tryz.prog.readableRec 22 = true := by kernel_rfl
theorem lt22 : 22 < Tryz.prog.types.size := of_decide_eq_true (by kernel_rfl)
theorem rd38 : Tryz.prog.readableRec 38 = true := by kernel_rfl
theorem lt38 : 38 < Tryz.prog.types.size := of_decide_eq_true (by kernel_rfl)
theorem pairs_cap {H : Type} {enc : TypeId × Value → H} {w : World} {base : Nat} {spare : Nat → Bool} {held : Bool} {A : Option Addr} {n c : Nat} {d : DataW H} {ps : List MemPlace} (h : DataW.Trod enc Tryz.prog w base spare held 38 (.slice A n c) d ps) : n ≤ c := by
  obtain ⟨fuel, hf⟩ := h
  rcases Go.Deep.open_slice Tryz.underlying38 hf with ⟨hcs, hx⟩ | ⟨a, len, cap, m, k, D, Pl, hcs, _, hl, hm, hmm, hx, hcell⟩
  · simp [Value.cells] at hcs
    obtain ⟨rfl, rfl, rfl⟩ := hcs
    exact Nat.le_refl _
  · simp [Value.cells] at hcs
    obtain ⟨rfl, rfl, rfl⟩ := hcs
    exact hl
set_option maxRecDepth 100000 in
set_option maxHeartbeats 2000000 in
theorem lifted (os : Os) (started : os.Started) (H : Type) (enc : TypeId × Value → H) (F : Stop.Interp) :
    ReturnsInHanded {} Tryz.checked os 8 .any ((Rows.OpenSpec.upto Rows.libraryHealsSpec).preRow enc Tryz.prog Tryz.f8 Rows.libraryHealsUptoRow.domain false Rows.libraryHealsUptoRow.laid) (((Rows.OpenSpec.upto Rows.libraryHealsSpec).at F).post enc Tryz.prog Tryz.f8 false true false false) := by
  refine returnsInHanded_of_row (C := Tryz.checked) (s := Rows.OpenSpec.upto Rows.libraryHealsSpec) Open.own started (by kernel_rfl) Tryz.func8
    (Open.witness #[.slice none 0 0, .slice none 0 0, .int .i64 0] (by kernel_rfl) (witness_row os enc)) ?_
  intro W base args ds gs before hval0 hW _ hcond _ hL hS _
  have hval : ∀ (j : Nat) t v, Tryz.f8.params[j]? = some t → args[j]? = some v → Value.okWide Tryz.prog W .any base t v := hval0
  have hk := hcond _ rfl
  have hW' := hW
  obtain ⟨p, q, hA0, hV0, rfl, _, _⟩ := hW
  have hA : DataW.TrodAll enc Tryz.prog W 0 (fun _ => true) true Tryz.f8.params.toList args.toList ds p := hA0
  rw [Tryz.params8] at hA hval
  obtain ⟨v0, vs0, d0, ds0, p0, q0, hargs, rfl, rfl, h0, r0⟩ := trodAll_cons hA
  obtain ⟨v1, vs1, d1, ds1, p1, q1, rfl, rfl, rfl, h1, r1⟩ := trodAll_cons r0
  obtain ⟨v2, vs2, d2, ds2, p2, q2, rfl, rfl, rfl, h2, r2⟩ := trodAll_cons r1
  obtain ⟨rfl, rfl, rfl⟩ := trodAll_nil r2
  obtain rfl : args = #[v0, v1, v2] := by cases args; simp_all
  obtain ⟨rfl, rfl⟩ := trodVars_none hV0
  obtain ⟨a0, len0, cap0, rfl⟩ := okWide_slice Tryz.underlying22 (hval 0 22 v0 rfl rfl)
  obtain ⟨a1, len1, cap1, rfl⟩ := okWide_slice Tryz.underlying38 (hval 1 38 v1 rfl rfl)
  obtain ⟨b2, rfl, rfl, rfl, wb2⟩ := open_int Tryz.underlying3 (hval 2 3 v2 rfl rfl) h2
  have l0 : ∀ x ∈ p0, x.block < W.heap.size := by obtain ⟨m, hm⟩ := h0; exact DataW.trod_lt m _ _ _ hm
  have l1 : ∀ x ∈ p1, x.block < W.heap.size := by obtain ⟨m, hm⟩ := h1; exact DataW.trod_lt m _ _ _ hm
  obtain ⟨l, hln, hlc, hC, hsz⟩ := Lib10.strings_in h0
  subst hln
  obtain ⟨hn1, fl1, hfl1, hF1⟩ := Lib10.pairs_in h1
  have hbd := Lib10.bulk_bound hk
  have m0 := Lib10.bulk_part (show d0 ∈ (([d0, d1, .lit (.int .i64 b2)] : List (DataW H)) ++ []) from by simp)
  have m1 := Lib10.bulk_part (show d1 ∈ (([d0, d1, .lit (.int .i64 b2)] : List (DataW H)) ++ []) from by simp)
  clear hA0 hV0 hval0 hcond hk
  refine (Lib10.heals_walk hfl1 (Nat.le_trans hn1 (Nat.le_trans m1 hbd)) hF1 (pairs_cap h1) b2 hC hlc (fun x hx => by have := hsz x hx; omega) (Open.tabs_in hL hS)).mono ?_
  rintro e W' ⟨rfl, bel⟩
  have e1 : ((Rows.OpenSpec.upto Rows.libraryHealsSpec).at F).fn H ([d0, d1, .lit (.int .i64 b2)] ++ []) = { results := [.lit (.bool true)], args := [d0, d1, .lit (.int .i64 b2)] } := rfl
  refine ⟨_, rfl, _, _, _, [], p0 ++ (p1 ++ ([] ++ [])), [], hW', ?_, ?_, ?_, bel.frame _, fun h => by cases h⟩
  · rw [e1]; exact trodAll_mk1 (shut_bool Tryz.underlying4 _)
  · rw [e1]; exact (trodAll_cons_mk (Below.trod laidOut rd22 lt22 h0 bel l0) (trodAll_cons_mk (Below.trod laidOut rd38 lt38 h1 bel l1) (trodAll_cons_mk (shut_int Tryz.underlying3 wb2) trodAll_mk0)))
  · rw [e1]; rfl
theorem over : Rows.LibraryHealsUptoSaid :=
  OpenClaim.holds_of_cond 8 Tryz.f8 rfl rfl rfl rfl rfl rfl rfl ⟨rfl, rfl, rfl, rfl, rfl⟩ rfl rfl rfl rfl rfl (by as_aux_lemma => kernel_rfl) Tryz.func8 closed
    (by as_aux_lemma => exact of_decide_eq_true (by kernel_rfl)) (by as_aux_lemma => unfold Func.isWrapper; first | (rw [if_pos (by decide +kernel)]; kernel_rfl) | (rw [if_neg (by decide +kernel)]; exact ⟨rfl, rfl⟩))
    (fun os started H enc _ F0 => by rw [OpenClaim.pre_eq_preRow]; exact lifted os started H enc F0)
theorem named8 : Tryz.prog.funcNamed "sackbut/sackbutlaw10.LibraryHeals" = some 8 := by kernel_rfl
theorem standless : ([22, 38, 3] : List TypeId).all (fun t => decide (Tryz.prog.wantsStandIn t = false)) = true := by kernel_rfl
theorem plain (f : FuncId) (fn : Func) (hf : Tryz.pinned.checked.prog.funcNamed "sackbut/sackbutlaw10.LibraryHeals" = some f) (hfn : Tryz.pinned.checked.prog.funcs[f]? = some fn) :
    true = Tryz.pinned.checked.prog.looks [] ∧ ∀ (j : Nat) t, fn.params[j]? = some t → Tryz.pinned.checked.prog.wantsStandIn t = false := by
  obtain rfl : f = 8 := Option.some.inj (named8.symm.trans hf) |>.symm
  obtain rfl : fn = Tryz.f8 := (Option.some.inj (Tryz.func8.symm.trans hfn)).symm
  exact ⟨by as_aux_lemma => kernel_rfl, fun j t ht => by
    rw [Tryz.params8] at ht
    have hm : t ∈ ([22, 38, 3] : List TypeId) := by
      have := Array.mem_of_getElem? ht
      simpa using this
    exact of_decide_eq_true (List.all_eq_true.1 standless t hm)⟩
theorem card : Rows.LibraryHealsUptoCardSaid :=
  Claim7.holds_tied_plain_at .later [] _ _ _ _
    over (fun _ h => by cases h) (by as_aux_lemma => kernel_rfl) (fun _ h => by cases h) libraryHealsUpto_row_tie rfl ⟨rfl, rfl⟩ (by as_aux_lemma => kernel_rfl) rfl plain
    (by as_aux_lemma => kernel_rfl)
end Go.Proofs.YtoeeipkiadbnpaaGreatDoor.libraryHeals
namespace Go.Proofs.YtoeeipkiadbnpaaGreatDoor
/-- The card, under a short name, for the claim. -/
theorem libraryHeals_holds : Rows.LibraryHealsUptoCardSaid := libraryHeals.card
#print axioms libraryHeals_holds
end Go.Proofs.YtoeeipkiadbnpaaGreatDoor
