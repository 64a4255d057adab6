/- LibraryReels returns true for every whole number and every row of acts: the reel and the reference's reel, touched alike, answer alike; the row reads as it did. Under the condition that the listed variables of Go's library hold what their initialisers lay. -/
import Derived.Test.YtoeeipkiadbnpaaGreatDoorLibraryReelsM12
import Derived.Test.YtoeeipkiadbnpaaGreatDoorLibraryReelsM21
import Derived.Test.YtoeeipkiadbnpaaGreatDoorLibraryReelsM25
import Derived.Test.YtoeeipkiadbnpaaGreatDoorLibraryReelsM1
import Derived.Test.YtoeeipkiadbnpaaGreatDoorTie
import Derived.Test.YtoeeipkiadbnpaaGreatDoorCards
import Derived.SevenTiedAt
namespace Go.Proofs.YtoeeipkiadbnpaaGreatDoor.libraryReels
open Go.ChangeShapes Go.WideShapes Go.ChangeAt Go.RowKit Go.Lib Go.Joins
open Go.ChangeMaps (open_string shut_string)
set_option linter.unusedVariables false
set_option maxRecDepth 100000 in
theorem witness_row (os : Os) {H : Type} (enc : TypeId × Value → H) :
    (OpenSpec.ofChange Rows.libraryReelsSpec).preRow enc Tryz.prog Tryz.f5 Rows.libraryReelsRow.domain false Rows.libraryReelsRow.laid ((Open.laidWorld os).forCall (fun _ _ => 0) ⟨#[], #[.int .i64 0, .slice none 0 0], []⟩).memory #[.int .i64 0, .slice none 0 0] := by
  have hw : (DataW.whole enc Tryz.prog ((Open.laidWorld os).forCall (fun _ _ => 0) ⟨#[], #[.int .i64 0, .slice none 0 0], []⟩).memory Tryz.f5.params.toList (OpenSpec.ofChange Rows.libraryReelsSpec).vars false (#[.int .i64 0, .slice none 0 0] : Array Value).toList 8).map (fun x => (x.1, x.2.1)) =
      some ([.lit (.int .i64 0), .nil], []) := by kernel_rfl
  obtain ⟨⟨x1, x2, x3⟩, hx, hx1⟩ := Option.map_eq_some_iff.1 hw
  simp only [Prod.mk.injEq] at hx1
  obtain ⟨rfl, rfl⟩ := hx1
  exact OpenSpec.preRow_of_cond 8 hx (by kernel_rfl) (fun k hk => by cases hk) (by kernel_rfl) (Open.laid_met os _)
theorem laidOut : laidOutB Tryz.prog = true := by kernel_rfl
theorem rd52 : Tryz.prog.readableRec 52 = true := by kernel_rfl
theorem lt52 : 52 < Tryz.prog.types.size := of_decide_eq_true (by kernel_rfl)
theorem cells57_ : Tryz.prog.cellsOf 57 = 4 := by kernel_rfl
set_option maxRecDepth 100000 in
theorem acts_in {H : Type} {enc : TypeId × Value → H} {w : World} {base : Nat} {spare : Nat → Bool} {held : Bool} {A : Option Addr} {n c : Nat} {d : DataW H} {ps : List MemPlace} (h : DataW.Trod enc Tryz.prog w base spare held 52 (.slice A n c) d ps) :
    n ≤ c ∧ ∃ l : List Lib10.ActV, l.length = n ∧ Lib10.ActsAt w A l := by
  obtain ⟨fuel, hf⟩ := h
  rcases Go.Deep.open_slice Tryz.underlying52 hf with ⟨hcs, hx⟩ | ⟨a, len, cap, m, k, D, Pl, hcs, _, hl, hm, hmm, hx, hcell⟩
  · simp [Value.cells] at hcs
    obtain ⟨rfl, rfl, rfl⟩ := hcs
    exact ⟨Nat.le_refl _, [], rfl, fun j p hp => by cases hp⟩
  · simp [Value.cells] at hcs
    obtain ⟨rfl, rfl, rfl⟩ := hcs
    have hnm : n ≤ m := by rw [hmm]; split <;> omega
    have each : ∀ i, i < n → ∃ p : Lib10.ActV, w.cell? (a.add (i * 4)) = some (.int .i64 p.kd) ∧ w.cell? { block := (a.add (i * 4)).block, off := (a.add (i * 4)).off + 1 } = some (.int .i64 p.n) ∧ w.cell? { block := (a.add (i * 4)).block, off := (a.add (i * 4)).off + 2 } = some (.int .i64 p.m) ∧ w.cell? { block := (a.add (i * 4)).block, off := (a.add (i * 4)).off + 3 } = some (.string p.line) ∧ p.Ok := by
      intro i hi
      obtain ⟨cs, h1, h2⟩ := hcell i (by omega)
      rw [cells57_] at h1
      obtain ⟨_, hl2, hc⟩ := World.cells?_some h1
      obtain ⟨xs, q, _, _, _, hxl, he⟩ := DataW.trod_struct Tryz.underlying57 h2
      match cs, hl2 with
      | [u0, u1, u2, u3], _ =>
        match xs, hxl with
        | [y0, y1, y2, y3], _ =>
          have g0 := he 0 _ rfl
          have g1 := he 1 _ rfl
          have g2 := he 2 _ rfl
          have g3 := he 3 _ rfl
          simp [Lib10.cells3_, Lib10.cells9_] at g0 g1 g2 g3
          obtain ⟨z0, e0, _, _⟩ := DataW.trod_int Tryz.underlying3 g0
          obtain ⟨z1, e1, _, f1⟩ := DataW.trod_int Tryz.underlying3 g1
          obtain ⟨z2, e2, _, _⟩ := DataW.trod_int Tryz.underlying3 g2
          obtain ⟨z3, e3, _, f3⟩ := DataW.trod_string Tryz.underlying9 g3
          simp at e0 e1 e2 e3
          subst e0 e1 e2 e3
          have c0 := hc 0 (by omega)
          have c1 := hc 1 (by omega)
          have c2 := hc 2 (by omega)
          have c3 := hc 3 (by omega)
          have hmax : maxLen ≤ 9223372036854775807 := by decide
          have hw : z1 ≤ 9223372036854775807 := by
            simp only [Lit.wf, Bool.and_eq_true, decide_eq_true_eq] at f1
            have h := f1.2
            have e : IntKind.max .i64 = 9223372036854775807 := by decide
            rw [e] at h
            exact h
          exact ⟨⟨z0, z1, z2, z3⟩, c0.trans rfl, c1.trans rfl, c2.trans rfl, c3.trans rfl, ⟨hw, Nat.le_trans f3 hmax⟩⟩
    refine ⟨hl, (List.range n).map fun i => if hi : i < n then Classical.choose (each i hi) else ⟨0, 0, 0, ByteArray.empty⟩, by simp, fun j p hp => ?_⟩
    rw [List.getElem?_map] at hp
    have hj : j < n := by
      by_cases hj : j < n
      · exact hj
      · rw [List.getElem?_eq_none (by simp; omega)] at hp; cases hp
    rw [List.getElem?_range hj] at hp
    simp only [Option.map_some, dif_pos hj, Option.some.injEq] at hp
    subst hp
    have hs := Classical.choose_spec (each j hj)
    exact ⟨a, rfl, hs.1, hs.2.1, hs.2.2.1, hs.2.2.2.1, hs.2.2.2.2⟩
set_option maxRecDepth 100000 in
set_option maxHeartbeats 2000000 in
theorem lifted (os : Os) (started : os.Started) (H : Type) (enc : TypeId × Value → H) (F : Stop.Interp) :
    ReturnsInHanded {} Tryz.checked os 5 .any ((OpenSpec.ofChange Rows.libraryReelsSpec).preRow enc Tryz.prog Tryz.f5 Rows.libraryReelsRow.domain false Rows.libraryReelsRow.laid) (((OpenSpec.ofChange Rows.libraryReelsSpec).at F).post enc Tryz.prog Tryz.f5 false true false false) := by
  refine returnsInHanded_of_row (C := Tryz.checked) (s := OpenSpec.ofChange Rows.libraryReelsSpec) Open.own started (by kernel_rfl) Tryz.func5
    (Open.witness #[.int .i64 0, .slice none 0 0] (by kernel_rfl) (witness_row os enc)) ?_
  intro W base args ds gs before hval0 hW _ _ _ hL hS _
  have hval : ∀ (j : Nat) t v, Tryz.f5.params[j]? = some t → args[j]? = some v → Value.okWide Tryz.prog W .any base t v := hval0
  have hW' := hW
  obtain ⟨p, q, hA0, hV0, rfl, _, _⟩ := hW
  have hA : DataW.TrodAll enc Tryz.prog W 0 (fun _ => true) true Tryz.f5.params.toList args.toList ds p := hA0
  rw [Tryz.params5] at hA hval
  obtain ⟨v0, vs0, d0, ds0, p0, q0, hargs, rfl, rfl, h0, r0⟩ := trodAll_cons hA
  obtain ⟨v1, vs1, d1, ds1, p1, q1, rfl, rfl, rfl, h1, r1⟩ := trodAll_cons r0
  obtain ⟨rfl, rfl, rfl⟩ := trodAll_nil r1
  obtain rfl : args = #[v0, v1] := by cases args; simp_all
  obtain ⟨rfl, rfl⟩ := trodVars_none hV0
  obtain ⟨b0, rfl, rfl, rfl, wb0⟩ := open_int Tryz.underlying3 (hval 0 3 v0 rfl rfl) h0
  obtain ⟨a1, len1, cap1, rfl⟩ := okWide_slice Tryz.underlying52 (hval 1 52 v1 rfl rfl)
  have l1 : ∀ x ∈ p1, x.block < W.heap.size := by obtain ⟨m, hm⟩ := h1; exact DataW.trod_lt m _ _ _ hm
  obtain ⟨hcap, l, hln, hact⟩ := acts_in h1
  clear hA0 hV0 hval0
  refine (Lib10.reels_walk b0 hln hcap hact (Open.tabs_in hL hS)).mono ?_
  rintro e W' ⟨rfl, bel⟩
  have e1 : ((OpenSpec.ofChange Rows.libraryReelsSpec).at F).fn H ([.lit (.int .i64 b0), d1] ++ []) = { results := [.lit (.bool true)], args := [.lit (.int .i64 b0), d1] } := rfl
  refine ⟨_, rfl, _, _, _, [], [] ++ (p1 ++ []), [], hW', ?_, ?_, ?_, bel.frame _, fun h => by cases h⟩
  · rw [e1]; exact trodAll_mk1 (shut_bool Tryz.underlying4 _)
  · rw [e1]; exact trodAll_cons_mk (shut_int Tryz.underlying3 wb0) (trodAll_cons_mk (Below.trod laidOut rd52 lt52 h1 bel l1) trodAll_mk0)
  · rw [e1]; rfl
theorem over : Rows.LibraryReelsSaid :=
  OpenClaim.holds_of_cond 5 Tryz.f5 rfl rfl rfl rfl rfl rfl rfl ⟨rfl, rfl, rfl, rfl, rfl⟩ rfl rfl rfl rfl rfl (by as_aux_lemma => kernel_rfl) Tryz.func5 closed
    (by as_aux_lemma => exact of_decide_eq_true (by kernel_rfl)) (by as_aux_lemma => unfold Func.isWrapper; first | (rw [if_pos (by decide +kernel)]; kernel_rfl) | (rw [if_neg (by decide +kernel)]; exact ⟨rfl, rfl⟩))
    (fun os started H enc _ F0 => by rw [OpenClaim.pre_eq_preRow]; exact lifted os started H enc F0)
theorem named5 : Tryz.prog.funcNamed "sackbut/sackbutlaw10.LibraryReels" = some 5 := by kernel_rfl
theorem standless : ([3, 52] : List TypeId).all (fun t => decide (Tryz.prog.wantsStandIn t = false)) = true := by kernel_rfl
theorem plain (f : FuncId) (fn : Func) (hf : Tryz.pinned.checked.prog.funcNamed "sackbut/sackbutlaw10.LibraryReels" = some f) (hfn : Tryz.pinned.checked.prog.funcs[f]? = some fn) :
    true = Tryz.pinned.checked.prog.looks [] ∧ ∀ (j : Nat) t, fn.params[j]? = some t → Tryz.pinned.checked.prog.wantsStandIn t = false := by
  obtain rfl : f = 5 := Option.some.inj (named5.symm.trans hf) |>.symm
  obtain rfl : fn = Tryz.f5 := (Option.some.inj (Tryz.func5.symm.trans hfn)).symm
  exact ⟨by as_aux_lemma => kernel_rfl, fun j t ht => by
    rw [Tryz.params5] at ht
    have hm : t ∈ ([3, 52] : List TypeId) := by
      have := Array.mem_of_getElem? ht
      simpa using this
    exact of_decide_eq_true (List.all_eq_true.1 standless t hm)⟩
theorem card : Rows.LibraryReelsCardSaid :=
  Claim7.holds_tied_plain_at .later [] _ _ _ _
    over (fun _ h => by cases h) (by as_aux_lemma => kernel_rfl) (fun _ h => by cases h) libraryReels_row_tie rfl ⟨rfl, rfl⟩ (by as_aux_lemma => kernel_rfl) rfl plain
    (by as_aux_lemma => kernel_rfl)
end Go.Proofs.YtoeeipkiadbnpaaGreatDoor.libraryReels
namespace Go.Proofs.YtoeeipkiadbnpaaGreatDoor
/-- The card, under a short name, for the claim. -/
theorem libraryReels_holds : Rows.LibraryReelsCardSaid := libraryReels.card
#print axioms libraryReels_holds
end Go.Proofs.YtoeeipkiadbnpaaGreatDoor
