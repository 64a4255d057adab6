/- Texts that the proof of LibraryReels needs, put together in build order by this session's program (wip/tools/claimtrim.py). -/
import Derived.Test.YtoeeipkiadbnpaaGreatDoorLibraryReelsM11
import Derived.Test.YtoeeipkiadbnpaaGreatDoorLibraryReelsM13
import Derived.Test.YtoeeipkiadbnpaaGreatDoorLibraryReelsM14
import Derived.Deep.RegionHeld3
import Derived.Maps.RangeWalk
section
namespace Go.Proofs.YtoeeipkiadbnpaaGreatDoor.Lib10
open Go.RowKit Go.Proofs.YtoeeipkiadbnpaaGreatDoorW.PrintWords Go.Proofs.YtoeeipkiadbnpaaGreatDoorW.PrintLast Go.Proofs.YtoeeipkiadbnpaaGreatDoorW.PrintMore
set_option linter.unusedVariables false
abbrev MR (W : World) (b : Nat) (m : List (Str × Value)) : Prop := MapRep Tryz.prog 9 W b m
theorem MR.below {W W' : World} {b : Nat} {m : List (Str × Value)} (h : MR W b m) (hb : Below W.heap.size W W') : MR W' b m := h.same (hb.block b h.lt)
theorem clone107 {W : World} {b : Nat} {m : List (Str × Value)} (h : MR W b m) : Calls Tryz.prog 107 #[.map (some b)] W fun e w' => e = .returned (.map (some W.heap.size)) ∧ MR w' W.heap.size m ∧ Below W.heap.size W w' := by
  obtain ⟨D, hown, ha⟩ := h
  exact (Tryz.maps_Clone_107 9 asIs b m.length D W hown).mono fun e w' ⟨he, h1, _, h3⟩ => ⟨he, ⟨D, h1, ha⟩, h3⟩
theorem clone108 {W : World} {b : Nat} {m : List (Str × Value)} (h : MR W b m) : Calls Tryz.prog 108 #[.map (some b)] W fun e w' => e = .returned (.map (some W.heap.size)) ∧ MR w' W.heap.size m ∧ Below W.heap.size W w' := by
  obtain ⟨D, hown, ha⟩ := h
  exact (Tryz.maps_Clone_108 9 asIs b m.length D W hown).mono fun e w' ⟨he, h1, _, h3⟩ => ⟨he, ⟨D, h1, ha⟩, h3⟩
theorem clone109 {W : World} {b : Nat} {m : List (Str × Value)} (h : MR W b m) : Calls Tryz.prog 109 #[.map (some b)] W fun e w' => e = .returned (.map (some W.heap.size)) ∧ MR w' W.heap.size m ∧ Below W.heap.size W w' := by
  obtain ⟨D, hown, ha⟩ := h
  exact (Tryz.maps_Clone_109 9 asIs b m.length D W hown).mono fun e w' ⟨he, h1, _, h3⟩ => ⟨he, ⟨D, h1, ha⟩, h3⟩
/-- The state's record: its three maps. -/
structure StRec (W : World) (g b1 b2 b3 : Nat) (m1 m2 m3 : List (Str × Value)) : Prop where
  cells : W.heap[g]? = some (.cells #[.map (some b1), .map (some b2), .map (some b3)] 128 (0, 0))
  p1 : MR W b1 m1
  p2 : MR W b2 m2
  p3 : MR W b3 m3
theorem StRec.below {W W' : World} {g b1 b2 b3 : Nat} {m1 m2 m3 : List (Str × Value)} (h : StRec W g b1 b2 b3 m1 m2 m3) (hb : Below W.heap.size W W') : StRec W' g b1 b2 b3 m1 m2 m3 :=
  ⟨(hb.block g (blk_lt h.cells)).trans h.cells, h.p1.below hb, h.p2.below hb, h.p3.below hb⟩
/-- A state: its record and its maps, in blocks of S. -/
def IsSt (S : Nat → Prop) (W : World) (g : Nat) (m1 m2 m3 : List (Str × Value)) : Prop := ∃ b1 b2 b3, S g ∧ S b1 ∧ S b2 ∧ S b3 ∧ b1 ≠ b2 ∧ b1 ≠ b3 ∧ b2 ≠ b3 ∧ StRec W g b1 b2 b3 m1 m2 m3
theorem IsSt.below {S : Nat → Prop} {W W' : World} {g : Nat} {m1 m2 m3 : List (Str × Value)} (h : IsSt S W g m1 m2 m3) (hb : Below W.heap.size W W') : IsSt S W' g m1 m2 m3 := by
  obtain ⟨b1, b2, b3, s0, s1, s2, s3, n1, n2, n3, hr⟩ := h
  exact ⟨b1, b2, b3, s0, s1, s2, s3, n1, n2, n3, hr.below hb⟩
section
set_option maxRecDepth 100000
set_option maxHeartbeats 2000000
theorem begin_calls (W : World) : Calls Tryz.prog 75 #[] W fun e w' => (∃ g, e = .returned (ptr g) ∧ IsSt (fun k => W.heap.size ≤ k) w' g [] [] []) ∧ Below W.heap.size W w' := by
  have hmm := @run_makeMap Tryz.prog
  go_enter Tryz.func75, Tryz.ntmps75
  go_wp2
  go_ret
  have e1 := MapRep.made W Tryz.prog 9
  have e2 := MapRep.made (W.alloc (.map #[] 0)) Tryz.prog 9
  have e3 := MapRep.made ((W.alloc (.map #[] 0)).alloc (.map #[] 0)) Tryz.prog 9
  have e4 := World.alloc_heap_new (((W.alloc (.map #[] 0)).alloc (.map #[] 0)).alloc (.map #[] 0)) (.cells #[.map (some W.heap.size), .map (some (W.heap.size + 1)), .map (some (W.heap.size + 1 + 1))] 128)
  simp only [World.size_alloc] at e2 e3 e4
  refine ⟨⟨_, rfl, W.heap.size, W.heap.size + 1, W.heap.size + 1 + 1, by show W.heap.size ≤ _; omega, Nat.le_refl _, by show W.heap.size ≤ _; omega, by show W.heap.size ≤ _; omega, by omega, by omega, by omega, ⟨e4, ?_, ?_, ?_⟩⟩, ?_⟩
  · exact e1.same (by rw [Below.heap_alloc _ _ _ (by simp; try omega), Below.heap_alloc _ _ _ (by simp; try omega), Below.heap_alloc _ _ _ (by simp; try omega)])
  · exact e2.same (by rw [Below.heap_alloc _ _ _ (by simp; try omega), Below.heap_alloc _ _ _ (by simp; try omega)])
  · exact e3.same (by rw [Below.heap_alloc _ _ _ (by simp; try omega)])
  · exact ((((Below.refl _ W).alloc (Nat.le_refl _) _).alloc (by simp) _).alloc (by simp; omega) _).alloc (by simp; omega) _
theorem keepS {W w' : World} {g b1 b2 b3 : Nat} {m1 m2 m3 : List (Str × Value)} (h : StRec W g b1 b2 b3 m1 m2 m3) (hb : Aside0 (Below W.heap.size W w')) :
    w'.cell? ⟨g, 0, none⟩ = some (.map (some b1)) ∧ w'.cell? ⟨g, 1, none⟩ = some (.map (some b2)) ∧ w'.cell? ⟨g, 2, none⟩ = some (.map (some b3)) ∧ Aside0 (Below W.heap.size W w') := by
  have h2 := (h.below hb.out).cells
  exact ⟨(blk_cell h2 0).trans rfl, (blk_cell h2 1).trans rfl, (blk_cell h2 2).trans rfl, hb⟩
theorem clone_calls {S : Nat → Prop} {W : World} {g : Nat} {m1 m2 m3 : List (Str × Value)} (h : IsSt S W g m1 m2 m3) : Calls Tryz.prog 65 #[ptr g] W fun e w' => (∃ g', e = .returned (ptr g') ∧ IsSt (fun k => W.heap.size ≤ k) w' g' m1 m2 m3) ∧ Below W.heap.size W w' := by
  obtain ⟨b1, b2, b3, _, _, _, _, _, _, _, h⟩ := h
  have q0 : W.cell? ⟨g, 0, none⟩ = some (.map (some b1)) := (blk_cell h.cells 0).trans rfl
  have q1 : W.cell? ⟨g, 1, none⟩ = some (.map (some b2)) := (blk_cell h.cells 1).trans rfl
  have q2 : W.cell? ⟨g, 2, none⟩ = some (.map (some b3)) := (blk_cell h.cells 2).trans rfl
  have H := Aside0.mk h
  clear h
  go_enter Tryz.func65, Tryz.ntmps65
  go_wp2_with fail
  have HB := Aside0.mk (below_drew1 (Below.refl W.heap.size W))
  go_region_held3 (fun w' => w'.cell? ⟨g, 0, none⟩ = some (.map (some b1)) ∧ w'.cell? ⟨g, 1, none⟩ = some (.map (some b2)) ∧ w'.cell? ⟨g, 2, none⟩ = some (.map (some b3)) ∧ Aside0 (Below W.heap.size W w')) ((first | exact keepS H.out (by assumption) | exact keepS H.out ⟨below_alloc (Aside0.out (by assumption)) _⟩)) (first | (go_at_call 107; refine (clone107 (H.out.p1.below (Aside0.out (by assumption)))).mono ?_; rintro e w2 ⟨rfl, hm, hb⟩; have HG1 := Aside0.mk (And.intro (Below.size (Aside0.out (by assumption) : Below W.heap.size W _)) hm.lt); have HM1 := Aside0.mk hm; (try replace HM2 := Aside0.mk (HM2.out.below hb)); (try replace HM3 := Aside0.mk (HM3.out.below hb)); have HB2 := Aside0.mk (Below.trans (Aside0.out (by assumption) : Below W.heap.size W _) (hb.mono (Below.size (Aside0.out (by assumption) : Below W.heap.size W _)))); clear hm hb) | (go_at_call 108; refine (clone108 (H.out.p2.below (Aside0.out (by assumption)))).mono ?_; rintro e w2 ⟨rfl, hm, hb⟩; have HG2 := Aside0.mk (And.intro (Below.size (Aside0.out (by assumption) : Below W.heap.size W _)) hm.lt); have HM2 := Aside0.mk hm; (try replace HM1 := Aside0.mk (HM1.out.below hb)); (try replace HM3 := Aside0.mk (HM3.out.below hb)); have HB2 := Aside0.mk (Below.trans (Aside0.out (by assumption) : Below W.heap.size W _) (hb.mono (Below.size (Aside0.out (by assumption) : Below W.heap.size W _)))); clear hm hb) | (go_at_call 109; refine (clone109 (H.out.p3.below (Aside0.out (by assumption)))).mono ?_; rintro e w2 ⟨rfl, hm, hb⟩; have HG3 := Aside0.mk (And.intro (Below.size (Aside0.out (by assumption) : Below W.heap.size W _)) hm.lt); have HM3 := Aside0.mk hm; (try replace HM1 := Aside0.mk (HM1.out.below hb)); (try replace HM2 := Aside0.mk (HM2.out.below hb)); have HB2 := Aside0.mk (Below.trans (Aside0.out (by assumption) : Below W.heap.size W _) (hb.mono (Below.size (Aside0.out (by assumption) : Below W.heap.size W _)))); clear hm hb))
  all_goals
    go_wp2
    go_ret
    have g1 := HG1.out
    have g2 := HG2.out
    have g3 := HG3.out
    have l1 := HM1.out.lt
    have l2 := HM2.out.lt
    have l3 := HM3.out.lt
    have hsz := HB2.out.size
    refine ⟨⟨_, rfl, _, _, _, hsz, g1.1, g2.1, g3.1, ?_, ?_, ?_, ⟨World.alloc_heap_new _ _, HM1.out.same (Below.heap_alloc _ _ _ l1), HM2.out.same (Below.heap_alloc _ _ _ l2), HM3.out.same (Below.heap_alloc _ _ _ l3)⟩⟩, below_alloc HB2.out _⟩
    all_goals
      have hd : W.drew.heap.size = W.heap.size := rfl
      omega
end
end Go.Proofs.YtoeeipkiadbnpaaGreatDoor.Lib10
end

section
namespace Go.Proofs.YtoeeipkiadbnpaaGreatDoor.Lib10
open Go.RowKit Go.Proofs.YtoeeipkiadbnpaaGreatDoorW.PrintWords Go.Proofs.YtoeeipkiadbnpaaGreatDoorW.PrintLast Go.Proofs.YtoeeipkiadbnpaaGreatDoorW.PrintMore
set_option linter.unusedVariables false
theorem keyOf_string_inv {P : Program} {k : TypeId} (hk : P.underlying k = some .string) {key : Value} {kl : Lit} (h : keyOf P k key = some kl) : ∃ x : ByteArray, key = .string x ∧ kl = .string x.data.toList := by
  cases key <;> simp [keyOf, hk, mapKey] at h
  first | exact ⟨_, rfl, h.symm⟩ | exact ⟨_, rfl, h.2.symm⟩
/-- A round of a range over a map by names. -/
theorem next_named {P : Program} (w : World) {ops : Array Oper} {rest : List Oper} {o : Oper} {a : Act} {Q : Exit → Act → World → Prop}
    (hg : o.guard = none) (it : Operand) (hop : o.op = Op.next it false) (k : TypeId) (K : Maps.Keyed P k) (hk : P.underlying k = some .string)
    (b r n : Nat) (D : DataW Value) (m : List (Str × Value)) (ha : Agrees D m) (left : Lit → Bool) (hl : ∀ kl, left kl = true → Maps.has D kl = true) (cnt : Nat)
    (hit : a.eval it = .pointer (some ⟨r, 0, none⟩)) (h : w.ranges P k asIs b r n D left cnt)
    (hDone : (∀ kl, left kl = false) → wpList P ops Q rest (a.put o.dst (.tuple #[.bool false])) w)
    (hMore : ∀ (x : ByteArray) (v : Value) (w' : World) (cnt' : Nat), get m x.data.toList = some v → w'.ranges P k asIs b r n D (fun z => left z && !z.sameKey (.string x.data.toList)) cnt' → cnt' < cnt →
      w.grownBy w' (some r) → (Instr.entry (.pointer (some ⟨r, 0, none⟩))).run P w' = .ok (.tuple #[.string x, v]) w' → wpList P ops Q rest (a.put o.dst (.tuple #[.bool true, .string x, v])) w') :
    wpList P ops Q (o :: rest) a w :=
  wpList_next_ranges w hg it hop k K asIs Value.string (fun v : Value => v) (fun key kl hkey => by obtain ⟨x, rfl, _⟩ := keyOf_string_inv hk hkey; exact ⟨x, rfl⟩) (fun v y hv => ⟨v, rfl⟩)
    b r n D left cnt hit h (fun _ hz => hDone hz) (fun x c kl y w' cnt' hkey hlk hv hat hrg hlt hgr hsz hen => by
      obtain ⟨x', ex, rfl⟩ := keyOf_string_inv hk hkey
      cases ex
      refine hMore x c w' cnt' ?_ hrg hlt hgr hen
      have h1 := hl _ hlk
      rw [ha.has_] at h1
      obtain ⟨u, hu⟩ := Option.isSome_iff_exists.1 h1
      have h2 := hat (.held c)
      rw [ha.at_, hu] at h2
      have h3 : y = (.held c, []) := (Option.some.inj hv).symm
      rw [h3] at h2
      injection h2 with h2
      rw [hu, h2])
theorem law9 : Maps.Keyed Tryz.prog 9 := Maps.string_keyed Tryz.underlying9
def ints (l : List (Str × Int)) : List (Str × Value) := l.map fun p => (p.1, .int .i64 p.2)
theorem get_map {α β : Type} (f : α → β) (k : Str) : ∀ l : List (Str × α), get (l.map fun p => (p.1, f p.2)) k = (get l k).map f
  | [] => rfl
  | p :: l => by
    rw [List.map_cons, get_cons, get_cons, get_map f k l]
    split <;> rfl
theorem get_ints (l : List (Str × Int)) (k : Str) : get (ints l) k = (get l k).map (.int .i64) := get_map _ k l
section
set_option maxRecDepth 100000
set_option maxHeartbeats 2000000
theorem sitter_calls {W : World} {g b1 b2 b3 : Nat} {m1 m3 : List (Str × Value)} {ch : List (Str × Int)} (h : StRec W g b1 b2 b3 m1 (ints ch) m3) (c : Int) : Calls Tryz.prog 111 #[ptr g, .int .i64 c] W fun e w' =>
    ((∃ n : ByteArray, get ch n.data.toList = some c ∧ e = .returned (.tuple #[.string n, .bool true])) ∨ ((∀ k, get ch k ≠ some c) ∧ e = .returned (.tuple #[.string ByteArray.empty, .bool false]))) ∧ Below W.heap.size W w' := by
  obtain ⟨D, hown, ha⟩ := h.p2
  have q1 : W.cell? ⟨g, 1, none⟩ = some (.map (some b2)) := (blk_cell h.cells 1).trans rfl
  have HA := Aside0.mk ha
  have HO := Aside0.mk hown
  have HS := Aside0.mk ha.size_
  clear h hown ha
  go_enter Tryz.func111, Tryz.ntmps111
  go_wp2_with (at_range; go_loud (refine wpList_range_own _ rfl _ 125 rfl 9 3 law9 Tryz.underlying125 asIs b2 _ _ rfl HO.out ?_); intro W3 hrg hg3 hs3)
  go_frame
  obtain ⟨r, hr⟩ : ∃ r, r = W.heap.size := ⟨_, rfl⟩
  rw [← hr] at hrg hs3 ⊢
  have HB3 := Aside0.mk ((Below.refl W.heap.size W).grown hg3 (Nat.le_refl _) (fun k e => by cases e))
  have HRg := Aside0.mk hrg
  have HR := Aside0.mk hr
  clear hrg hg3 hs3 hr q1
  go_loopg [] (ints ch).length (fun gk wr => ∃ (left : Lit → Bool), Aside0 (wr.ranges Tryz.prog 9 asIs b2 r (ints ch).length D left gk) ∧ Aside0 (∀ kl, left kl = true → Maps.has D kl = true) ∧ Aside0 (∀ k, Maps.has D (.string k) = true → left (.string k) = false → get ch k ≠ some c) ∧ Aside0 (Below W.heap.size W wr))
  case atStart => exact ⟨Maps.has D, by have h := HRg.out; rw [HS.out] at h; exact ⟨h⟩, ⟨fun _ h => h⟩, ⟨fun k h1 h2 => by rw [h1] at h2; cases h2⟩, HB3⟩
  case round =>
    obtain ⟨left, hrg, hsub, hno, hbel⟩ := hrel
    go_wp2_with (at_next; go_loud (refine next_named _ rfl _ rfl 9 law9 Tryz.underlying9 b2 r _ D (ints ch) HA.out left hsub.out _ rfl hrg.out ?_ ?_))
    · intro hz
      go_wp2_with fail
      go_ret2
      refine ⟨.inr ⟨fun k hk => ?_, rfl⟩, hbel.out⟩
      refine hno.out k ?_ (hz _) hk
      rw [HA.out.has_, get_ints, hk]; rfl
    · intro x v W4 cnt2 hget hrg4 hlt hg4 hen
      rw [get_ints] at hget
      obtain ⟨n, hn, rfl⟩ := Option.map_eq_some_iff.1 hget
      have HN := Aside0.mk hn
      have HRg4 := Aside0.mk hrg4
      have HB4 := Aside0.mk (hbel.out.grown hg4 hbel.out.size (fun k e => by cases e; exact Nat.le_of_eq HR.out.symm))
      clear hget hn hrg4 hg4
      by_cases hnc : n = c
      · subst hnc
        have e1 : (n == n) = true := beq_self_eq_true n
        go_wp2_with fail
        go_ret2
        exact ⟨.inl ⟨x, HN.out, rfl⟩, HB4.out⟩
      · have e1 : (n == c) = false := beq_eq_false_iff_ne.2 hnc
        have HNC := Aside0.mk hnc
        clear hnc
        go_wp2_with fail
        go_roundg cnt2
        case measure => exact hlt
        case rel =>
          refine ⟨_, HRg4, ⟨fun kl h => hsub.out kl (by simp at h; exact h.1)⟩, ⟨fun k h1 h2 => ?_⟩, HB4⟩
          cases hk : left (.string k) with
          | false => exact hno.out k h1 hk
          | true =>
            rw [hk] at h2
            have h3 : k = x.data.toList := by simpa [Lit.sameKey] using h2
            rw [h3, HN.out]
            intro h4
            injection h4 with h4
            exact HNC.out h4
end
end Go.Proofs.YtoeeipkiadbnpaaGreatDoor.Lib10
end
