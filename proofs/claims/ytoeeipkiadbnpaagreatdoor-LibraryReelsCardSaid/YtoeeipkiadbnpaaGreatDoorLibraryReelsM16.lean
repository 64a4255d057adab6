/- Texts that the proof of LibraryReels needs, put together in build order by this session's program (wip/tools/claimtrim.py). -/
import Derived.Test.YtoeeipkiadbnpaaGreatDoorLibraryReelsM7
import Derived.Outline
section
namespace Go.Proofs.YtoeeipkiadbnpaaGreatDoor.Lib10
open Go.RowKit Go.Proofs.YtoeeipkiadbnpaaGreatDoorW.PrintWords Go.Proofs.YtoeeipkiadbnpaaGreatDoorW.PrintLast Go.Proofs.YtoeeipkiadbnpaaGreatDoorW.PrintMore
set_option linter.unusedVariables false
theorem info5 : (Tryz.prog.info? 5).map (fun i => (i.zero, i.size, i.bytes)) = some (some (.int .u8 0), 1, 1) := by kernel_rfl
/-- What Append makes of a reel whose power is on: the error, and the reel. -/
def appendV : ReelV → List Int → Int × ReelV
  | x, [] => (0, x)
  | x, c :: l => if x.fuse = 0 then (8, { x with off := true }) else if (x.b.length : Int) = x.size then (7, x) else appendV { x with fuse := less x.fuse, b := x.b ++ [c] } l
theorem below_turn {B : Nat} {W W1 W2 : World} {g : Nat} (h : Below B W W1) (t : Turn W1 W2 g) (hg : B ≤ g) : Below B W W2 := h.trans (t.bel.mono hg)
/-- What stands behind a spending. -/
structure After (F : Nat → Prop) (B g : Nat) (W w1 : World) (u : Value) (b : List Int) : Prop where
  row : (Kd.int .u8).R 5 w1 B (fun j => (F j ∧ j ≠ g) ∨ W.heap.size ≤ j) u b
  bel : Below B W w1
  kept : Kept W w1 F
  le : W.heap.size ≤ w1.heap.size
  lt : g < w1.heap.size
  ne : some g ≠ u.ownBlock
theorem after_spend {F : Nat → Prop} {B g : Nat} {W wr w1 : World} {u : Value} {b : List Int} (hrow : (Kd.int .u8).R 5 wr B (fun j => (F j ∧ j ≠ g) ∨ W.heap.size ≤ j) u b) (hkept : Kept W wr F) (hbel : Below B W wr) {nq : Nat} (h2 : Turn (wr.drewN nq) w1 g) (hg : F g) (hBg : B ≤ g) (hlt : g < W.heap.size) :
    After F B g W w1 u b where
  row := Kd.R_step (w1 := w1) hrow (fun j hj _ => h2.oth j (fun e => by subst e; rcases hj with hj | hj; exact hj.2 rfl; omega))
  bel := (pw_below_drewN hbel nq).trans (h2.bel.mono hBg)
  kept := (hkept.drewN nq).then_ (h2.kept (F := fun j => j = g) rfl) (fun j hj => .inl (hj ▸ hg))
  le := Nat.le_trans hkept.1 (Nat.le_of_eq h2.sz.symm)
  lt := Nat.lt_of_lt_of_le hlt (Nat.le_trans hkept.1 (Nat.le_of_eq h2.sz.symm))
  ne := fun e => by
    rcases hrow.1 _ e.symm with h | h
    · exact h.2 rfl
    · omega
theorem less_range {f : Int} (h0 : -1 ≤ f) (h1 : f ≤ 9223372036854775807) (hf : f ≠ 0) : -1 ≤ less f ∧ less f ≤ 9223372036854775807 := by
  unfold less
  split <;> omega
section
set_option maxRecDepth 100000
set_option maxHeartbeats 1000000
theorem append_calls {F : Nat → Prop} {B : Nat} {W : World} {g : Nat} {x : ReelV} {A : Option Addr} {n c : Nat} {bs : List Int} (hr : ReelRep F B W g x) (hx : Fine x) (ho : x.off = false) (hF : ∀ k, F k → B ≤ k) (hBW : B ≤ W.heap.size)
    (hn : n ≤ c) (hC : ∀ W', Kept W W' F → (Kd.int .u8).C W' A n bs) :
    Calls Tryz.prog 31 #[ptr g, .slice A n c] W fun e w' => e = .returned (.int .i64 (appendV x bs).1) ∧ ReelRep (fun k => F k ∨ W.heap.size ≤ k) B w' g (appendV x bs).2 ∧ Kept W w' F ∧ Below B W w' := by
  obtain ⟨hg, v, hrec, hrow⟩ := hr
  have hlen : bs.length = n := (hC W (Kept.refl W F)).1
  have hn64 : n ≤ 9223372036854775807 := (hC W (Kept.refl W F)).2.1
  have HR := Aside0.mk (ready_on hrec (by have := hx.size0; omega) ho)
  have H1 := Aside0.mk hrec
  have H2 := Aside0.mk hrow
  have H3 := Aside0.mk hx
  have H4 := Aside0.mk ho
  have H5 := Aside0.mk hC
  have HL := Aside0.mk hlen
  have HFg := Aside0.mk (hF g hg)
  have HG := Aside0.mk hg
  have HBW := Aside0.mk hBW
  clear hrec hrow hx ho hC hlen hBW hg
  go_enter Tryz.func31, Tryz.ntmps31
  go_wp2_with (go_at_call 45; refine HR.out.mono ?_; rintro e w' ⟨rfl, rfl⟩)
  go_loopw [16] (fun v16 wr => ∃ (k : Nat) (y : ReelV) (u : Value), k ≤ n ∧ v16 = .int .i64 k ∧ Aside0 (appendV x bs = appendV y (bs.drop k)) ∧ Aside0 (y.off = false) ∧ Aside0 (Fine y) ∧ Aside0 (Rec wr g u y) ∧
      Aside0 ((Kd.int .u8).R 5 wr B (fun j => (F j ∧ j ≠ g) ∨ W.heap.size ≤ j) u y.b) ∧ Aside0 (Kept W wr F) ∧ Aside0 (Below B W wr)) (fun v16 _ => n - (intOf v16).toNat)
  case atStart => exact ⟨0, x, v, Nat.zero_le _, rfl, ⟨rfl⟩, H4, H3, H1, ⟨Kd.R_mono H2.out (fun _ h => .inl h)⟩, ⟨Kept.refl _ _⟩, ⟨Below.refl _ _⟩⟩
  case round =>
    obtain ⟨k, y, u, hk, rfl, hA, hoff, hfine, hrec, hrow, hkept, hbel⟩ := hrel
    by_cases hlt : k < n
    · have hCw := H5.out wr hkept.out
      have i0 : (0 : Int) ≤ (k : Int) := by omega
      have i1 : (k : Int) < (n : Int) := by omega
      have hdrop : bs.drop k = rd bs (k : Int) :: bs.drop (k + 1) := by
        have hkb : k < bs.length := by rw [HL.out]; exact hlt
        rw [List.drop_eq_getElem_cons hkb]
        unfold rd
        rw [Int.toNat_natCast]
        simp [hkb]
      obtain ⟨ad, e167, hx0⟩ := Kd.at_int hCw (k : Int) i0 i1
      have HD := Aside0.mk hdrop
      clear hdrop hCw
      cases e167
      rw [Int.toNat_natCast] at hx0
      replace i0 := eq_true i0
      replace i1 := eq_true i1
      by_cases hf : y.fuse = 0
      · have HBu := Aside0.mk (burnt_yes hrec.out hf)
        have HF := Aside0.mk hf
        clear hf
        go_wp2_with (go_at_call 57; refine HBu.out.mono ?_; rintro e w1 ⟨rfl, h1, h2⟩; have HN1 := Aside0.mk h1; have HN2 := Aside0.mk h2; clear h1 h2)
        go_ret
        have hv : appendV x bs = (8, { y with off := true }) := by rw [hA.out, HD.out, appendV, if_pos HF.out]
        rw [hv]
        refine ⟨rfl, ⟨.inl HG.out, u, HN1.out, ?_⟩, ?_, below_turn hbel.out HN2.out HFg.out⟩
        · exact Kd.R_mono (Kd.R_step hrow.out (fun j hj _ => HN2.out.oth j (fun e => by subst e; rcases hj with hj | hj; exact hj.2 rfl; have := blk_lt H1.out; omega))) (fun j hj => by
            rcases hj with hj | hj
            · exact ⟨.inl hj.1, hj.2⟩
            · exact ⟨.inr hj, fun e => by subst e; have := blk_lt H1.out; omega⟩)
        · exact hkept.out.then_ (HN2.out.kept (F := fun j => j = g) rfl) (fun j hj => .inl (hj ▸ HG.out))
      · have HBn := Aside0.mk (burnt_no hrec.out hf)
        have HF := Aside0.mk hf
        clear hf
        by_cases hz : (y.b.length : Int) = y.size
        · obtain ⟨Au, cu, hu, hcu, _⟩ := Kd.R_reads hrow.out
          subst hu
          have q0 := hrec.out.c0
          have q1 := hrec.out.c1
          have hzb : ((y.b.length : Int) == y.size) = true := beq_iff_eq.2 hz
          have HZ := Aside0.mk hz
          clear hz
          go_wp2_with (go_at_call 57; refine HBn.out.mono ?_; rintro e w1 ⟨rfl, rfl⟩)
          go_quiet (fail)
          go_wp2_with fail
          go_ret
          have hv : appendV x bs = (7, y) := by rw [hA.out, HD.out, appendV, if_neg HF.out, if_pos HZ.out]
          rw [hv]
          refine ⟨rfl, ⟨.inl HG.out, _, hrec.out, ?_⟩, hkept.out, pw_below_drewN hbel.out _⟩
          exact Kd.R_mono hrow.out (fun j hj => by
            rcases hj with hj | hj
            · exact ⟨.inl hj.1, hj.2⟩
            · exact ⟨.inr hj, fun e => by subst e; have := blk_lt H1.out; omega⟩)
        · obtain ⟨Au, cu, hu, hcu, _⟩ := Kd.R_reads hrow.out
          subst hu
          have q0 := hrec.out.c0
          have q1 := hrec.out.c1
          have hzb : ((y.b.length : Int) == y.size) = false := beq_eq_false_iff_ne.2 hz
          have HZ := Aside0.mk hz
          clear hz
          go_wp2_with (go_at_call 57; refine HBn.out.mono ?_; rintro e w1 ⟨rfl, rfl⟩)
          go_quiet (fail)
          clear q0 q1
          have HSp := Aside0.mk (fun nq : Nat => spend_calls (W := wr.drewN nq) (g := g) (x := y) hrec.out hfine.out.fuse0 hfine.out.fuse1)
          go_wp2_with (first | (go_at_call 58; refine (HSp.out _).mono ?_; rintro e w1 ⟨⟨u5, rfl⟩, h1, h2⟩; have q0 := h1.c0; have HN1 := Aside0.mk h1; have HX := Aside0.mk (after_spend hrow.out hkept.out hbel.out h2 HG.out HFg.out (blk_lt H1.out)); clear h1 h2) | (at_builtin; go_loud (refine Kd.R_append (Kd.int .u8) (w0 := W) B rfl (.tmp 41) (.tmp 43) 45 5 (.int .u8 0) 1 rfl Tryz.underlying45 info5 rfl (by decide) (by omega) (.slice Au y.b.length cu) y.b (rd bs k) [.int .u8 (rd bs k)] (fun j => (F j ∧ j ≠ g) ∨ W.heap.size ≤ j) (fun _ => False) rfl rfl rfl (fun _ hk => hk.elim) (fun j hj => .inr (Nat.le_trans HX.out.le hj)) HX.out.row HX.out.bel (Nat.le_trans HBW.out HX.out.le) (by have := hfine.out.len; have := hfine.out.size1; omega) ?_); intro v7 w7 hq7 hb7 hg7 hat7; obtain ⟨A7, c7, rfl⟩ := Kd.R_slice hq7; have hr7 := HN1.out.same (hg7.block g HX.out.lt HX.out.ne); have q7 := hr7.c0; have z7 := hr7.fz 0; have HR7 := Aside0.mk hr7; have HQ7 := Aside0.mk hq7; have HB7 := Aside0.mk hb7; have HG7 := Aside0.mk hg7; clear hr7 hq7 hb7 hg7 hat7))
          have hgW := blk_lt H1.out
          refine ⟨⟨k + 1, { y with fuse := less y.fuse, b := y.b ++ [rd bs k] }, .slice A7 (y.b.length + 1) c7, by omega, rfl, ⟨?_⟩, hoff, ⟨?_⟩, ⟨HR7.out.set0 _ _⟩, ⟨?_⟩, ⟨?_⟩, ⟨?_⟩⟩, by simp [intOf]; omega⟩
          · rw [hA.out, HD.out, appendV, if_neg HF.out, if_neg HZ.out]
          · have hl := hfine.out.len
            have hz := HZ.out
            have hlr := less_range hfine.out.fuse0 hfine.out.fuse1 HF.out
            exact ⟨hfine.out.size0, hfine.out.size1, by simp; omega, hlr.1, hlr.2⟩
          · have := Kd.R_far HQ7.out (p := ⟨g, 0, none⟩) (fun j hj => by
              rcases hj with hj | hj
              · exact hj.2
              · exact fun (e : j = g) => by omega) (Value.slice A7 (y.b.length + 1) c7)
            simpa using this
          · exact (HX.out.kept.of_grown HG7.out (fun j hj => by
              rcases HX.out.row.1 j hj with h | h
              · exact .inl h.1
              · exact .inr h)).setCell (p := ⟨g, 0, none⟩) (.inl HG.out) _
          · exact HB7.out.setCell (p := ⟨g, 0, none⟩) HFg.out _
    · have i2 : ¬ (k : Int) < (n : Int) := by omega
      have hkn : k = n := by omega
      go_wp2_with fail
      go_ret
      have hv : appendV x bs = (0, y) := by rw [hA.out, List.drop_of_length_le (by rw [HL.out]; omega)]; rfl
      rw [hv]
      refine ⟨rfl, ⟨.inl HG.out, u, hrec.out, ?_⟩, hkept.out, hbel.out⟩
      exact Kd.R_mono hrow.out (fun j hj => by
        rcases hj with hj | hj
        · exact ⟨.inl hj.1, hj.2⟩
        · exact ⟨.inr hj, fun e => by subst e; have := blk_lt H1.out; omega⟩)
end
end Go.Proofs.YtoeeipkiadbnpaaGreatDoor.Lib10
end
