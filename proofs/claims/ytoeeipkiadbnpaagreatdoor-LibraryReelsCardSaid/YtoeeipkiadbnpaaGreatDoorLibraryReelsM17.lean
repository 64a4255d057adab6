/- Texts that the proof of LibraryReels needs, put together in build order by this session's program (wip/tools/claimtrim.py). -/
import Derived.Test.YtoeeipkiadbnpaaGreatDoorLibraryReelsM6
import Derived.Test.YtoeeipkiadbnpaaGreatDoorLibraryReelsM8
section
namespace Go.Proofs.YtoeeipkiadbnpaaGreatDoor.P
open Go.RowKit Go.Proofs.YtoeeipkiadbnpaaGreatDoorW.PrintWords Go.Proofs.YtoeeipkiadbnpaaGreatDoorW.PrintLast Go.Proofs.YtoeeipkiadbnpaaGreatDoorW.PrintMore
attribute [local go_sem] max2_int min2_int max_two min_two max_three min_three max_four min_four   -- for this text's walks alone
set_option linter.unusedVariables false
set_option linter.unusedSimpArgs false
/-- A state of type 70 at block g of W; what its slices lead to came in by w0. -/
def IsS70 (w0 W : World) (g : Nat) (f0 : List Int) (f1 : Int) (f2 : Bool) (f3 : Int) : Prop := ∃ A0 c0, W.heap[g]? = some (.cells #[.slice A0 f0.length c0, .int .i64 f1, .bool f2, .int .i64 f3] 70 (0, 0)) ∧ w0.heap.size ≤ g ∧ Kd.C (Kd.int .u8) w0 A0 f0.length f0
theorem IsS70.grown {w0 W : World} {g : Nat} {f0 : List Int} {f1 : Int} {f2 : Bool} {f3 : Int} {W1 : World} {row : Option Nat} (h : IsS70 w0 W g f0 f1 f2 f3) (hw : W.grownBy W1 row) (hne : some g ≠ row) : IsS70 w0 W1 g f0 f1 f2 f3 := by
  obtain ⟨A0, c0, hb, hg, hr0⟩ := h
  exact ⟨A0, c0, blk_grown hb hw hne, hg, hr0⟩
theorem IsS70.fresh {w0 W : World} {g : Nat} {f0 : List Int} {f1 : Int} {f2 : Bool} {f3 : Int} (h : IsS70 w0 W g f0 f1 f2 f3) : ∀ k, W.heap.size ≤ k → k ≠ g := by
  obtain ⟨A0, c0, hb, hg, hr0⟩ := h
  exact Kd.freshB hb
theorem IsS70.kept {w0 W : World} {g : Nat} {f0 : List Int} {f1 : Int} {f2 : Bool} {f3 : Int} {W1 : World} {S : Nat → Prop} (h : IsS70 w0 W g f0 f1 f2 f3) (hk : Kept W W1 S) (hne : ¬ S g) : IsS70 w0 W1 g f0 f1 f2 f3 := by
  obtain ⟨A0, c0, hb, hg, hr0⟩ := h
  exact ⟨A0, c0, blk_kept hb hk hne, hg, hr0⟩
theorem IsS70.below {w0 W : World} {g : Nat} {f0 : List Int} {f1 : Int} {f2 : Bool} {f3 : Int} {W1 : World} (h : IsS70 w0 W g f0 f1 f2 f3) (hw : Below W.heap.size W W1) : IsS70 w0 W1 g f0 f1 f2 f3 := h.grown (grown_of_below hw none) (by simp)
theorem IsS70.alloc {w0 W : World} {g : Nat} {f0 : List Int} {f1 : Int} {f2 : Bool} {f3 : Int} (h : IsS70 w0 W g f0 f1 f2 f3) (o : Obj) : IsS70 w0 (W.alloc o) g f0 f1 f2 f3 := h.below (below_alloc (Below.refl _ _) o)
theorem IsS70.drewN {w0 W : World} {g : Nat} {f0 : List Int} {f1 : Int} {f2 : Bool} {f3 : Int} (h : IsS70 w0 W g f0 f1 f2 f3) (m : Nat) : IsS70 w0 (W.drewN m) g f0 f1 f2 f3 := h
theorem IsS70.drew {w0 W : World} {g : Nat} {f0 : List Int} {f1 : Int} {f2 : Bool} {f3 : Int} (h : IsS70 w0 W g f0 f1 f2 f3) : IsS70 w0 W.drew g f0 f1 f2 f3 := h
theorem IsS70.at_ {w0 W : World} {g : Nat} {f0 : List Int} {f1 : Int} {f2 : Bool} {f3 : Int} {w' : World} {m : Nat} (hq : W.drewN m = w') (h : IsS70 w0 W g f0 f1 f2 f3) : IsS70 w0 w' g f0 f1 f2 f3 := by subst hq; exact IsS70.drewN h m
theorem IsS70.apart {w0 W : World} {g : Nat} {f0 : List Int} {f1 : Int} {f2 : Bool} {f3 : Int} {α : Type} {d : Kd α} {e : Nat} {base : Nat} {ok : Nat → Prop} {v : Value} {xs : List α} (h : IsS70 w0 W g f0 f1 f2 f3) (ho : d.R e W base ok v xs) (ht : ∀ q, q ∈ e :: d.E → q ≠ 70) : d.R e W base (fun k => ok k ∧ k ≠ g) v xs := by
  obtain ⟨A0, c0, hb, hg, hr0⟩ := h
  exact Kd.R_types ho hb ht
theorem IsS70.own_ne {w0 W : World} {g : Nat} {f0 : List Int} {f1 : Int} {f2 : Bool} {f3 : Int} {α : Type} {d : Kd α} {e : Nat} {base : Nat} {ok : Nat → Prop} {v : Value} {xs : List α} (h : IsS70 w0 W g f0 f1 f2 f3) (ho : d.R e W base ok v xs) (ht : e ≠ 70) : some g ≠ v.ownBlock := by
  obtain ⟨A0, c0, hb, hg, hr0⟩ := h
  exact Kd.R_ne ho hb ht
theorem IsS70.lt {w0 W : World} {g : Nat} {f0 : List Int} {f1 : Int} {f2 : Bool} {f3 : Int} (h : IsS70 w0 W g f0 f1 f2 f3) : g < W.heap.size := by
  obtain ⟨A0, c0, hb, hg, hr0⟩ := h
  exact blk_lt hb
def bits_OnesCount8.f (a0 : Int) : Option Int := if 0 ≤ a0 ∧ a0 ≤ 255 then some (Lib.onesCount a0.toNat : Int) else none
theorem bits_OnesCount8.calls (a0 : Int) (r : Int) (w : World) (h : bits_OnesCount8.f a0 = some r) :
    Calls Tryz.prog 123 #[.int .u8 a0] w fun e w' => e = .returned (.int .i64 r) ∧ Drawn0 w w' := by
  unfold bits_OnesCount8.f at h
  by_cases c : 0 ≤ a0 ∧ a0 ≤ 255
  · rw [if_pos c] at h
    obtain rfl := Option.some.inj h
    exact (Tryz.bits_OnesCount8 a0 w c.1 c.2).mono fun e w' h => ⟨h.1, ⟨0, h.2⟩⟩
  · rw [if_neg c] at h
    cases h

def library_odd.f (a0 : Int) (a1 : Int) : Option (Int) := (bits_OnesCount8.f (Go.bits .and .u8 a0 a1)).bind fun t101 => (some ((Go.bits .and .i64 t101 1) % 256))
set_option maxHeartbeats 8000000 in
set_option maxRecDepth 100000 in
theorem library_odd.calls (a0 : Int) (a1 : Int) (r : Int) (w : World) (h : library_odd.f a0 a1 = some r) :
    Calls Tryz.prog 118 #[.int .u8 a0, .int .u8 a1] w fun e w' => e = .returned (.int .u8 r) ∧ Drawn0 w w' := by
  have H : ((bits_OnesCount8.f (Go.bits .and .u8 a0 a1)).bind fun t101 => (some ((Go.bits .and .i64 t101 1) % 256))) = some r := h
  clear h
  replace H := Option.bind_eq_some_iff.mp H
  obtain ⟨t101, A30, H⟩ := H
  replace H : (some ((Go.bits .and .i64 t101 1) % 256)) = some r := H
  have A3 := Aside0.mk A30
  clear A30
  obtain rfl := Option.some.inj H
  go_enter Tryz.func118, Tryz.ntmps118
  go_wp2_with (first | ((with_reducible refine gate_callee (f := 123) rfl ?_); refine goesL_ (some 8) rfl rfl Tryz.func123 (by kernel_rfl) rfl #[.int .u8 (Go.bits .and .u8 a0 a1)] rfl (by (try simp only [List.map_toArray, List.map_cons, List.map_nil]); first | done | rfl | (simp only [List.length_drop, List.length_take]; rfl)) ?_; (with_reducible refine (bits_OnesCount8.calls (Go.bits .and .u8 a0 a1) t101 _ A3.out).mono ?_); rintro e w' ⟨rfl, ⟨nd, rfl⟩⟩; refine ⟨_, rfl, ?_⟩))
  go_ret
  exact ⟨by first | rfl | (simp; done) | (simp [*]; done), by repeat (first | exact Drawn0.refl _ | apply Drawn0.step)⟩

def library_code.f (a0 : Int) : Option (Int) := (library_odd.f (Go.bits .or .u8 (((Go.bits .and .u8 a0 1) * 8) % 256) (((a0 / 2) * 32) % 256)) 168).bind fun t102 => ((library_odd.f (Go.bits .or .u8 (((Go.bits .and .u8 a0 1) * 8) % 256) (((a0 / 2) * 32) % 256)) 200).bind fun t103 => ((library_odd.f (Go.bits .or .u8 (((Go.bits .and .u8 a0 1) * 8) % 256) (((a0 / 2) * 32) % 256)) 224).bind fun t104 => ((library_odd.f (Go.bits .or .u8 (Go.bits .or .u8 (((Go.bits .and .u8 a0 1) * 8) % 256) (((a0 / 2) * 32) % 256)) (Go.bits .or .u8 (Go.bits .or .u8 ((t102 * 2) % 256) ((t103 * 4) % 256)) ((t104 * 16) % 256))) 255).bind fun t105 => (some (Go.bits .or .u8 (Go.bits .or .u8 (Go.bits .or .u8 (((Go.bits .and .u8 a0 1) * 8) % 256) (((a0 / 2) * 32) % 256)) (Go.bits .or .u8 (Go.bits .or .u8 ((t102 * 2) % 256) ((t103 * 4) % 256)) ((t104 * 16) % 256))) t105)))))
set_option maxHeartbeats 8000000 in
set_option maxRecDepth 100000 in
theorem library_code.calls (a0 : Int) (r : Int) (w : World) (h : library_code.f a0 = some r) :
    Calls Tryz.prog 73 #[.int .u8 a0] w fun e w' => e = .returned (.int .u8 r) ∧ Drawn0 w w' := by
  have H : ((library_odd.f (Go.bits .or .u8 (((Go.bits .and .u8 a0 1) * 8) % 256) (((a0 / 2) * 32) % 256)) 168).bind fun t102 => ((library_odd.f (Go.bits .or .u8 (((Go.bits .and .u8 a0 1) * 8) % 256) (((a0 / 2) * 32) % 256)) 200).bind fun t103 => ((library_odd.f (Go.bits .or .u8 (((Go.bits .and .u8 a0 1) * 8) % 256) (((a0 / 2) * 32) % 256)) 224).bind fun t104 => ((library_odd.f (Go.bits .or .u8 (Go.bits .or .u8 (((Go.bits .and .u8 a0 1) * 8) % 256) (((a0 / 2) * 32) % 256)) (Go.bits .or .u8 (Go.bits .or .u8 ((t102 * 2) % 256) ((t103 * 4) % 256)) ((t104 * 16) % 256))) 255).bind fun t105 => (some (Go.bits .or .u8 (Go.bits .or .u8 (Go.bits .or .u8 (((Go.bits .and .u8 a0 1) * 8) % 256) (((a0 / 2) * 32) % 256)) (Go.bits .or .u8 (Go.bits .or .u8 ((t102 * 2) % 256) ((t103 * 4) % 256)) ((t104 * 16) % 256))) t105)))))) = some r := h
  clear h
  replace H := Option.bind_eq_some_iff.mp H
  obtain ⟨t102, A20, H⟩ := H
  replace H : ((library_odd.f (Go.bits .or .u8 (((Go.bits .and .u8 a0 1) * 8) % 256) (((a0 / 2) * 32) % 256)) 200).bind fun t103 => ((library_odd.f (Go.bits .or .u8 (((Go.bits .and .u8 a0 1) * 8) % 256) (((a0 / 2) * 32) % 256)) 224).bind fun t104 => ((library_odd.f (Go.bits .or .u8 (Go.bits .or .u8 (((Go.bits .and .u8 a0 1) * 8) % 256) (((a0 / 2) * 32) % 256)) (Go.bits .or .u8 (Go.bits .or .u8 ((t102 * 2) % 256) ((t103 * 4) % 256)) ((t104 * 16) % 256))) 255).bind fun t105 => (some (Go.bits .or .u8 (Go.bits .or .u8 (Go.bits .or .u8 (((Go.bits .and .u8 a0 1) * 8) % 256) (((a0 / 2) * 32) % 256)) (Go.bits .or .u8 (Go.bits .or .u8 ((t102 * 2) % 256) ((t103 * 4) % 256)) ((t104 * 16) % 256))) t105))))) = some r := H
  have A2 := Aside0.mk A20
  clear A20
  replace H := Option.bind_eq_some_iff.mp H
  obtain ⟨t103, A30, H⟩ := H
  replace H : ((library_odd.f (Go.bits .or .u8 (((Go.bits .and .u8 a0 1) * 8) % 256) (((a0 / 2) * 32) % 256)) 224).bind fun t104 => ((library_odd.f (Go.bits .or .u8 (Go.bits .or .u8 (((Go.bits .and .u8 a0 1) * 8) % 256) (((a0 / 2) * 32) % 256)) (Go.bits .or .u8 (Go.bits .or .u8 ((t102 * 2) % 256) ((t103 * 4) % 256)) ((t104 * 16) % 256))) 255).bind fun t105 => (some (Go.bits .or .u8 (Go.bits .or .u8 (Go.bits .or .u8 (((Go.bits .and .u8 a0 1) * 8) % 256) (((a0 / 2) * 32) % 256)) (Go.bits .or .u8 (Go.bits .or .u8 ((t102 * 2) % 256) ((t103 * 4) % 256)) ((t104 * 16) % 256))) t105)))) = some r := H
  have A3 := Aside0.mk A30
  clear A30
  replace H := Option.bind_eq_some_iff.mp H
  obtain ⟨t104, A40, H⟩ := H
  replace H : ((library_odd.f (Go.bits .or .u8 (Go.bits .or .u8 (((Go.bits .and .u8 a0 1) * 8) % 256) (((a0 / 2) * 32) % 256)) (Go.bits .or .u8 (Go.bits .or .u8 ((t102 * 2) % 256) ((t103 * 4) % 256)) ((t104 * 16) % 256))) 255).bind fun t105 => (some (Go.bits .or .u8 (Go.bits .or .u8 (Go.bits .or .u8 (((Go.bits .and .u8 a0 1) * 8) % 256) (((a0 / 2) * 32) % 256)) (Go.bits .or .u8 (Go.bits .or .u8 ((t102 * 2) % 256) ((t103 * 4) % 256)) ((t104 * 16) % 256))) t105))) = some r := H
  have A4 := Aside0.mk A40
  clear A40
  replace H := Option.bind_eq_some_iff.mp H
  obtain ⟨t105, A50, H⟩ := H
  replace H : (some (Go.bits .or .u8 (Go.bits .or .u8 (Go.bits .or .u8 (((Go.bits .and .u8 a0 1) * 8) % 256) (((a0 / 2) * 32) % 256)) (Go.bits .or .u8 (Go.bits .or .u8 ((t102 * 2) % 256) ((t103 * 4) % 256)) ((t104 * 16) % 256))) t105)) = some r := H
  have A5 := Aside0.mk A50
  clear A50
  obtain rfl := Option.some.inj H
  go_enter Tryz.func73, Tryz.ntmps73
  go_wp2_with (first | ((with_reducible refine gate_callee (f := 118) rfl ?_); refine goesL_ (some 13) rfl rfl Tryz.func118 (by kernel_rfl) rfl #[.int .u8 (Go.bits .or .u8 (((Go.bits .and .u8 a0 1) * 8) % 256) (((a0 / 2) * 32) % 256)), .int .u8 168] rfl (by (try simp only [List.map_toArray, List.map_cons, List.map_nil]); first | done | rfl | (simp only [List.length_drop, List.length_take]; rfl)) ?_; (with_reducible refine (library_odd.calls (Go.bits .or .u8 (((Go.bits .and .u8 a0 1) * 8) % 256) (((a0 / 2) * 32) % 256)) 168 t102 _ A2.out).mono ?_); rintro e w' ⟨rfl, ⟨nd, rfl⟩⟩; refine ⟨_, rfl, ?_⟩) | ((with_reducible refine gate_callee (f := 118) rfl ?_); refine goesL_ (some 16) rfl rfl Tryz.func118 (by kernel_rfl) rfl #[.int .u8 (Go.bits .or .u8 (((Go.bits .and .u8 a0 1) * 8) % 256) (((a0 / 2) * 32) % 256)), .int .u8 200] rfl (by (try simp only [List.map_toArray, List.map_cons, List.map_nil]); first | done | rfl | (simp only [List.length_drop, List.length_take]; rfl)) ?_; (with_reducible refine (library_odd.calls (Go.bits .or .u8 (((Go.bits .and .u8 a0 1) * 8) % 256) (((a0 / 2) * 32) % 256)) 200 t103 _ A3.out).mono ?_); rintro e w' ⟨rfl, ⟨nd, rfl⟩⟩; refine ⟨_, rfl, ?_⟩) | ((with_reducible refine gate_callee (f := 118) rfl ?_); refine goesL_ (some 20) rfl rfl Tryz.func118 (by kernel_rfl) rfl #[.int .u8 (Go.bits .or .u8 (((Go.bits .and .u8 a0 1) * 8) % 256) (((a0 / 2) * 32) % 256)), .int .u8 224] rfl (by (try simp only [List.map_toArray, List.map_cons, List.map_nil]); first | done | rfl | (simp only [List.length_drop, List.length_take]; rfl)) ?_; (with_reducible refine (library_odd.calls (Go.bits .or .u8 (((Go.bits .and .u8 a0 1) * 8) % 256) (((a0 / 2) * 32) % 256)) 224 t104 _ A4.out).mono ?_); rintro e w' ⟨rfl, ⟨nd, rfl⟩⟩; refine ⟨_, rfl, ?_⟩) | ((with_reducible refine gate_callee (f := 118) rfl ?_); refine goesL_ (some 26) rfl rfl Tryz.func118 (by kernel_rfl) rfl #[.int .u8 (Go.bits .or .u8 (Go.bits .or .u8 (((Go.bits .and .u8 a0 1) * 8) % 256) (((a0 / 2) * 32) % 256)) (Go.bits .or .u8 (Go.bits .or .u8 ((t102 * 2) % 256) ((t103 * 4) % 256)) ((t104 * 16) % 256))), .int .u8 255] rfl (by (try simp only [List.map_toArray, List.map_cons, List.map_nil]); first | done | rfl | (simp only [List.length_drop, List.length_take]; rfl)) ?_; (with_reducible refine (library_odd.calls (Go.bits .or .u8 (Go.bits .or .u8 (((Go.bits .and .u8 a0 1) * 8) % 256) (((a0 / 2) * 32) % 256)) (Go.bits .or .u8 (Go.bits .or .u8 ((t102 * 2) % 256) ((t103 * 4) % 256)) ((t104 * 16) % 256))) 255 t105 _ A5.out).mono ?_); rintro e w' ⟨rfl, ⟨nd, rfl⟩⟩; refine ⟨_, rfl, ?_⟩))
  go_ret
  exact ⟨by first | rfl | (simp; done) | (simp [*]; done), by repeat (first | exact Drawn0.refl _ | apply Drawn0.step)⟩

end Go.Proofs.YtoeeipkiadbnpaaGreatDoor.P
end

section
namespace Go.Proofs.YtoeeipkiadbnpaaGreatDoor.P
open Go.RowKit Go.Proofs.YtoeeipkiadbnpaaGreatDoorW.PrintWords Go.Proofs.YtoeeipkiadbnpaaGreatDoorW.PrintLast Go.Proofs.YtoeeipkiadbnpaaGreatDoorW.PrintMore
attribute [local go_sem] max2_int min2_int max_two min_two max_three min_three max_four min_four   -- for this text's walks alone
set_option linter.unusedVariables false
set_option linter.unusedSimpArgs false
def library_decode.l0 : Nat → Int → Int → Option (Int × Bool)
  | 0, _, _ => none
  | k + 1, x0, x5 => if x5 < 16 then ((library_code.f x5).bind fun t152 => ((bits_OnesCount8.f (Go.bits .xor .u8 t152 x0)).bind fun t153 => (if t153 ≤ 1 then (some (x5, true)) else (library_decode.l0 k x0 ((x5 + 1) % 256))))) else (some (0, false))
def library_decode.f (k : Nat) (a0 : Int) : Option (Int × Bool) := library_decode.l0 k a0 0
set_option maxHeartbeats 8000000 in
set_option maxRecDepth 100000 in
theorem library_decode.calls (k : Nat) (a0 : Int) (r1 : Int) (r2 : Bool) (w : World) (h : library_decode.f k a0 = some (r1, r2)) :
    Calls Tryz.prog 76 #[.int .u8 a0] w fun e w' => e = .returned (.tuple #[.int .u8 r1, .bool r2]) ∧ Drawn0 w w' := by
  have H : (library_decode.l0 k a0 0) = some (r1, r2) := h
  clear h
  have H' := Aside0.mk H
  clear H
  go_enter Tryz.func76, Tryz.ntmps76
  go_wp2
  go_loopg [5] k (fun kq v5 w' => ∃ (x5_1 : Int), v5 = .int .u8 x5_1 ∧ Aside0 (library_decode.l0 kq a0 x5_1 = some (r1, r2)) ∧ Aside0 (kq ≤ k) ∧ Drawn0 w w')
  case atStart => exact ⟨(0), (by first | rfl | (simp; done) | (simp [*]; done)), H', ⟨Nat.le_refl _⟩, by repeat (first | exact Drawn0.refl _ | apply Drawn0.step)⟩
  case round =>
    clear H'
    obtain ⟨x5_1, rfl, HA, HK1, ⟨m1, rfl⟩⟩ := hrel
    cases gk with
    | zero => exact absurd HA.out (by simp [library_decode.l0])
    | succ k1 =>
      have H := HA.out
      clear HA
      simp only [library_decode.l0] at H
      by_cases c2 : x5_1 < 16
      · rw [if_pos c2] at H
        have c2b0 : decide (x5_1 < 16) = true := decide_eq_true c2
        clear c2
        replace H := Option.bind_eq_some_iff.mp H
        obtain ⟨t152, A30, H⟩ := H
        replace H : ((bits_OnesCount8.f (Go.bits .xor .u8 t152 a0)).bind fun t153 => (if t153 ≤ 1 then (some (x5_1, true)) else (library_decode.l0 k1 a0 ((x5_1 + 1) % 256)))) = some (r1, r2) := H
        have A3 := Aside0.mk A30
        clear A30
        replace H := Option.bind_eq_some_iff.mp H
        obtain ⟨t153, A40, H⟩ := H
        replace H : (if t153 ≤ 1 then (some (x5_1, true)) else (library_decode.l0 k1 a0 ((x5_1 + 1) % 256))) = some (r1, r2) := H
        have A4 := Aside0.mk A40
        clear A40
        by_cases c5 : t153 ≤ 1
        · rw [if_pos c5] at H
          have c5b0 : decide (t153 ≤ 1) = true := decide_eq_true c5
          clear c5
          simp only [Option.some.injEq, Prod.mk.injEq] at H
          obtain ⟨rfl, rfl⟩ := H
          go_wp2_with (first | ((with_reducible refine gate_callee (f := 73) rfl ?_); refine goesL_ (some 9) rfl rfl Tryz.func73 (by kernel_rfl) rfl #[.int .u8 x5_1] rfl (by (try simp only [List.map_toArray, List.map_cons, List.map_nil]); first | done | rfl | (simp only [List.length_drop, List.length_take]; rfl)) ?_; (with_reducible refine (library_code.calls x5_1 t152 _ A3.out).mono ?_); rintro e w' ⟨rfl, ⟨nd, rfl⟩⟩; refine ⟨_, rfl, ?_⟩) | ((with_reducible refine gate_callee (f := 123) rfl ?_); refine goesL_ (some 12) rfl rfl Tryz.func123 (by kernel_rfl) rfl #[.int .u8 (Go.bits .xor .u8 t152 a0)] rfl (by (try simp only [List.map_toArray, List.map_cons, List.map_nil]); first | done | rfl | (simp only [List.length_drop, List.length_take]; rfl)) ?_; (with_reducible refine (bits_OnesCount8.calls (Go.bits .xor .u8 t152 a0) t153 _ A4.out).mono ?_); rintro e w' ⟨rfl, ⟨nd, rfl⟩⟩; refine ⟨_, rfl, ?_⟩))
          go_ret2
          exact ⟨by first | rfl | (simp; done) | (simp [*]; done), by repeat (first | exact Drawn0.refl _ | apply Drawn0.step)⟩
        · rw [if_neg c5] at H
          have c5b0 : decide (t153 ≤ 1) = false := decide_eq_false c5
          clear c5
          have H' := Aside0.mk H
          clear H
          go_wp2_with (first | ((with_reducible refine gate_callee (f := 73) rfl ?_); refine goesL_ (some 9) rfl rfl Tryz.func73 (by kernel_rfl) rfl #[.int .u8 x5_1] rfl (by (try simp only [List.map_toArray, List.map_cons, List.map_nil]); first | done | rfl | (simp only [List.length_drop, List.length_take]; rfl)) ?_; (with_reducible refine (library_code.calls x5_1 t152 _ A3.out).mono ?_); rintro e w' ⟨rfl, ⟨nd, rfl⟩⟩; refine ⟨_, rfl, ?_⟩) | ((with_reducible refine gate_callee (f := 123) rfl ?_); refine goesL_ (some 12) rfl rfl Tryz.func123 (by kernel_rfl) rfl #[.int .u8 (Go.bits .xor .u8 t152 a0)] rfl (by (try simp only [List.map_toArray, List.map_cons, List.map_nil]); first | done | rfl | (simp only [List.length_drop, List.length_take]; rfl)) ?_; (with_reducible refine (bits_OnesCount8.calls (Go.bits .xor .u8 t152 a0) t153 _ A4.out).mono ?_); rintro e w' ⟨rfl, ⟨nd, rfl⟩⟩; refine ⟨_, rfl, ?_⟩))
          go_roundg k1
          case measure => have := HK1.out; omega
          case rel => exact ⟨((x5_1 + 1) % 256), (by first | rfl | (simp; done) | (simp [*]; done)), H', ⟨by have := HK1.out; omega⟩, by repeat (first | exact Drawn0.refl _ | apply Drawn0.step)⟩
      · rw [if_neg c2] at H
        have c2b0 : decide (x5_1 < 16) = false := decide_eq_false c2
        clear c2
        simp only [Option.some.injEq, Prod.mk.injEq] at H
        obtain ⟨rfl, rfl⟩ := H
        go_wp2
        go_ret2
        exact ⟨by first | rfl | (simp; done) | (simp [*]; done), by repeat (first | exact Drawn0.refl _ | apply Drawn0.step)⟩

/-- A state of type 98 at block g of W; what its slices lead to came in by w0. -/
def IsS98 (w0 W : World) (g : Nat) (f0 : Int) (f1 : List Int) (f2 : Bool) (f3 : Int) : Prop := ∃ A1 c1, W.heap[g]? = some (.cells #[.int .i64 f0, .slice A1 f1.length c1, .bool f2, .int .i64 f3] 98 (0, 0)) ∧ w0.heap.size ≤ g ∧ Kd.C (Kd.int .u8) w0 A1 f1.length f1
theorem IsS98.grown {w0 W : World} {g : Nat} {f0 : Int} {f1 : List Int} {f2 : Bool} {f3 : Int} {W1 : World} {row : Option Nat} (h : IsS98 w0 W g f0 f1 f2 f3) (hw : W.grownBy W1 row) (hne : some g ≠ row) : IsS98 w0 W1 g f0 f1 f2 f3 := by
  obtain ⟨A1, c1, hb, hg, hr1⟩ := h
  exact ⟨A1, c1, blk_grown hb hw hne, hg, hr1⟩
theorem IsS98.fresh {w0 W : World} {g : Nat} {f0 : Int} {f1 : List Int} {f2 : Bool} {f3 : Int} (h : IsS98 w0 W g f0 f1 f2 f3) : ∀ k, W.heap.size ≤ k → k ≠ g := by
  obtain ⟨A1, c1, hb, hg, hr1⟩ := h
  exact Kd.freshB hb
theorem IsS98.kept {w0 W : World} {g : Nat} {f0 : Int} {f1 : List Int} {f2 : Bool} {f3 : Int} {W1 : World} {S : Nat → Prop} (h : IsS98 w0 W g f0 f1 f2 f3) (hk : Kept W W1 S) (hne : ¬ S g) : IsS98 w0 W1 g f0 f1 f2 f3 := by
  obtain ⟨A1, c1, hb, hg, hr1⟩ := h
  exact ⟨A1, c1, blk_kept hb hk hne, hg, hr1⟩
theorem IsS98.below {w0 W : World} {g : Nat} {f0 : Int} {f1 : List Int} {f2 : Bool} {f3 : Int} {W1 : World} (h : IsS98 w0 W g f0 f1 f2 f3) (hw : Below W.heap.size W W1) : IsS98 w0 W1 g f0 f1 f2 f3 := h.grown (grown_of_below hw none) (by simp)
theorem IsS98.alloc {w0 W : World} {g : Nat} {f0 : Int} {f1 : List Int} {f2 : Bool} {f3 : Int} (h : IsS98 w0 W g f0 f1 f2 f3) (o : Obj) : IsS98 w0 (W.alloc o) g f0 f1 f2 f3 := h.below (below_alloc (Below.refl _ _) o)
theorem IsS98.drewN {w0 W : World} {g : Nat} {f0 : Int} {f1 : List Int} {f2 : Bool} {f3 : Int} (h : IsS98 w0 W g f0 f1 f2 f3) (m : Nat) : IsS98 w0 (W.drewN m) g f0 f1 f2 f3 := h
theorem IsS98.drew {w0 W : World} {g : Nat} {f0 : Int} {f1 : List Int} {f2 : Bool} {f3 : Int} (h : IsS98 w0 W g f0 f1 f2 f3) : IsS98 w0 W.drew g f0 f1 f2 f3 := h
theorem IsS98.at_ {w0 W : World} {g : Nat} {f0 : Int} {f1 : List Int} {f2 : Bool} {f3 : Int} {w' : World} {m : Nat} (hq : W.drewN m = w') (h : IsS98 w0 W g f0 f1 f2 f3) : IsS98 w0 w' g f0 f1 f2 f3 := by subst hq; exact IsS98.drewN h m
theorem IsS98.apart {w0 W : World} {g : Nat} {f0 : Int} {f1 : List Int} {f2 : Bool} {f3 : Int} {α : Type} {d : Kd α} {e : Nat} {base : Nat} {ok : Nat → Prop} {v : Value} {xs : List α} (h : IsS98 w0 W g f0 f1 f2 f3) (ho : d.R e W base ok v xs) (ht : ∀ q, q ∈ e :: d.E → q ≠ 98) : d.R e W base (fun k => ok k ∧ k ≠ g) v xs := by
  obtain ⟨A1, c1, hb, hg, hr1⟩ := h
  exact Kd.R_types ho hb ht
theorem IsS98.own_ne {w0 W : World} {g : Nat} {f0 : Int} {f1 : List Int} {f2 : Bool} {f3 : Int} {α : Type} {d : Kd α} {e : Nat} {base : Nat} {ok : Nat → Prop} {v : Value} {xs : List α} (h : IsS98 w0 W g f0 f1 f2 f3) (ho : d.R e W base ok v xs) (ht : e ≠ 98) : some g ≠ v.ownBlock := by
  obtain ⟨A1, c1, hb, hg, hr1⟩ := h
  exact Kd.R_ne ho hb ht
theorem IsS98.lt {w0 W : World} {g : Nat} {f0 : Int} {f1 : List Int} {f2 : Bool} {f3 : Int} (h : IsS98 w0 W g f0 f1 f2 f3) : g < W.heap.size := by
  obtain ⟨A1, c1, hb, hg, hr1⟩ := h
  exact blk_lt hb
end Go.Proofs.YtoeeipkiadbnpaaGreatDoor.P
end
