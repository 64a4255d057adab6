/- Texts that the proof of TriadsAlike needs, put together in build order by this session's program (wip/tools/claimtrim.py). -/
import Derived.Test.YtpaeobpmkdekfaaDoorTriadsAlikeM5
import Derived.Lib.SlBytesConst
import Derived.RangeFuncRecord
section
namespace Go.Proofs.YtpaeobpmkdekfaaDoor.P
open Go.RowKit Go.Proofs.YtpaeobpmkdekfaaDoorW.PrintWords Go.Proofs.YtpaeobpmkdekfaaDoorW.PrintLast Go.Proofs.YtpaeobpmkdekfaaDoorW.PrintMore
attribute [local go_sem] max2_int min2_int max_two min_two max_three min_three max_four min_four   -- for this text's walks alone
set_option linter.unusedVariables false
set_option linter.unusedSimpArgs false
def ZR (w : World) (base : Nat) (v : Value) (xs : List Int) : Prop := ∃ g cells, v = .slice (some ⟨g, 0, none⟩) 3 3 ∧ base ≤ g ∧ w.heap[g]? = some (.cells cells 5 (3, 4)) ∧ Kd.C (Kd.int .u8) w (some ⟨g, 0, none⟩) 3 xs ∧ xs.length = 3
section
variable {w w1 : World} {base : Nat} {v : Value} {xs : List Int}
theorem ZR_lt (h : ZR w base v xs) : ∀ k, v.ownBlock = some k → k < w.heap.size := by
  obtain ⟨g, cells, rfl, hb, hh, hc, hl⟩ := h
  intro k hk
  obtain rfl : g = k := by simpa [Value.ownBlock] using hk
  exact blk_lt hh
theorem ZR_below (h : ZR w base v xs) (hb : Below w.heap.size w w1) : ZR w1 base v xs := by
  obtain ⟨g, cells, rfl, h1, hh, hc, hl⟩ := h
  exact ⟨g, cells, rfl, h1, (hb.block _ (blk_lt hh)).trans hh, Kd.C_below hc hb, hl⟩
theorem ZR_alloc (h : ZR w base v xs) (o : Obj) : ZR (w.alloc o) base v xs := ZR_below h (below_alloc (Below.refl _ _) o)
theorem ZR_drew (h : ZR w base v xs) : ZR w.drew base v xs := ZR_below h (below_drew (Below.refl _ _))
theorem ZR_drewN (h : ZR w base v xs) (m : Nat) : ZR (w.drewN m) base v xs := ZR_below h (pw_below_drewN (Below.refl _ _) m)
theorem ZR_reads {A : Option Addr} {c : Nat} (h : ZR w base (.slice A xs.length c) xs) : Kd.C (Kd.int .u8) w A xs.length xs := by
  obtain ⟨g, cells, he, h1, hh, hc, hl⟩ := h
  injection he with e1 e2 e3
  rw [e1, hl]
  exact hc
theorem ZR_move (h : ZR w base v xs) (hm : ∀ k, v.ownBlock = some k → w1.heap[k]? = w.heap[k]?) : ZR w1 base v xs := by
  obtain ⟨g, cells, rfl, h1, hh, hc, hl⟩ := h
  have e := hm g rfl
  refine ⟨g, cells, rfl, h1, e.trans hh, ?_, hl⟩
  refine Kd.C_of_reads (enc := Value.int .u8) (d := (0 : Int)) (h1 := fun _ => rfl) ⟨hl.symm ▸ rfl, by omega, fun h0 => ⟨_, rfl, fun j hj => ?_⟩⟩
  obtain ⟨ad, ha, hcell⟩ := Kd.at_int hc (j : Int) (by omega) (by omega)
  injection ha with ha
  subst ha
  have hbk : (Addr.add ⟨g, 0, none⟩ j).block = g := by unfold Addr.add; split <;> rfl
  have : w1.cell? (Addr.add ⟨g, 0, none⟩ j) = w.cell? (Addr.add ⟨g, 0, none⟩ j) := by
    unfold World.cell?
    rw [hbk, e]
  rw [this]
  simpa [rd] using hcell
theorem ZR_far (h : ZR w base v xs) {g t : Nat} {cells : Array Value} (hb : w.heap[g]? = some (.cells cells t (0, 0))) (j : Nat) (u : Value) : ZR (w.setCell ⟨g, j, none⟩ u) base v xs := by
  obtain ⟨g0, cells0, hv, h1, hh, hc, hl⟩ := id h
  refine ZR_move h fun k hk => Below.heap_setCell w ⟨g, j, none⟩ u k ?_
  subst hv
  obtain rfl : g0 = k := by simpa [Value.ownBlock] using hk
  intro e
  have e2 : g0 = g := e
  rw [e2, hb] at hh
  simp at hh
theorem ZR_over (h : ZR w base v xs) {u : Value} {e : Nat} (hty : ∀ k, u.ownBlock = some k → ∃ cells, w.heap[k]? = some (.cells cells e (0, 0))) (hg : w.grownBy w1 u.ownBlock) : ZR w1 base v xs := by
  obtain ⟨g0, cells0, hv, h1, hh, hc, hl⟩ := id h
  refine ZR_move h fun k hk => hg.block k (ZR_lt h k hk) ?_
  intro he
  obtain ⟨cells, h2⟩ := hty k he.symm
  subst hv
  obtain rfl : g0 = k := by simpa [Value.ownBlock] using hk
  rw [h2] at hh
  simp at hh
theorem ZR_apart {α : Type} {d : Kd α} {e b0 : Nat} {ok : Nat → Prop} {u : Value} {ys : List α} (h : d.R e w b0 ok u ys) (hz : ZR w base v xs) : d.R e w b0 (fun k => ok k ∧ some k ≠ v.ownBlock) u ys := by
  obtain ⟨g0, cells0, rfl, h1, hh, hc, hl⟩ := hz
  refine Kd.R_mono (Kd.R_bound h) (fun k hk => ⟨hk.1, fun he => ?_⟩)
  obtain ⟨_, _, _, q, hq, cells, h2⟩ := hk
  obtain rfl : g0 = k := by simpa [Value.ownBlock] using he.symm
  rw [h2] at hh
  simp at hh
theorem ZR_lit (w : World) : ZR (w.alloc (.cells #[.int .u8 76, .int .u8 80, .int .u8 82] 5 (3, 4))) w.heap.size (.slice (some ⟨w.heap.size, 0, none⟩) 3 3) [76, 80, 82] := by
  have hb := World.alloc_heap_new w (.cells #[.int .u8 76, .int .u8 80, .int .u8 82] 5 (3, 4))
  refine ⟨_, _, rfl, Nat.le_refl _, hb, ?_, rfl⟩
  refine Kd.C_of_reads (enc := Value.int .u8) (d := (0 : Int)) (h1 := fun _ => rfl) ⟨rfl, by simp, fun _ => ⟨_, rfl, fun j hj => ?_⟩⟩
  have h3 : j = 0 ∨ j = 1 ∨ j = 2 := by
    have : j < 3 := hj
    omega
  rcases h3 with rfl | rfl | rfl <;> exact (cell_of_row _ _ _ _ 5 (3, 4) hb).trans rfl
theorem ZR_lower {b0 : Nat} (h : ZR w base v xs) (hb : b0 ≤ base) : ZR w b0 v xs := by
  obtain ⟨g, cells, rfl, h1, r⟩ := h
  exact ⟨g, cells, rfl, Nat.le_trans hb h1, r⟩
end
theorem info54 : (Tryd.prog.info? 54).map (fun i => (i.zero, i.size, i.bytes)) = some (some (.slice none 0 0), 1, 24) := by kernel_rfl
def rd_L3 (xs : List (List Int)) (i : Int) : (List Int) := xs.getD i.toNat ([] : List Int)
theorem at_L3 {w : World} {A : Option Addr} {n : Nat} {xs : List (List Int)} (h : Kd.C (Kd.slice 3 (Kd.int .i64)) w A n xs) (i : Int) (h0 : 0 ≤ i) (h1 : i < n) : ∃ ad A0 c0, A = some ad ∧ w.cell? (ad.add i.toNat) = some (.slice A0 (rd_L3 xs i).length c0) ∧ (rd_L3 xs i).length ≤ c0 ∧ (Kd.int .i64).C w A0 (rd_L3 xs i).length (rd_L3 xs i) := by
  obtain ⟨ad, c, e, _, hK, hc0⟩ := Kd.C_get h ([] : List Int) i h0 h1
  have hc : ∀ j u, c[j]? = some u → w.cell? (ad.add (i.toNat * 1 + j)) = some u := hc0
  obtain ⟨A0, c0, rfl, l0, g0⟩ := hK
  exact ⟨ad, A0, c0, e, by have hq := hc 0 _ rfl; rwa [Nat.mul_one, Nat.add_zero] at hq, l0, g0⟩
mutual
def sackbutref04_Size.l0 : Nat → List Int → Int → Int → Int → Int → Int → Option (Int)
  | 0, _, _, _, _, _, _ => none
  | k + 1, x3, x21, x22, x426000, x426001, x426002 => if x22 < x21 then (if 0 ≤ x22 then (if x22 < (x3.length : Int) then (sackbutref04_Size.l0 k (x3.set (x22 : Int).toNat x22) x21 (wrap64 (x22 + 1)) x426000 x426001 x426002) else (none)) else (none)) else (sackbutref04_Size.l1 k (([x3] : List (List Int))) 0 x426000 x426001 x426002)
def sackbutref04_Size.l1 : Nat → List (List Int) → Int → Int → Int → Int → Option (Int)
  | 0, _, _, _, _, _ => none
  | k + 1, x5, x6, x426000, x426001, x426002 => if x6 < (x5.length : Int) then ((some (([76, 80, 82] : List Int) : List Int)).bind fun y433 => (sackbutref04_Size.l2 k x5 x6 y433 (y433.length : Int) 0 x426000 x426001 x426002)) else (some (x5.length : Int))
def sackbutref04_Size.l2 : Nat → List (List Int) → Int → List Int → Int → Int → Int → Int → Int → Option (Int)
  | 0, _, _, _, _, _, _, _, _ => none
  | k + 1, x5, x6, x39, x40, x41, x426000, x426001, x426002 => if x41 < x40 then (if 0 ≤ x41 then (if x41 < (x39.length : Int) then (if 0 ≤ (wrap64 (2 * x426000)) then (if (wrap64 (2 * x426000) : Int).toNat ≤ 35184372088832 then ((some (List.replicate (wrap64 (2 * x426000) : Int).toNat 0 : List Int)).bind fun y437 => (sackbutref04_Size.l3 k x5 x6 (rd x39 x41) y437 x39 x40 x41 (y437.length : Int) 0 x426000 x426001 x426002)) else (none)) else (none)) else (none)) else (none)) else (sackbutref04_Size.l1 k x5 (wrap64 (x6 + 1)) x426000 x426001 x426002)
def sackbutref04_Size.l3 : Nat → List (List Int) → Int → Int → List Int → List Int → Int → Int → Int → Int → Int → Int → Int → Option (Int)
  | 0, _, _, _, _, _, _, _, _, _, _, _, _ => none
  | k + 1, x5, x6, x8, x9, x39, x40, x41, x50, x51, x426000, x426001, x426002 => if x51 < x50 then (if 0 ≤ x6 then (if x6 < (x5.length : Int) then (if 0 ≤ x51 then (if x51 < ((rd_L3 x5 x6).length : Int) then ((sackbutref04_Step.f x426000 x426001 x426002 (rd (rd_L3 x5 x6) x51) x8).bind fun t442 => (if x51 < (x9.length : Int) then (sackbutref04_Size.l3 k x5 x6 x8 (x9.set (x51 : Int).toNat t442) x39 x40 x41 x50 (wrap64 (x51 + 1)) x426000 x426001 x426002) else (none))) else (none)) else (none)) else (none)) else (none)) else (sackbutref04_Size.l4 k x5 x6 x9 false x39 x40 x41 x5 (x5.length : Int) 0 x426000 x426001 x426002)
def sackbutref04_Size.l4 : Nat → List (List Int) → Int → List Int → Bool → List Int → Int → Int → List (List Int) → Int → Int → Int → Int → Int → Option (Int)
  | 0, _, _, _, _, _, _, _, _, _, _, _, _, _ => none
  | k + 1, x5, x6, x9, x11, x39, x40, x41, x68, x69, x70, x426000, x426001, x426002 => if x70 < x69 then (if 0 ≤ x70 then (if x70 < (x68.length : Int) then (sackbutref04_Size.l5 k x5 x6 x9 x11 (rd_L3 x68 x70) true x39 x40 x41 x68 x69 x70 ((rd_L3 x68 x70).length : Int) 0 x426000 x426001 x426002) else (none)) else (none)) else (if x11 = true then (sackbutref04_Size.l2 k x5 x6 x39 x40 (wrap64 (x41 + 1)) x426000 x426001 x426002) else (if x5.length < 5864062014805 then (sackbutref04_Size.l2 k (x5 ++ [x9]) x6 x39 x40 (wrap64 (x41 + 1)) x426000 x426001 x426002) else (none)))
def sackbutref04_Size.l5 : Nat → List (List Int) → Int → List Int → Bool → List Int → Bool → List Int → Int → Int → List (List Int) → Int → Int → Int → Int → Int → Int → Int → Option (Int)
  | 0, _, _, _, _, _, _, _, _, _, _, _, _, _, _, _, _, _ => none
  | k + 1, x5, x6, x9, x11, x13, x14, x39, x40, x41, x68, x69, x70, x75, x76, x426000, x426001, x426002 => if x76 < x75 then (if x14 = true then (if 0 ≤ x76 then (if x76 < (x13.length : Int) then (if x76 < (x9.length : Int) then (sackbutref04_Size.l5 k x5 x6 x9 x11 x13 ((rd x13 x76) == (rd x9 x76)) x39 x40 x41 x68 x69 x70 x75 (wrap64 (x76 + 1)) x426000 x426001 x426002) else (none)) else (none)) else (none)) else (sackbutref04_Size.l5 k x5 x6 x9 x11 x13 false x39 x40 x41 x68 x69 x70 x75 (wrap64 (x76 + 1)) x426000 x426001 x426002)) else (if x11 = true then (sackbutref04_Size.l4 k x5 x6 x9 true x39 x40 x41 x68 x69 (wrap64 (x70 + 1)) x426000 x426001 x426002) else (sackbutref04_Size.l4 k x5 x6 x9 x14 x39 x40 x41 x68 x69 (wrap64 (x70 + 1)) x426000 x426001 x426002))
end
def sackbutref04_Size.f (k : Nat) (a0_0 : Int) (a0_1 : Int) (a0_2 : Int) : Option (Int) := if 0 ≤ (wrap64 (2 * a0_0)) then (if (wrap64 (2 * a0_0) : Int).toNat ≤ 35184372088832 then ((some (List.replicate (wrap64 (2 * a0_0) : Int).toNat 0 : List Int)).bind fun y426 => (sackbutref04_Size.l0 k y426 (y426.length : Int) 0 a0_0 a0_1 a0_2)) else (none)) else (none)
def sackbutref04_Size.T18 : Bool × List (List Nat × List Nat) := (true, [([], []), ([], []), ([], []), ([], []), ([], []), ([3, 4], [3, 4]), ([5], [5]), ([], []), ([6, 7], [6, 7]), ([8], [8]), ([], []), ([2, 9, 10], [2, 9, 10]), ([0, 1, 0, 1, 2, 3, 4, 5, 6, 7, 8, 9, 10, 11], [0, 1]), ([12, 11, 11, 0, 1, 2, 3, 4, 5, 6, 7, 8, 9, 10, 11], [11, 12])])
def sackbutref04_Size.B18 : List Nat := [0, 0, 0, 0, 0, 24, 56, 0, 248, 504, 0, 2044, 4095, 8191]
theorem sackbutref04_Size.tab18 : rtab .any (opsOf Tryd.f44 18) = sackbutref04_Size.T18 := by kernel_rfl
theorem sackbutref04_Size.bits18 : waitsOk sackbutref04_Size.T18.2 sackbutref04_Size.B18 = true := by kernel_rfl
def sackbutref04_Size.T28 : Bool × List (List Nat × List Nat) := (true, [([], []), ([0], [0]), ([1], [1]), ([1], [1]), ([2, 3, 1], [1, 2, 3]), ([4, 1], [1, 4]), ([1], [1]), ([1], [1]), ([6, 7, 1], [1, 6, 7]), ([8, 1], [1, 8]), ([5, 9, 1], [1, 5, 9]), ([1, 10], [1, 10]), ([11, 1, 0, 1, 2, 3, 4, 5, 6, 7, 8, 9, 10, 11], [0, 11])])
def sackbutref04_Size.B28 : List Nat := [0, 1, 3, 3, 15, 31, 3, 3, 195, 451, 1023, 2047, 4095]
theorem sackbutref04_Size.tab28 : rtab .any (opsOf Tryd.f44 28) = sackbutref04_Size.T28 := by kernel_rfl
theorem sackbutref04_Size.bits28 : waitsOk sackbutref04_Size.T28.2 sackbutref04_Size.B28 = true := by kernel_rfl
set_option maxHeartbeats 8000000 in
set_option maxRecDepth 100000 in
theorem sackbutref04_Size.calls (k : Nat) (a0_0 : Int) (a0_1 : Int) (a0_2 : Int) (r : Int) (w : World) (h : sackbutref04_Size.f k a0_0 a0_1 a0_2 = some r) :
    Calls Tryd.prog 44 #[.agg #[.int .i64 a0_0, .int .i64 a0_1, .int .i64 a0_2]] w fun e w' => e = .returned (.int .i64 r) ∧ Below w.heap.size w w' := by
  have hu23 := Tryd.underlying23
  have HB := Aside0.mk (Below.refl w.heap.size w)
  have H : (if 0 ≤ (wrap64 (2 * a0_0)) then (if (wrap64 (2 * a0_0) : Int).toNat ≤ 35184372088832 then ((some (List.replicate (wrap64 (2 * a0_0) : Int).toNat 0 : List Int)).bind fun y426 => (sackbutref04_Size.l0 k y426 (y426.length : Int) 0 a0_0 a0_1 a0_2)) else (none)) else (none)) = some r := h
  clear h
  obtain ⟨ji2, hji2⟩ : ∃ j_ : Int, (wrap64 (2 * a0_0)) = j_ := ⟨_, rfl⟩
  replace H : (if 0 ≤ (ji2) then (if (ji2 : Int).toNat ≤ 35184372088832 then ((some (List.replicate (ji2 : Int).toNat 0 : List Int)).bind fun y426 => (sackbutref04_Size.l0 k y426 (y426.length : Int) 0 a0_0 a0_1 a0_2)) else (none)) else (none)) = some r := by first | (rw [hji2] at H; exact H) | (simp only [hji2] at H ⊢; exact H)
  have hji2w : (IntKind.i64.wrap (2 * a0_0)) = ji2 := (i64_w _).trans hji2
  by_cases c3 : 0 ≤ (ji2)
  · rw [if_pos c3] at H
    have c3b0 := eq_true c3
    have c3b1 : decide (0 ≤ (ji2)) = true := decide_eq_true c3
    clear c3
    by_cases c4 : (ji2 : Int).toNat ≤ 35184372088832
    · rw [if_pos c4] at H
      have c4b0 := eq_true c4
      have c4b1 : decide ((ji2 : Int).toNat ≤ 35184372088832) = true := decide_eq_true c4
      clear c4
      obtain ⟨y426, hy426⟩ : ∃ y_ : List Int, y_ = (List.replicate (ji2 : Int).toNat 0) := ⟨_, rfl⟩
      replace H : (sackbutref04_Size.l0 k y426 (y426.length : Int) 0 a0_0 a0_1 a0_2) = some r := by first | (rw [hy426]; with_reducible exact H) | (have H2_ := (Option.bind_some _ _).symm.trans H; rw [hy426]; with_reducible exact H2_) | (have H2_ := (Option.bind_some _ _).symm.trans H; with_reducible exact H2_) | with_reducible exact H | (rw [hy426]; exact H) | exact H
      have Ny426 := Aside0.mk hy426
      clear hy426
      have H' := Aside0.mk H
      clear H
      go_enter Tryd.func44, Tryd.ntmps44
      go_wp2_with (first | ((with_reducible refine gate_dst (N := 1) rfl ?_); refine box_event ?hg (N := 1) ?hd (cs := #[.int .i64 a0_0, .int .i64 a0_1, .int .i64 a0_2]) (t := 23) ?hr ?_; (case hd => rfl); (case hg => rfl); (case hr => first | (go_simp; done) | (go_simp; rfl)); intro gb425 hg w5 hbox hb; have n0_ := Aside0.mk (below_step (by repeat (first | (with_reducible first | exact HB.out | apply below_alloc | apply pw_below_drewN | apply below_drew1) | exact HB.out)) hb); have n1_ := Aside0.mk (hbox); have n2_ := Aside0.mk ((by rw [hg]; exact (below_size (by repeat (first | (with_reducible first | exact HB.out | apply below_alloc | apply pw_below_drewN | apply below_drew1) | exact HB.out))) : w.heap.size ≤ gb425)); have n3_ := Aside0.mk ((by rw [hg]; exact (below_size (by repeat (first | (with_reducible first | exact HB.out | apply below_alloc | apply pw_below_drewN | apply below_drew1) | exact HB.out))) : w.heap.size ≤ gb425)); clear HB; have HB := n0_; have BK425 := n1_; have GW425 := n2_; have GE425 := n3_; clear n0_ n1_ n2_ n3_; clear hb hbox hg; have hcz6_0 : w5.cell? ⟨gb425, 0, none⟩ = some (.int .i64 a0_0) := (blk_cell BK425.out 0).trans rfl; have hcz6_1 : w5.cell? ⟨gb425, 1, none⟩ = some (.int .i64 a0_1) := (blk_cell BK425.out 1).trans rfl; have hcz6_2 : w5.cell? ⟨gb425, 2, none⟩ = some (.int .i64 a0_2) := (blk_cell BK425.out 2).trans rfl; have hfz6_0 := blk_frozen BK425.out 0; have hfz6_1 := blk_frozen BK425.out 1; have hfz6_2 := blk_frozen BK425.out 2) | ((with_reducible refine gate_dst (N := 19) rfl ?_); refine Kd.R_make (Kd.int .i64) _ 3 rfl (N := 19) rfl 54 _ _ rfl ji2 rfl rfl Tryd.underlying54 (.int .i64 0) 8 info3 rfl (by decide) (by omega) 0 (ok := fun _ => True) (okp := fun _ => True) rfl (fun _ hk => hk) trivial (of_decide_eq_true (by first | (with_reducible assumption) | assumption)) (Nat.le_trans (Nat.mul_le_mul_right _ (of_decide_eq_true (by first | (with_reducible assumption) | assumption) : ji2.toNat ≤ 35184372088832)) (by omega)) (Below.refl _ _) (Nat.le_refl _) ?_; intro v427 w7 ho8 hb hg_ hnew_; clear hg_ hnew_; (first | rw [← Ny426.out] at ho8 | (simp only [Int.reduceToNat] at ho8; rw [← Ny426.out] at ho8)); have n0_ := Aside0.mk (Kd.R_lower ho8 (below_size (by repeat (first | (with_reducible first | exact HB.out | apply below_alloc | apply pw_below_drewN | apply below_drew1 | refine below_set ?_ GE425.out) | exact HB.out)))); have n1_ := Aside0.mk (blk_below (g := gb425) (o := .cells #[.int .i64 a0_0, .int .i64 a0_1, .int .i64 a0_2] 23 (0, 0)) (by (with_reducible repeat (first | refine blk_drewN ?_ _ | refine blk_drew ?_ | refine blk_alloc ?_ _)); exact BK425.out) hb); have n2_ := Aside0.mk (below_step (by repeat (first | (with_reducible first | exact HB.out | apply below_alloc | apply pw_below_drewN | apply below_drew1 | refine below_set ?_ GE425.out) | exact HB.out)) hb); clear BK425; clear HB; have HO428 := n0_; have BK425 := n1_; have HB := n2_; clear n0_ n1_ n2_; clear hb ho8; obtain ⟨Ao9, co9, eo9⟩ := Kd.R_slice HO428.out; subst eo9))
      go_loopg [22] k (fun kq v22 w' => ∃ (x3_1 : List Int) (x22_1 : Int), v22 = .int .i64 x22_1 ∧ Aside0 (sackbutref04_Size.l0 kq x3_1 (y426.length : Int) x22_1 a0_0 a0_1 a0_2 = some r) ∧ Aside0 (kq ≤ k) ∧ Aside0 (Kd.R (Kd.int .i64) 3 w' w.heap.size (fun _ => True) (.slice Ao9 y426.length co9) x3_1) ∧ Aside0 (w'.heap[gb425]? = some (.cells #[.int .i64 a0_0, .int .i64 a0_1, .int .i64 a0_2] 23 (0, 0))) ∧ Aside0 (Below w.heap.size w w'))
      case atStart => exact ⟨(y426), (0), (by first | rfl | (simp; done) | (simp [*]; done)), H', ⟨Nat.le_refl _⟩, ⟨by (with_reducible repeat (first | apply Kd.R_alloc | apply Kd.R_drewN | apply Kd.R_drew)); exact HO428.out⟩, ⟨by (with_reducible repeat (first | refine blk_drewN ?_ _ | refine blk_drew ?_ | refine blk_alloc ?_ _)); exact BK425.out⟩, ⟨by repeat (first | (with_reducible first | exact HB.out | apply below_alloc | apply pw_below_drewN | apply below_drew1 | refine below_set ?_ GE425.out) | exact HB.out)⟩⟩
      case round =>
        clear H'
        try clear p2
        try clear c3
        try clear c3b0
        try clear c3b1
        try clear c4
        try clear c4b0
        try clear c4b1
        try clear p6
        try clear hcz6_0
        try clear hcz6_1
        try clear hcz6_2
        try clear hfz6_0
        try clear hfz6_1
        try clear hfz6_2
        obtain ⟨x3_1, x22_1, rfl, HA, HK1, HO_3, BK425, HB⟩ := hrel
        have hl3_1 := (Kd.R_reads' HO_3.out).1
        rw [hl3_1] at HO_3
        (try simp only [hl3_1])
        (try simp only [hl3_1] at BK425)
        cases gk with
        | zero => exact absurd HA.out (by simp [sackbutref04_Size.l0])
        | succ k1 =>
          have H := HA.out
          clear HA
          simp only [sackbutref04_Size.l0] at H
          by_cases c10 : x22_1 < (y426.length : Int)
          · rw [if_pos c10] at H
            have c10b0 : decide (x22_1 < (y426.length : Int)) = true := decide_eq_true c10
            (try simp only [hl3_1] at c10b0)
            clear c10
            by_cases c11 : 0 ≤ x22_1
            · rw [if_pos c11] at H
              have c11b0 : decide (0 ≤ x22_1) = true := decide_eq_true c11
              clear c11
              by_cases c12 : x22_1 < (x3_1.length : Int)
              · rw [if_pos c12] at H
                have c12b0 : decide (x22_1 < (x3_1.length : Int)) = true := decide_eq_true c12
                (try simp only [hl3_1] at c12b0)
                clear c12
                obtain ⟨y429, hy429⟩ : ∃ y_ : List Int, y_ = (x3_1.set (x22_1 : Int).toNat x22_1) := ⟨_, rfl⟩
                replace H : (sackbutref04_Size.l0 k1 y429 (y426.length : Int) (wrap64 (x22_1 + 1)) a0_0 a0_1 a0_2) = some r := by first | (rw [hy429]; with_reducible exact H) | (have H2_ := (Option.bind_some _ _).symm.trans H; rw [hy429]; with_reducible exact H2_) | (have H2_ := (Option.bind_some _ _).symm.trans H; with_reducible exact H2_) | with_reducible exact H | (rw [hy429]; exact H) | exact H
                have Ny429 := Aside0.mk hy429
                clear hy429
                have H' := Aside0.mk H
                clear H
                have p13 : 0 ≤ (x22_1 : Int) := of_decide_eq_true (by first | (with_reducible assumption) | assumption)
                have q13 : (x22_1 : Int) < ((x3_1.length : Int) : Int) := of_decide_eq_true (by first | (with_reducible assumption) | assumption)
                obtain ⟨go13, co13, eo13, gb13, gl13, cl13, HG13⟩ := Kd.R_form HO_3.out (by omega)
                (first | cases eo13 | (injection eo13 with ea_ en_ ec_; (first | subst ea_ | (injection ea_ with ea_; subst ea_)); subst ec_; clear en_))
                have GB13 := Aside0.mk gb13
                have GG13 := Aside0.mk HG13
                clear gb13 gl13 HG13
                obtain ⟨hx13_0, hf13_0⟩ := Kd.R_celln 0 HO_3.out (x22_1 : Int) p13 q13
                replace p13 := eq_true p13
                replace q13 := eq_true q13
                have HP14 := Kd.R_putg HO_3.out (x22_1 : Int) x22_1
                go_wp2_with (first | ((with_reducible refine gate_store (t := 3) (p := 28) rfl ?_); refine store_event (t := 3) (p := 28) (v := ?vo_w15) (w1 := (wr.setCell ⟨go13, (x22_1 : Int).toNat, none⟩ (.int .i64 x22_1))) ?hg ?ho ?hn ?hr ?_; (case ho => rfl); (case hg => rfl); (case hn => rfl); (case hr => first | (go_simp; done) | (go_simp; rfl)); intro w15 hw; have hg : wr.grownBy w15 (some go13) := (by rw [hw]; exact HP14.2); have hp_ : Kd.R (Kd.int .i64) 3 w15 w.heap.size (fun _ => True) (.slice (some ⟨go13, 0, none⟩) x3_1.length co9) y429 := (by rw [hw, Ny429.out]; exact HP14.1); clear HP14; have n0_ := Aside0.mk (hp_); have n1_ := Aside0.mk (blk_grown (g := gb425) (o := .cells #[.int .i64 a0_0, .int .i64 a0_1, .int .i64 a0_2] 23 (0, 0)) (by (with_reducible repeat (first | refine blk_drewN ?_ _ | refine blk_drew ?_ | refine blk_alloc ?_ _)); exact BK425.out) hg (Kd.R_ne HO_3.out BK425.out (by decide))); have n2_ := Aside0.mk ((by rw [hw]; exact below_set (HB.out) GB13.out : Below w.heap.size w w15)); clear HO_3; clear BK425; clear HB; have HO_3 := n0_; have BK425 := n1_; have HB := n2_; clear n0_ n1_ n2_; clear hg hw hp_))
                (try simp only [← hl3_1])
                go_roundg k1
                case measure => have := HK1.out; omega
                case rel => exact ⟨(y429), (wrap64 (x22_1 + 1)), (by first | rfl | (simp; done) | (simp [*]; done)), H', ⟨by have := HK1.out; omega⟩, ⟨by (try simp only [hl3_1]); (with_reducible repeat (first | apply Kd.R_alloc | apply Kd.R_drewN | apply Kd.R_drew)); exact HO_3.out⟩, ⟨by (try simp only [hl3_1]); (with_reducible repeat (first | refine blk_drewN ?_ _ | refine blk_drew ?_ | refine blk_alloc ?_ _)); exact BK425.out⟩, ⟨by repeat (first | (with_reducible first | exact HB.out | apply below_alloc | apply pw_below_drewN | apply below_drew1 | refine below_set ?_ GE425.out) | exact HB.out)⟩⟩
              · rw [if_neg c12] at H
                exact absurd H (by simp)
            · rw [if_neg c11] at H
              exact absurd H (by simp)
          · rw [if_neg c10] at H
            have c10b0 : decide (x22_1 < (y426.length : Int)) = false := decide_eq_false c10
            (try simp only [hl3_1] at c10b0)
            clear c10
            obtain ⟨y430, hy430⟩ : ∃ y_ : List (List Int), y_ = (([x3_1] : List (List Int))) := ⟨_, rfl⟩
            replace H : (sackbutref04_Size.l1 k1 y430 0 a0_0 a0_1 a0_2) = some r := by first | (rw [hy430]; with_reducible exact H) | (have H2_ := (Option.bind_some _ _).symm.trans H; rw [hy430]; with_reducible exact H2_) | (have H2_ := (Option.bind_some _ _).symm.trans H; with_reducible exact H2_) | with_reducible exact H | (rw [hy430]; exact H) | exact H
            have Ny430 := Aside0.mk hy430
            clear hy430
            have H' := Aside0.mk H
            clear H
            go_wp2_with (first | ((with_reducible refine gate_dst (N := 31) rfl ?_); refine Kd.N_lit (Kd.slice 3 (Kd.int .i64)) _ 54 ?hg (N' := 31) ?hd (xs := ([x3_1] : List (List Int))) (inner := [.slice Ao9 x3_1.length co9]) (ok := (fun k_ => k_ ≠ gb425)) (okp := (fun k_ => k_ ≠ gb425)) ?hr ?hp (fun _ hk => hk) ((show ∀ k_, wr.heap.size ≤ k_ → (fun k_ => k_ ≠ gb425) k_ from fun k_ hk => Kd.freshB (g := gb425) (o := .cells #[.int .i64 a0_0, .int .i64 a0_1, .int .i64 a0_2] 23 (0, 0)) (by (with_reducible repeat (first | refine blk_drewN ?_ _ | refine blk_drew ?_ | refine blk_alloc ?_ _)); exact BK425.out) k_ hk) _ (Nat.le_refl _)) (Below.refl _ _) (Nat.le_refl _) (by simp) ?_; (case hd => rfl); (case hg => rfl); (case hr => first | (go_simp; done) | (go_simp; rfl)); (case hp => exact (Reps.one (show Kd.FK (Kd.slice 3 (Kd.int .i64)) _ _ x3_1 [.slice Ao9 x3_1.length co9] from (Kd.FK_slice_mk (Kd.R_reads' (Kd.R_mono (ok' := (fun k_ => k_ ≠ gb425)) (Kd.R_types (HO_3.out) BK425.out (by decide)) (fun k_ hk => hk.2))).2.1 (Kd.R_F (Kd.R_mono (ok' := (fun k_ => k_ ≠ gb425)) (Kd.R_types (HO_3.out) BK425.out (by decide)) (fun k_ hk => hk.2))))) (Reps.none _ _))); intro v431 w16 ho17 hb hg_ hnew_; clear hg_ hnew_; (first | rw [← Ny430.out] at ho17 | (simp only [Int.reduceToNat] at ho17; rw [← Ny430.out] at ho17)); have n0_ := Aside0.mk (Kd.N_lower ho17 (below_size (by repeat (first | (with_reducible first | exact HB.out | apply below_alloc | apply pw_below_drewN | apply below_drew1 | refine below_set ?_ GE425.out) | exact HB.out)))); have n1_ := Aside0.mk (blk_below (g := gb425) (o := .cells #[.int .i64 a0_0, .int .i64 a0_1, .int .i64 a0_2] 23 (0, 0)) (by (with_reducible repeat (first | refine blk_drewN ?_ _ | refine blk_drew ?_ | refine blk_alloc ?_ _)); exact BK425.out) hb); have n2_ := Aside0.mk (below_step (by repeat (first | (with_reducible first | exact HB.out | apply below_alloc | apply pw_below_drewN | apply below_drew1 | refine below_set ?_ GE425.out) | exact HB.out)) hb); clear BK425; clear HB; clear HO_3; have HO432 := n0_; have BK425 := n1_; have HB := n2_; clear n0_ n1_ n2_; clear hb ho17))
            go_loopg [5, 6] k1 (fun kq v5 v6 w' => ∃ (x5_2 : List (List Int)) (x6_2 : Int), v6 = .int .i64 x6_2 ∧ Aside0 (sackbutref04_Size.l1 kq x5_2 x6_2 a0_0 a0_1 a0_2 = some r) ∧ Aside0 (kq ≤ k1) ∧ Aside0 (Kd.N (Kd.slice 3 (Kd.int .i64)) 54 w' w.heap.size (fun k_ => k_ ≠ gb425) v5 x5_2) ∧ Aside0 (w'.heap[gb425]? = some (.cells #[.int .i64 a0_0, .int .i64 a0_1, .int .i64 a0_2] 23 (0, 0))) ∧ Aside0 (Below w.heap.size w w'))
            case atStart => exact ⟨(y430), (0), (by first | rfl | (simp; done) | (simp [*]; done)), H', ⟨Nat.le_refl _⟩, ⟨by (try simp only [hl3_1]); (with_reducible repeat (first | apply Kd.N_alloc | apply Kd.N_drewN | apply Kd.N_drew)); exact HO432.out⟩, ⟨by (try simp only [hl3_1]); (with_reducible repeat (first | refine blk_drewN ?_ _ | refine blk_drew ?_ | refine blk_alloc ?_ _)); exact BK425.out⟩, ⟨by repeat (first | (with_reducible first | exact HB.out | apply below_alloc | apply pw_below_drewN | apply below_drew1 | refine below_set ?_ GE425.out) | exact HB.out)⟩⟩
            case round =>
              clear H'
              try clear c1
              try clear p1
              try clear q1
              try clear hx1
              try clear hf1
              try clear p2
              try clear c3
              try clear c3b0
              try clear c3b1
              try clear c4
              try clear c4b0
              try clear c4b1
              try clear p6
              try clear c10
              try clear c10b0
              try clear c11
              try clear c11b0
              try clear c12
              try clear c12b0
              try clear p13
              try clear q13
              try clear hx13
              try clear hf13
              try clear hcz6_0
              try clear hcz6_1
              try clear hcz6_2
              try clear hfz6_0
              try clear hfz6_1
              try clear hfz6_2
              try clear hx13_0
              try clear p13
              try clear p2
              try clear p6
              try clear q13
              obtain ⟨x5_2, x6_2, rfl, HA, HK2, HO_5, BK425, HB⟩ := hrel
              cases gk with
              | zero => exact absurd HA.out (by simp [sackbutref04_Size.l1])
              | succ k2 =>
                have H := HA.out
                clear HA
                simp only [sackbutref04_Size.l1] at H
                by_cases c18 : x6_2 < (x5_2.length : Int)
                · rw [if_pos c18] at H
                  have c18b0 : decide (x6_2 < (x5_2.length : Int)) = true := decide_eq_true c18
                  (try simp only [hl3_1] at c18b0)
                  clear c18
                  obtain ⟨y433, hy433⟩ : ∃ y_ : List Int, y_ = (([76, 80, 82] : List Int)) := ⟨_, rfl⟩
                  replace H : (sackbutref04_Size.l2 k2 x5_2 x6_2 y433 (y433.length : Int) 0 a0_0 a0_1 a0_2) = some r := by first | (rw [hy433]; with_reducible exact H) | (have H2_ := (Option.bind_some _ _).symm.trans H; rw [hy433]; with_reducible exact H2_) | (have H2_ := (Option.bind_some _ _).symm.trans H; with_reducible exact H2_) | with_reducible exact H | (rw [hy433]; exact H) | exact H
                  have Ny433 := Aside0.mk hy433
                  clear hy433
                  have H' := Aside0.mk H
                  clear H
                  obtain ⟨Ao19, co19, eo19⟩ := Kd.N_slice HO_5.out
                  subst eo19
                  obtain ⟨wq, rfl⟩ : ∃ wq : World, wq = wr := ⟨_, rfl⟩
                  have kc := fun (w : World) (C : Array Value) (n c : Nat) => Lib.run_convert_bytes_const (P := Tryd.prog) w 95 5 C n c Tryd.underlying95 Tryd.underlying5
                  have hb := (Below.refl wq.heap.size wq).alloc (Nat.le_refl _) (.cells #[.int .u8 76, .int .u8 80, .int .u8 82] 5 (3, 4))
                  have hz := ZR_lit wq
                  rw [← Ny433.out] at hz
                  have n0_ := Aside0.mk (Kd.N_elder' (u := (.slice (some ⟨wq.heap.size, 0, none⟩) 3 3)) HO_5.out (fun k hk => by obtain rfl : wq.heap.size = k := (by simpa [Value.ownBlock] using hk); exact Nat.le_refl _) hb)
                  have n1_ := Aside0.mk (ZR_lower hz (below_size HB.out))
                  have n2_ := Aside0.mk (blk_below BK425.out hb)
                  have n3_ := Aside0.mk (below_step HB.out hb)
                  have HLen := Aside0.mk (show y433.length = 3 by rw [Ny433.out]; rfl)
                  clear HO_5 BK425 HB hz hb
                  have HO_5 := n0_
                  have HO_39 := n1_
                  have BK425 := n2_
                  have HB := n3_
                  clear n0_ n1_ n2_ n3_
                  go_wp2_with fail
                  clear kc
                  rw [show (Value.int .i64 3) = Value.int .i64 ((y433.length : Nat) : Int) by rw [HLen.out]; rfl, show Value.slice (some ⟨wq.heap.size, 0, none⟩) 3 3 = Value.slice (some ⟨wq.heap.size, 0, none⟩) y433.length 3 by rw [HLen.out]]
                  rw [show Value.slice (some ⟨wq.heap.size, 0, none⟩) 3 3 = Value.slice (some ⟨wq.heap.size, 0, none⟩) y433.length 3 by rw [HLen.out]] at HO_5 HO_39
                  generalize (some (⟨wq.heap.size, 0, none⟩ : Addr)) = Ao22 at HO_5 HO_39 ⊢
                  generalize wq.alloc (.cells #[.int .u8 76, .int .u8 80, .int .u8 82] 5 (3, 4)) = w20 at HO_5 HO_39 BK425 HB ⊢
                  go_loopg [5, 41] k2 (fun kq v5 v41 w' => ∃ (x5_3 : List (List Int)) (x41_3 : Int), v41 = .int .i64 x41_3 ∧ Aside0 (sackbutref04_Size.l2 kq x5_3 x6_2 y433 (y433.length : Int) x41_3 a0_0 a0_1 a0_2 = some r) ∧ Aside0 (kq ≤ k2) ∧ Aside0 (Kd.N (Kd.slice 3 (Kd.int .i64)) 54 w' w.heap.size (fun k_ => some k_ ≠ ((.slice Ao22 y433.length 3) : Value).ownBlock ∧ k_ ≠ gb425) v5 x5_3) ∧ Aside0 (ZR w' w.heap.size (.slice Ao22 y433.length 3) y433) ∧ Aside0 (w'.heap[gb425]? = some (.cells #[.int .i64 a0_0, .int .i64 a0_1, .int .i64 a0_2] 23 (0, 0))) ∧ Aside0 (Below w.heap.size w w'))
                  case atStart => exact ⟨(x5_2), (0), (by first | rfl | (simp; done) | (simp [*]; done)), H', ⟨Nat.le_refl _⟩, ⟨by (try simp only [hl3_1]); (with_reducible repeat (first | apply Kd.N_alloc | apply Kd.N_drewN | apply Kd.N_drew)); exact Kd.N_mono HO_5.out (fun _ hk => ⟨hk.2, hk.1⟩)⟩, ⟨by (try simp only [hl3_1]); (with_reducible repeat (first | apply ZR_alloc | apply ZR_drewN | apply ZR_drew)); exact HO_39.out⟩, ⟨by (try simp only [hl3_1]); (with_reducible repeat (first | refine blk_drewN ?_ _ | refine blk_drew ?_ | refine blk_alloc ?_ _)); exact BK425.out⟩, ⟨by repeat (first | (with_reducible first | exact HB.out | apply below_alloc | apply pw_below_drewN | apply below_drew1 | refine below_set ?_ GE425.out) | exact HB.out)⟩⟩
                  case round =>
                    clear H'
                    try clear c1
                    try clear p1
                    try clear q1
                    try clear hx1
                    try clear hf1
                    try clear p2
                    try clear c3
                    try clear c3b0
                    try clear c3b1
                    try clear c4
                    try clear c4b0
                    try clear c4b1
                    try clear p6
                    try clear c10
                    try clear c10b0
                    try clear c11
                    try clear c11b0
                    try clear c12
                    try clear c12b0
                    try clear p13
                    try clear q13
                    try clear hx13
                    try clear hf13
                    try clear c18
                    try clear c18b0
                    try clear hcz6_0
                    try clear hcz6_1
                    try clear hcz6_2
                    try clear hfz6_0
                    try clear hfz6_1
                    try clear hfz6_2
                    try clear hx13_0
                    try clear p1
                    try clear p13
                    try clear p2
                    try clear p6
                    try clear q1
                    try clear q13
                    obtain ⟨x5_3, x41_3, rfl, HA, HK3, HO_5, HO_39, BK425, HB⟩ := hrel
                    cases gk with
                    | zero => exact absurd HA.out (by simp [sackbutref04_Size.l2])
                    | succ k3 =>
                      have H := HA.out
                      clear HA
                      simp only [sackbutref04_Size.l2] at H
                      by_cases c23 : x41_3 < (y433.length : Int)
                      · rw [if_pos c23] at H
                        have c23b0 : decide (x41_3 < (y433.length : Int)) = true := decide_eq_true c23
                        (try simp only [hl3_1] at c23b0)
                        clear c23
                        by_cases c24 : 0 ≤ x41_3
                        · rw [if_pos c24] at H
                          have c24b0 : decide (0 ≤ x41_3) = true := decide_eq_true c24
                          clear c24
                          by_cases c25 : x41_3 < (y433.length : Int)
                          · rw [if_pos c25] at H
                            have c25b0 : decide (x41_3 < (y433.length : Int)) = true := decide_eq_true c25
                            (try simp only [hl3_1] at c25b0)
                            clear c25
                            obtain ⟨ji26, hji26⟩ : ∃ j_ : Int, (wrap64 (2 * a0_0)) = j_ := ⟨_, rfl⟩
                            replace H : (if 0 ≤ (ji26) then (if (ji26 : Int).toNat ≤ 35184372088832 then ((some (List.replicate (ji26 : Int).toNat 0 : List Int)).bind fun y437 => (sackbutref04_Size.l3 k3 x5_3 x6_2 (rd y433 x41_3) y437 y433 (y433.length : Int) x41_3 (y437.length : Int) 0 a0_0 a0_1 a0_2)) else (none)) else (none)) = some r := by first | (rw [hji26] at H; exact H) | (simp only [hji26] at H ⊢; exact H)
                            have hji26w : (IntKind.i64.wrap (2 * a0_0)) = ji26 := (i64_w _).trans hji26
                            clear hji2w hji2
                            by_cases c27 : 0 ≤ (ji26)
                            · rw [if_pos c27] at H
                              have c27b0 := eq_true c27
                              have c27b1 : decide (0 ≤ (ji26)) = true := decide_eq_true c27
                              clear c27
                              by_cases c28 : (ji26 : Int).toNat ≤ 35184372088832
                              · rw [if_pos c28] at H
                                have c28b0 := eq_true c28
                                have c28b1 : decide ((ji26 : Int).toNat ≤ 35184372088832) = true := decide_eq_true c28
                                clear c28
                                obtain ⟨y437, hy437⟩ : ∃ y_ : List Int, y_ = (List.replicate (ji26 : Int).toNat 0) := ⟨_, rfl⟩
                                replace H : (sackbutref04_Size.l3 k3 x5_3 x6_2 (rd y433 x41_3) y437 y433 (y433.length : Int) x41_3 (y437.length : Int) 0 a0_0 a0_1 a0_2) = some r := by first | (rw [hy437]; with_reducible exact H) | (have H2_ := (Option.bind_some _ _).symm.trans H; rw [hy437]; with_reducible exact H2_) | (have H2_ := (Option.bind_some _ _).symm.trans H; with_reducible exact H2_) | with_reducible exact H | (rw [hy437]; exact H) | exact H
                                have Ny437 := Aside0.mk hy437
                                clear hy437
                                have H' := Aside0.mk H
                                clear H
                                have p436 : 0 ≤ (x41_3 : Int) := of_decide_eq_true (by first | (with_reducible assumption) | assumption)
                                have q436 : x41_3 < (y433.length : Int) := of_decide_eq_true (by first | (with_reducible assumption) | assumption)
                                obtain ⟨ad436, e436, hx436_0⟩ := Kd.at_int (ZR_reads HO_39.out) x41_3 p436 q436
                                cases e436
                                replace p436 := eq_true p436
                                replace q436 := eq_true q436
                                have hcz29_0 : wr.cell? ⟨gb425, 0, none⟩ = some (.int .i64 a0_0) := (blk_cell BK425.out 0).trans rfl
                                have hcz29_1 : wr.cell? ⟨gb425, 1, none⟩ = some (.int .i64 a0_1) := (blk_cell BK425.out 1).trans rfl
                                have hcz29_2 : wr.cell? ⟨gb425, 2, none⟩ = some (.int .i64 a0_2) := (blk_cell BK425.out 2).trans rfl
                                have hfz29_0 := blk_frozen BK425.out 0
                                have hfz29_1 := blk_frozen BK425.out 1
                                have hfz29_2 := blk_frozen BK425.out 2
                                go_wp2_with (first | ((with_reducible refine gate_dst (N := 48) rfl ?_); refine Kd.R_make (Kd.int .i64) _ 3 rfl (N := 48) rfl 54 _ _ rfl ji26 rfl rfl Tryd.underlying54 (.int .i64 0) 8 info3 rfl (by decide) (by omega) 0 (ok := fun _ => True) (okp := fun _ => True) rfl (fun _ hk => hk) trivial (of_decide_eq_true (by first | (with_reducible assumption) | assumption)) (Nat.le_trans (Nat.mul_le_mul_right _ (of_decide_eq_true (by first | (with_reducible assumption) | assumption) : ji26.toNat ≤ 35184372088832)) (by omega)) (Below.refl _ _) (Nat.le_refl _) ?_; intro v438 w30 ho31 hb hg_ hnew_; clear hg_ hnew_; (first | rw [← Ny437.out] at ho31 | (simp only [Int.reduceToNat] at ho31; rw [← Ny437.out] at ho31)); have n0_ := Aside0.mk (Kd.N_elder' (by (with_reducible repeat (first | apply Kd.N_alloc | apply Kd.N_drewN | apply Kd.N_drew)); exact HO_5.out) (Kd.R_base ho31) hb); have n1_ := Aside0.mk (ZR_below (by (with_reducible repeat (first | apply ZR_alloc | apply ZR_drewN | apply ZR_drew)); exact HO_39.out) hb); have n2_ := Aside0.mk (Kd.R_lower ho31 (below_size (by repeat (first | (with_reducible first | exact HB.out | apply below_alloc | apply pw_below_drewN | apply below_drew1 | refine below_set ?_ GE425.out) | exact HB.out)))); have n3_ := Aside0.mk (blk_below (g := gb425) (o := .cells #[.int .i64 a0_0, .int .i64 a0_1, .int .i64 a0_2] 23 (0, 0)) (by (with_reducible repeat (first | refine blk_drewN ?_ _ | refine blk_drew ?_ | refine blk_alloc ?_ _)); exact BK425.out) hb); have n4_ := Aside0.mk (below_step (by repeat (first | (with_reducible first | exact HB.out | apply below_alloc | apply pw_below_drewN | apply below_drew1 | refine below_set ?_ GE425.out) | exact HB.out)) hb); clear HO_5; clear HO_39; clear BK425; clear HB; have HO_5 := n0_; have HO_39 := n1_; have HO439 := n2_; have BK425 := n3_; have HB := n4_; clear n0_ n1_ n2_ n3_ n4_; clear hb ho31; obtain ⟨Ao32, co32, eo32⟩ := Kd.R_slice HO439.out; subst eo32))
                                go_loopg [51] k3 (fun kq v51 w' => ∃ (x9_4 : List Int) (x51_4 : Int), v51 = .int .i64 x51_4 ∧ Aside0 (sackbutref04_Size.l3 kq x5_3 x6_2 (rd y433 x41_3) x9_4 y433 (y433.length : Int) x41_3 (y437.length : Int) x51_4 a0_0 a0_1 a0_2 = some r) ∧ Aside0 (kq ≤ k3) ∧ Aside0 (Kd.N (Kd.slice 3 (Kd.int .i64)) 54 w' w.heap.size (fun k_ => some k_ ≠ ((.slice Ao32 y437.length co32) : Value).ownBlock ∧ some k_ ≠ ((.slice (some ad436) y433.length 3) : Value).ownBlock ∧ k_ ≠ gb425) u5 x5_3) ∧ Aside0 (Kd.R (Kd.int .i64) 3 w' w.heap.size (fun _ => True) (.slice Ao32 y437.length co32) x9_4) ∧ Aside0 (ZR w' w.heap.size (.slice (some ad436) y433.length 3) y433) ∧ Aside0 (w'.heap[gb425]? = some (.cells #[.int .i64 a0_0, .int .i64 a0_1, .int .i64 a0_2] 23 (0, 0))) ∧ Aside0 (Below w.heap.size w w'))
                                case atStart => exact ⟨(y437), (0), (by first | rfl | (simp; done) | (simp [*]; done)), H', ⟨Nat.le_refl _⟩, ⟨by (try simp only [hl3_1]); (with_reducible repeat (first | apply Kd.N_alloc | apply Kd.N_drewN | apply Kd.N_drew)); exact Kd.N_mono HO_5.out (fun _ hk => ⟨hk.2, ⟨hk.1.1, hk.1.2⟩⟩)⟩, ⟨by (try simp only [hl3_1]); (with_reducible repeat (first | apply Kd.R_alloc | apply Kd.R_drewN | apply Kd.R_drew)); exact HO439.out⟩, ⟨by (try simp only [hl3_1]); (with_reducible repeat (first | apply ZR_alloc | apply ZR_drewN | apply ZR_drew)); exact HO_39.out⟩, ⟨by (try simp only [hl3_1]); (with_reducible repeat (first | refine blk_drewN ?_ _ | refine blk_drew ?_ | refine blk_alloc ?_ _)); exact BK425.out⟩, ⟨by repeat (first | (with_reducible first | exact HB.out | apply below_alloc | apply pw_below_drewN | apply below_drew1 | refine below_set ?_ GE425.out) | exact HB.out)⟩⟩
                                case round =>
                                  clear H'
                                  try clear c1
                                  try clear p1
                                  try clear q1
                                  try clear hx1
                                  try clear hf1
                                  try clear c2
                                  try clear p2
                                  try clear c3
                                  try clear c3b0
                                  try clear c3b1
                                  try clear c4
                                  try clear c4b0
                                  try clear c4b1
                                  try clear p4
                                  try clear q4
                                  try clear hx4
                                  try clear p6
                                  try clear c10
                                  try clear c10b0
                                  try clear c11
                                  try clear c11b0
                                  try clear c12
                                  try clear c12b0
                                  try clear p13
                                  try clear q13
                                  try clear hx13
                                  try clear hf13
                                  try clear c18
                                  try clear c18b0
                                  try clear c23
                                  try clear c23b0
                                  try clear c24
                                  try clear c24b0
                                  try clear c25
                                  try clear c25b0
                                  try clear c27
                                  try clear c27b0
                                  try clear c27b1
                                  try clear c28
                                  try clear c28b0
                                  try clear c28b1
                                  try clear hcz29_0
                                  try clear hcz29_1
                                  try clear hcz29_2
                                  try clear hcz6_0
                                  try clear hcz6_1
                                  try clear hcz6_2
                                  try clear hfz29_0
                                  try clear hfz29_1
                                  try clear hfz29_2
                                  try clear hfz6_0
                                  try clear hfz6_1
                                  try clear hfz6_2
                                  try clear hx13_0
                                  try clear hx436_0
                                  try clear p1
                                  try clear p13
                                  try clear p2
                                  try clear p436
                                  try clear p6
                                  try clear q1
                                  try clear q13
                                  try clear q436
                                  obtain ⟨x9_4, x51_4, rfl, HA, HK4, HO_5, HO_9, HO_39, BK425, HB⟩ := hrel
                                  have hl9_4 := (Kd.R_reads' HO_9.out).1
                                  rw [hl9_4] at HO_9
                                  (try simp only [hl9_4])
                                  (try simp only [hl9_4] at BK425)
                                  (try simp only [hl9_4] at HO_5)
                                  (try simp only [hl9_4] at HO_39)
                                  cases gk with
                                  | zero => exact absurd HA.out (by simp [sackbutref04_Size.l3])
                                  | succ k4 =>
                                    have H := HA.out
                                    clear HA
                                    simp only [sackbutref04_Size.l3] at H
                                    by_cases c33 : x51_4 < (y437.length : Int)
                                    · rw [if_pos c33] at H
                                      have c33b0 : decide (x51_4 < (y437.length : Int)) = true := decide_eq_true c33
                                      (try simp only [hl3_1, hl9_4] at c33b0)
                                      clear c33
                                      by_cases c34 : 0 ≤ x6_2
                                      · rw [if_pos c34] at H
                                        have c34b0 : decide (0 ≤ x6_2) = true := decide_eq_true c34
                                        clear c34
                                        by_cases c35 : x6_2 < (x5_3.length : Int)
                                        · rw [if_pos c35] at H
                                          have c35b0 : decide (x6_2 < (x5_3.length : Int)) = true := decide_eq_true c35
                                          (try simp only [hl3_1, hl9_4] at c35b0)
                                          clear c35
                                          by_cases c36 : 0 ≤ x51_4
                                          · rw [if_pos c36] at H
                                            have c36b0 : decide (0 ≤ x51_4) = true := decide_eq_true c36
                                            clear c36
                                            by_cases c37 : x51_4 < ((rd_L3 x5_3 x6_2).length : Int)
                                            · rw [if_pos c37] at H
                                              have c37b0 : decide (x51_4 < ((rd_L3 x5_3 x6_2).length : Int)) = true := decide_eq_true c37
                                              (try simp only [hl3_1, hl9_4] at c37b0)
                                              clear c37
                                              replace H := Option.bind_eq_some_iff.mp H
                                              obtain ⟨t442, A380, H⟩ := H
                                              replace H : (if x51_4 < (x9_4.length : Int) then (sackbutref04_Size.l3 k4 x5_3 x6_2 (rd y433 x41_3) (x9_4.set (x51_4 : Int).toNat t442) y433 (y433.length : Int) x41_3 (y437.length : Int) (wrap64 (x51_4 + 1)) a0_0 a0_1 a0_2) else (none)) = some r := H
                                              have A38 := Aside0.mk A380
                                              clear A380
                                              by_cases c39 : x51_4 < (x9_4.length : Int)
                                              · rw [if_pos c39] at H
                                                have c39b0 : decide (x51_4 < (x9_4.length : Int)) = true := decide_eq_true c39
                                                (try simp only [hl3_1, hl9_4] at c39b0)
                                                clear c39
                                                obtain ⟨y443, hy443⟩ : ∃ y_ : List Int, y_ = (x9_4.set (x51_4 : Int).toNat t442) := ⟨_, rfl⟩
                                                replace H : (sackbutref04_Size.l3 k4 x5_3 x6_2 (rd y433 x41_3) y443 y433 (y433.length : Int) x41_3 (y437.length : Int) (wrap64 (x51_4 + 1)) a0_0 a0_1 a0_2) = some r := by first | (rw [hy443]; with_reducible exact H) | (have H2_ := (Option.bind_some _ _).symm.trans H; rw [hy443]; with_reducible exact H2_) | (have H2_ := (Option.bind_some _ _).symm.trans H; with_reducible exact H2_) | with_reducible exact H | (rw [hy443]; exact H) | exact H
                                                have Ny443 := Aside0.mk hy443
                                                clear hy443
                                                have H' := Aside0.mk H
                                                clear H
                                                try go_wp2
                                                have n0_ := Aside0.mk (Kd.N_drew HO_5.out)
                                                have n1_ := Aside0.mk (Kd.R_drew HO_9.out)
                                                have n2_ := Aside0.mk (ZR_drew HO_39.out)
                                                have n3_ := Aside0.mk (blk_drew BK425.out)
                                                have n4_ := Aside0.mk (below_drew1 HB.out)
                                                clear HO_5
                                                clear HO_9
                                                clear HO_39
                                                clear BK425
                                                clear HB
                                                have HO_5 := n0_
                                                have HO_9 := n1_
                                                have HO_39 := n2_
                                                have BK425 := n3_
                                                have HB := n4_
                                                clear n0_ n1_ n2_ n3_ n4_
                                                obtain ⟨Ao42, co42, eo42⟩ := Kd.N_slice HO_5.out
                                                (first | subst eo42 | (injection eo42 with f1_ f2_ f3_; have f4_ := f1_.symm; have f5_ := f3_.symm; clear f1_ f2_ f3_; subst f4_; subst f5_))
                                                have p440 : 0 ≤ (x6_2 : Int) := of_decide_eq_true (by first | (with_reducible assumption) | assumption)
                                                have q440 : x6_2 < (x5_3.length : Int) := of_decide_eq_true (by first | (with_reducible assumption) | assumption)
                                                obtain ⟨ad440, A440_0, c440_0, e440, hx440_0, hl440_0, hi440_0⟩ := at_L3 (Kd.N_reads' HO_5.out).2.2 x6_2 p440 q440
                                                cases e440
                                                obtain ⟨ce440, hce440, hMe440, hcc440⟩ := Kd.N_get HO_5.out [] x6_2 p440 (by first | exact q440 | exact of_decide_eq_true (by first | (with_reducible assumption) | assumption) | (have e_ := (Kd.N_reads' HO_5.out).1; omega))
                                                obtain ⟨ua440_0, uc440_0, rfl, ul440_0, ge440_0⟩ := Kd.FK_slice_open hMe440
                                                have hv440_0 := hcc440 0 _ rfl
                                                rw [Nat.add_zero, show ((Kd.slice 3 (Kd.int .i64))).sz = 1 from rfl, Nat.mul_one] at hv440_0
                                                replace hv440_0 := Option.some.inj (hv440_0.symm.trans hx440_0)
                                                injection hv440_0 with hva_ hvn_ hvc_
                                                rw [hva_] at ge440_0
                                                rw [hvc_] at ul440_0
                                                have HL440_0 := Aside0.mk (show Kd.V (Kd.int .i64) 3 _ w.heap.size _ _ (rd_L3 x5_3 x6_2) from Kd.V_mk ul440_0 ge440_0)
                                                clear hva_ hvn_ hvc_ ge440_0 ul440_0
                                                clear hcc440 hce440
                                                have HR440_0 := Aside0.mk hi440_0
                                                have HC440_0 := Aside0.mk hl440_0
                                                clear hi440_0 hl440_0
                                                replace p440 := eq_true p440
                                                replace q440 := eq_true q440
                                                have p441 : 0 ≤ (x51_4 : Int) := of_decide_eq_true (by first | (with_reducible assumption) | assumption)
                                                have q441 : x51_4 < ((rd_L3 x5_3 x6_2).length : Int) := of_decide_eq_true (by first | (with_reducible assumption) | assumption)
                                                obtain ⟨ad441, e441, hx441_0⟩ := Kd.at_int (by repeat (first | (with_reducible exact HR440_0.out) | (with_reducible refine Kd.C_alloc ?_ _) | (with_reducible refine Kd.C_drewN ?_ _) | (with_reducible refine Kd.C_drew ?_) | exact HR440_0.out)) x51_4 p441 q441
                                                cases e441
                                                replace p441 := eq_true p441
                                                replace q441 := eq_true q441
                                                refine start_ (n := 14) (S := fun w' => w'.cell? ⟨gb425, 0, none⟩ = some (.int .i64 a0_0) ∧ w'.cell? ⟨gb425, 1, none⟩ = some (.int .i64 a0_1) ∧ w'.cell? ⟨gb425, 2, none⟩ = some (.int .i64 a0_2) ∧ w'.cell? (ad440.add (x6_2).toNat) = some (.slice (some ad441) (rd_L3 x5_3 x6_2).length c440_0) ∧ w'.cell? (ad441.add (x51_4).toNat) = some (.int .i64 (rd (rd_L3 x5_3 x6_2) x51_4))) (ds := [13]) #[false, false, false, false, false, false, false, false, false, false, false, false, false, false] (by kernel_rfl) rfl rfl ⟨(blk_cell BK425.out 0).trans rfl, (blk_cell BK425.out 1).trans rfl, (blk_cell BK425.out 2).trans rfl, hx440_0, hx441_0⟩ (fun hHeld => ?_); refine with_tabW sackbutref04_Size.tab18 sackbutref04_Size.bits18 (fun HT_ HW_ => ?_)
                                                generalize wr.drew = w41 at HO_5 HO_9 HO_39 BK425 HB HL440_0 HR440_0 hx440_0 hx441_0 hHeld ⊢
                                                refine pure_ (i := 0) (N := some 54) (v := ?_) (a' := ?_) #[true, false, false, false, false, false, false, false, false, false, false, false, false, false] rfl rfl (any_of HT_.out (by kernel_rfl)) (fun _ _ _ h => h) (Or.inl ⟨by rfl, ?_⟩) ?_ ?_
                                                rotate_left
                                                · intro w'
                                                  go_simp
                                                  with_reducible rfl
                                                rotate_left
                                                · simp only [Act.put, List.setIfInBounds_toArray, List.set_cons_zero, List.set_cons_succ, i64_w, i32_w]
                                                  rfl
                                                refine pure_ (i := 1) (N := some 55) (v := ?_) (a' := ?_) #[true, true, false, false, false, false, false, false, false, false, false, false, false, false] rfl rfl (any_of HT_.out (by kernel_rfl)) (fun _ _ _ h => h) (Or.inl ⟨by rfl, ?_⟩) ?_ ?_
                                                rotate_left
                                                · intro w'
                                                  go_simp
                                                  with_reducible rfl
                                                rotate_left
                                                · simp only [Act.put, List.setIfInBounds_toArray, List.set_cons_zero, List.set_cons_succ, i64_w, i32_w]
                                                  rfl
                                                refine pure_ (i := 3) (N := some 57) (v := ?_) (a' := ?_) #[true, true, false, true, false, false, false, false, false, false, false, false, false, false] rfl rfl (any_of HT_.out (by kernel_rfl)) (fun _ _ _ h => h) (Or.inl ⟨by rfl, ?_⟩) ?_ ?_
                                                rotate_left
                                                · intro w'
                                                  go_simp
                                                  with_reducible rfl
                                                rotate_left
                                                · simp only [Act.put, List.setIfInBounds_toArray, List.set_cons_zero, List.set_cons_succ, i64_w, i32_w]
                                                  rfl
                                                refine pure_ (i := 4) (N := some 58) (v := ?_) (a' := ?_) #[true, true, false, true, true, false, false, false, false, false, false, false, false, false] rfl rfl (any_of HT_.out (by kernel_rfl)) (fun _ _ _ h => h) (Or.inl ⟨by rfl, ?_⟩) ?_ ?_
                                                rotate_left
                                                · intro w'
                                                  go_simp
                                                  with_reducible rfl
                                                rotate_left
                                                · simp only [Act.put, List.setIfInBounds_toArray, List.set_cons_zero, List.set_cons_succ, i64_w, i32_w]
                                                  rfl
                                                refine pure_ (i := 5) (N := some 59) (v := ?_) (a' := ?_) #[true, true, false, true, true, true, false, false, false, false, false, false, false, false] rfl rfl (any_of HT_.out (by kernel_rfl)) (fun _ _ _ h => h) (Or.inl ⟨by rfl, ?_⟩) ?_ ?_
                                                rotate_left
                                                · intro w'
                                                  go_simp
                                                  with_reducible rfl
                                                rotate_left
                                                · simp only [Act.put, List.setIfInBounds_toArray, List.set_cons_zero, List.set_cons_succ, i64_w, i32_w]
                                                  rfl
                                                refine pure_ (i := 7) (N := some 61) (v := ?_) (a' := ?_) #[true, true, false, true, true, true, false, true, false, false, false, false, false, false] rfl rfl (any_of HT_.out (by kernel_rfl)) (fun _ _ _ h => h) (Or.inl ⟨by rfl, ?_⟩) ?_ ?_
                                                rotate_left
                                                · intro w'
                                                  go_simp
                                                  with_reducible rfl
                                                rotate_left
                                                · simp only [Act.put, List.setIfInBounds_toArray, List.set_cons_zero, List.set_cons_succ, i64_w, i32_w]
                                                  rfl
                                                refine pure_ (i := 10) (N := some 64) (v := ?_) (a' := ?_) #[true, true, false, true, true, true, false, true, false, false, true, false, false, false] rfl rfl (any_of HT_.out (by kernel_rfl)) (fun _ _ _ h => h) (Or.inl ⟨by rfl, ?_⟩) ?_ ?_
                                                rotate_left
                                                · intro w'
                                                  go_simp
                                                  with_reducible rfl
                                                rotate_left
                                                · simp only [Act.put, List.setIfInBounds_toArray, List.set_cons_zero, List.set_cons_succ, i64_w, i32_w]
                                                  rfl
                                                refine take_ (i := 2) (N := some 56) (v := ?_) (a' := ?_) #[true, true, true, true, true, true, false, true, false, false, true, false, false, false] rfl rfl (take_ofW HT_.out HW_.out (by kernel_rfl)) (fun _ _ _ h => h) (Or.inl ⟨by rfl, ?_⟩) hHeld ?_ ?_
                                                rotate_left
                                                · rintro w' ⟨s0, s1, s2, s3, s4⟩
                                                  go_simp
                                                  with_reducible rfl
                                                rotate_left
                                                · simp only [Act.put, List.setIfInBounds_toArray, List.set_cons_zero, List.set_cons_succ, i64_w, i32_w]
                                                  rfl
                                                refine take_ (i := 6) (N := some 60) (v := ?_) (a' := ?_) #[true, true, true, true, true, true, true, true, false, false, true, false, false, false] rfl rfl (take_ofW HT_.out HW_.out (by kernel_rfl)) (fun _ _ _ h => h) (Or.inl ⟨by rfl, ?_⟩) hHeld ?_ ?_
                                                rotate_left
                                                · rintro w' ⟨s0, s1, s2, s3, s4⟩
                                                  go_simp
                                                  with_reducible rfl
                                                rotate_left
                                                · simp only [Act.put, List.setIfInBounds_toArray, List.set_cons_zero, List.set_cons_succ, i64_w, i32_w]
                                                  rfl
                                                refine pure_ (i := 8) (N := some 62) (v := ?_) (a' := ?_) #[true, true, true, true, true, true, true, true, true, false, true, false, false, false] rfl rfl (any_of HT_.out (by kernel_rfl)) (fun _ _ _ h => h) (Or.inl ⟨by rfl, ?_⟩) ?_ ?_
                                                rotate_left
                                                · intro w'
                                                  go_simp
                                                  with_reducible rfl
                                                rotate_left
                                                · simp only [Act.put, List.setIfInBounds_toArray, List.set_cons_zero, List.set_cons_succ, i64_w, i32_w]
                                                  rfl
                                                refine take_ (i := 9) (N := some 63) (v := ?_) (a' := ?_) #[true, true, true, true, true, true, true, true, true, true, true, false, false, false] rfl rfl (take_ofW HT_.out HW_.out (by kernel_rfl)) (fun _ _ _ h => h) (Or.inl ⟨by rfl, ?_⟩) hHeld ?_ ?_
                                                rotate_left
                                                · rintro w' ⟨s0, s1, s2, s3, s4⟩
                                                  go_simp
                                                  with_reducible rfl
                                                rotate_left
                                                · simp only [Act.put, List.setIfInBounds_toArray, List.set_cons_zero, List.set_cons_succ, i64_w, i32_w]
                                                  rfl
                                                refine one_ (i := 11) (N := some 65) #[true, true, true, true, true, true, true, true, true, true, true, true, false, false] rfl rfl (one_of HT_.out (by kernel_rfl)) (by decide) (fun K hK => ?_)
                                                refine goes_ Tryd.func56 (by kernel_rfl) rfl #[.agg #[.int .i64 a0_0, .int .i64 a0_1, .int .i64 a0_2], .int .i64 (rd (rd_L3 x5_3 x6_2) x51_4), .int .u8 (rd y433 x41_3)] (by rfl) rfl rfl (by (try simp only [List.map_toArray, List.map_cons, List.map_nil]); first | done | rfl | (simp only [List.length_drop, List.length_take]; rfl)) ?_
                                                with_reducible refine (sackbutref04_Step.calls a0_0 a0_1 a0_2 (rd (rd_L3 x5_3 x6_2) x51_4) (rd y433 x41_3) t442 _ A38.out).mono ?_
                                                rintro e w43 ⟨rfl, hb⟩
                                                have HS3_ := (hb.cell (World.block_lt_of_cell? _ _ (hHeld.2.2.2.1))).trans (hHeld.2.2.2.1)
                                                have HS4_ := (hb.cell (World.block_lt_of_cell? _ _ (hHeld.2.2.2.2))).trans (hHeld.2.2.2.2)
                                                refine ⟨_, rfl, ?_⟩
                                                have n0_ := Aside0.mk (Kd.N_below (by (with_reducible repeat (first | apply Kd.N_alloc | apply Kd.N_drewN | apply Kd.N_drew)); exact HO_5.out) hb)
                                                have n1_ := Aside0.mk (Kd.R_below (by (with_reducible repeat (first | apply Kd.R_alloc | apply Kd.R_drewN | apply Kd.R_drew)); exact HO_9.out) hb)
                                                have n2_ := Aside0.mk (ZR_below (by (with_reducible repeat (first | apply ZR_alloc | apply ZR_drewN | apply ZR_drew)); exact HO_39.out) hb)
                                                have n3_ := Aside0.mk (Kd.V_below (by (with_reducible repeat (first | apply Kd.V_alloc | apply Kd.V_drewN | apply Kd.V_drew)); exact HL440_0.out) hb)
                                                have n4_ := Aside0.mk (blk_below (g := gb425) (o := .cells #[.int .i64 a0_0, .int .i64 a0_1, .int .i64 a0_2] 23 (0, 0)) (by (with_reducible repeat (first | refine blk_drewN ?_ _ | refine blk_drew ?_ | refine blk_alloc ?_ _)); exact BK425.out) hb)
                                                have n5_ := Aside0.mk (Kd.C_below (by repeat (first | (with_reducible exact HR440_0.out) | (with_reducible refine Kd.C_alloc ?_ _) | (with_reducible refine Kd.C_drewN ?_ _) | (with_reducible refine Kd.C_drew ?_) | exact HR440_0.out)) hb)
                                                have n6_ := Aside0.mk (below_step (by repeat (first | (with_reducible first | exact HB.out | apply below_alloc | apply pw_below_drewN | apply below_drew1 | refine below_set ?_ GE425.out) | exact HB.out)) hb)
                                                clear HO_5
                                                clear HO_9
                                                clear HO_39
                                                clear HL440_0
                                                clear BK425
                                                clear HR440_0
                                                clear HB
                                                have HO_5 := n0_
                                                have HO_9 := n1_
                                                have HO_39 := n2_
                                                have HL440_0 := n3_
                                                have BK425 := n4_
                                                have HR440_0 := n5_
                                                have HB := n6_
                                                clear n0_ n1_ n2_ n3_ n4_ n5_ n6_
                                                (try clear hb)
                                                (try clear hb2)
                                                (try clear hk)
                                                (try clear hi)
                                                have p40 : 0 ≤ (x51_4 : Int) := of_decide_eq_true (by first | (with_reducible assumption) | assumption)
                                                have q40 : (x51_4 : Int) < ((x9_4.length : Int) : Int) := of_decide_eq_true (by first | (with_reducible assumption) | assumption)
                                                obtain ⟨go40, co40, eo40, gb40, gl40, cl40, HG40⟩ := Kd.R_form HO_9.out (by omega)
                                                (first | cases eo40 | (injection eo40 with ea_ en_ ec_; (first | subst ea_ | (injection ea_ with ea_; subst ea_)); subst ec_; clear en_))
                                                have GB40 := Aside0.mk gb40
                                                have GG40 := Aside0.mk HG40
                                                clear gb40 gl40 HG40
                                                obtain ⟨hx40_0, hf40_0⟩ := Kd.R_celln 0 HO_9.out (x51_4 : Int) p40 q40
                                                replace p40 := eq_true p40
                                                replace q40 := eq_true q40
                                                have HP44 := Kd.R_putn HO_9.out (x51_4 : Int) t442
                                                rw [← Ny443.out] at HP44
                                                have HQ44 := Aside0.mk HP44
                                                clear HP44
                                                refine hK.out _ _ ⟨(blk_cell BK425.out 0).trans rfl, (blk_cell BK425.out 1).trans rfl, (blk_cell BK425.out 2).trans rfl, HS3_, HS4_⟩ (fun hHeld => ?_)
                                                clear hK K
                                                refine norm_ (a' := ?_) ?_ ?_
                                                rotate_left
                                                · show Act.put _ (some 65) _ = _
                                                  simp only [Act.put, List.setIfInBounds_toArray, List.set_cons_zero, List.set_cons_succ, i64_w, i32_w]
                                                  rfl
                                                refine pure_ (i := 12) (N := some 66) (v := ?_) (a' := ?_) #[true, true, true, true, true, true, true, true, true, true, true, true, true, false] rfl rfl (any_of HT_.out (by kernel_rfl)) (fun _ _ _ h => h) (Or.inl ⟨by rfl, ?_⟩) ?_ ?_
                                                rotate_left
                                                · intro w'
                                                  go_simp
                                                  with_reducible rfl
                                                rotate_left
                                                · simp only [Act.put, List.setIfInBounds_toArray, List.set_cons_zero, List.set_cons_succ, i64_w, i32_w]
                                                  rfl
                                                refine last_ (i := 13) (N := none) #[true, true, true, true, true, true, true, true, true, true, true, true, true, true] rfl rfl (one_of HT_.out (by kernel_rfl)) (by decide) (fun K hK => ?_)
                                                refine skip_ (w1 := ?_) (by rfl) rfl ?_ ?_
                                                rotate_left
                                                · go_simp
                                                  rfl
                                                refine hK.out _ _ ?_
                                                clear hK K
                                                refine done_ (done_of HT_.out (by kernel_rfl)) ?_
                                                try go_wp2
                                                (try simp only [← hl9_4])
                                                go_roundg k4
                                                case measure => have := HK1.out; have := HK2.out; have := HK3.out; have := HK4.out; omega
                                                case rel => exact ⟨(y443), (wrap64 (x51_4 + 1)), (by first | rfl | (simp; done) | (simp [*]; done)), H', ⟨by have := HK1.out; have := HK2.out; have := HK3.out; have := HK4.out; omega⟩, ⟨by (try simp only [hl3_1]); (try simp only [hl9_4]); (with_reducible repeat (first | apply Kd.N_alloc | apply Kd.N_drewN | apply Kd.N_drew)); exact Kd.N_mono (Kd.N_far (p := ⟨go40, (x51_4 : Int).toNat, none⟩) (Kd.N_mono HO_5.out (fun k_ hk => (⟨hk, fun e_ => hk.1 (by rw [e_]; rfl)⟩ : _ ∧ k_ ≠ go40))) (fun _ hk => hk.2) (.int .i64 t442)) (fun _ hk => ⟨hk.1.1, ⟨hk.1.2.1, hk.1.2.2⟩⟩)⟩, ⟨by (try simp only [hl3_1]); (try simp only [hl9_4]); (with_reducible repeat (first | apply Kd.R_alloc | apply Kd.R_drewN | apply Kd.R_drew)); exact HQ44.out⟩, ⟨by (try simp only [hl3_1]); (try simp only [hl9_4]); (with_reducible repeat (first | apply Kd.R_alloc | apply Kd.R_drewN | apply Kd.R_drew)); exact ZR_far HO_39.out GG40.out _ _⟩, ⟨by (try simp only [hl3_1]); (try simp only [hl9_4]); (with_reducible repeat (first | refine blk_drewN ?_ _ | refine blk_drew ?_ | refine blk_alloc ?_ _)); refine blk_far ?_ (by have h_ := Kd.R_ne HO_9.out BK425.out (by decide); intro e_; exact h_ (by rw [e_]; rfl)) _; (with_reducible repeat (first | refine blk_drewN ?_ _ | refine blk_drew ?_ | refine blk_alloc ?_ _)); exact BK425.out⟩, ⟨by repeat (first | (with_reducible first | exact HB.out | apply below_alloc | apply pw_below_drewN | apply below_drew1 | refine below_set ?_ GB40.out | refine below_set ?_ GE425.out) | exact HB.out)⟩⟩
                                              · rw [if_neg c39] at H
                                                exact absurd H (by simp)
                                            · rw [if_neg c37] at H
                                              exact absurd H (by simp)
                                          · rw [if_neg c36] at H
                                            exact absurd H (by simp)
                                        · rw [if_neg c35] at H
                                          exact absurd H (by simp)
                                      · rw [if_neg c34] at H
                                        exact absurd H (by simp)
                                    · rw [if_neg c33] at H
                                      have c33b0 : decide (x51_4 < (y437.length : Int)) = false := decide_eq_false c33
                                      (try simp only [hl3_1, hl9_4] at c33b0)
                                      clear c33
                                      have H' := Aside0.mk H
                                      clear H
                                      obtain ⟨Ao45, co45, eo45⟩ := Kd.N_slice HO_5.out
                                      subst eo45
                                      go_wp2
                                      go_loopg [11, 70] k4 (fun kq v11 v70 w' => ∃ (x11_5 : Bool) (x70_5 : Int), v11 = .bool x11_5 ∧ v70 = .int .i64 x70_5 ∧ Aside0 (sackbutref04_Size.l4 kq x5_3 x6_2 x9_4 x11_5 y433 (y433.length : Int) x41_3 x5_3 (x5_3.length : Int) x70_5 a0_0 a0_1 a0_2 = some r) ∧ Aside0 (kq ≤ k4) ∧ Aside0 (Kd.N (Kd.slice 3 (Kd.int .i64)) 54 w' w.heap.size (fun k_ => some k_ ≠ ((.slice Ao32 x9_4.length co32) : Value).ownBlock ∧ some k_ ≠ ((.slice (some ad436) y433.length 3) : Value).ownBlock ∧ k_ ≠ gb425) (.slice Ao45 x5_3.length co45) x5_3) ∧ Aside0 (Kd.R (Kd.int .i64) 3 w' w.heap.size (fun _ => True) (.slice Ao32 x9_4.length co32) x9_4) ∧ Aside0 (ZR w' w.heap.size (.slice (some ad436) y433.length 3) y433) ∧ Aside0 (Kd.N (Kd.slice 3 (Kd.int .i64)) 54 w' w.heap.size (fun k_ => some k_ ≠ ((.slice Ao32 x9_4.length co32) : Value).ownBlock ∧ some k_ ≠ ((.slice (some ad436) y433.length 3) : Value).ownBlock ∧ k_ ≠ gb425) (.slice Ao45 x5_3.length co45) x5_3) ∧ Aside0 (w'.heap[gb425]? = some (.cells #[.int .i64 a0_0, .int .i64 a0_1, .int .i64 a0_2] 23 (0, 0))) ∧ Aside0 (Below w.heap.size w w'))
                                      case atStart => exact ⟨(false), (0), (by first | rfl | (simp; done) | (simp [*]; done)), (by first | rfl | (simp; done) | (simp [*]; done)), H', ⟨Nat.le_refl _⟩, ⟨by (try simp only [hl3_1]); (try simp only [hl9_4]); (with_reducible repeat (first | apply Kd.N_alloc | apply Kd.N_drewN | apply Kd.N_drew)); exact HO_5.out⟩, ⟨by (try simp only [hl3_1]); (try simp only [hl9_4]); (with_reducible repeat (first | apply Kd.R_alloc | apply Kd.R_drewN | apply Kd.R_drew)); exact HO_9.out⟩, ⟨by (try simp only [hl3_1]); (try simp only [hl9_4]); (with_reducible repeat (first | apply ZR_alloc | apply ZR_drewN | apply ZR_drew)); exact HO_39.out⟩, ⟨by (try simp only [hl3_1]); (try simp only [hl9_4]); (with_reducible repeat (first | apply Kd.N_alloc | apply Kd.N_drewN | apply Kd.N_drew)); exact HO_5.out⟩, ⟨by (try simp only [hl3_1]); (try simp only [hl9_4]); (with_reducible repeat (first | refine blk_drewN ?_ _ | refine blk_drew ?_ | refine blk_alloc ?_ _)); exact BK425.out⟩, ⟨by repeat (first | (with_reducible first | exact HB.out | apply below_alloc | apply pw_below_drewN | apply below_drew1 | refine below_set ?_ GE425.out) | exact HB.out)⟩⟩
                                      case round =>
                                        clear H'
                                        try clear c1
                                        try clear p1
                                        try clear q1
                                        try clear hx1
                                        try clear hf1
                                        try clear c2
                                        try clear p2
                                        try clear c3
                                        try clear c3b0
                                        try clear c3b1
                                        try clear c4
                                        try clear c4b0
                                        try clear c4b1
                                        try clear p4
                                        try clear q4
                                        try clear hx4
                                        try clear hf4
                                        try clear c5
                                        try clear p6
                                        try clear c10
                                        try clear c10b0
                                        try clear c11
                                        try clear c11b0
                                        try clear c12
                                        try clear c12b0
                                        try clear p13
                                        try clear q13
                                        try clear hx13
                                        try clear hf13
                                        try clear c18
                                        try clear c18b0
                                        try clear c23
                                        try clear c23b0
                                        try clear c24
                                        try clear c24b0
                                        try clear c25
                                        try clear c25b0
                                        try clear c27
                                        try clear c27b0
                                        try clear c27b1
                                        try clear c28
                                        try clear c28b0
                                        try clear c28b1
                                        try clear c33
                                        try clear c33b0
                                        try clear c34
                                        try clear c34b0
                                        try clear c35
                                        try clear c35b0
                                        try clear c36
                                        try clear c36b0
                                        try clear c37
                                        try clear c37b0
                                        try clear c39
                                        try clear c39b0
                                        try clear p40
                                        try clear q40
                                        try clear hx40
                                        try clear hf40
                                        try clear p43
                                        try clear q43
                                        try clear hx43
                                        try clear c44
                                        try clear p44
                                        try clear q44
                                        try clear hx44
                                        try clear hcz29_0
                                        try clear hcz29_1
                                        try clear hcz29_2
                                        try clear hcz6_0
                                        try clear hcz6_1
                                        try clear hcz6_2
                                        try clear hfz29_0
                                        try clear hfz29_1
                                        try clear hfz29_2
                                        try clear hfz6_0
                                        try clear hfz6_1
                                        try clear hfz6_2
                                        try clear hx13_0
                                        try clear hx40_0
                                        try clear hx436_0
                                        try clear hx440_0
                                        try clear hx441_0
                                        try clear p1
                                        try clear p13
                                        try clear p2
                                        try clear p4
                                        try clear p40
                                        try clear p436
                                        try clear p440
                                        try clear p441
                                        try clear p6
                                        try clear q1
                                        try clear q13
                                        try clear q4
                                        try clear q40
                                        try clear q436
                                        try clear q440
                                        try clear q441
                                        obtain ⟨x11_5, x70_5, rfl, rfl, HA, HK5, HO_5, HO_9, HO_39, HO_68, BK425, HB⟩ := hrel
                                        cases gk with
                                        | zero => exact absurd HA.out (by simp [sackbutref04_Size.l4])
                                        | succ k5 =>
                                          have H := HA.out
                                          clear HA
                                          simp only [sackbutref04_Size.l4] at H
                                          by_cases c46 : x70_5 < (x5_3.length : Int)
                                          · rw [if_pos c46] at H
                                            have c46b0 : decide (x70_5 < (x5_3.length : Int)) = true := decide_eq_true c46
                                            (try simp only [hl3_1, hl9_4] at c46b0)
                                            clear c46
                                            by_cases c47 : 0 ≤ x70_5
                                            · rw [if_pos c47] at H
                                              have c47b0 : decide (0 ≤ x70_5) = true := decide_eq_true c47
                                              clear c47
                                              by_cases c48 : x70_5 < (x5_3.length : Int)
                                              · rw [if_pos c48] at H
                                                have c48b0 : decide (x70_5 < (x5_3.length : Int)) = true := decide_eq_true c48
                                                (try simp only [hl3_1, hl9_4] at c48b0)
                                                clear c48
                                                have H' := Aside0.mk H
                                                clear H
                                                have p447 : 0 ≤ (x70_5 : Int) := of_decide_eq_true (by first | (with_reducible assumption) | assumption)
                                                have q447 : x70_5 < (x5_3.length : Int) := of_decide_eq_true (by first | (with_reducible assumption) | assumption)
                                                obtain ⟨ad447, A447_0, c447_0, e447, hx447_0, hl447_0, hi447_0⟩ := at_L3 (Kd.N_reads' HO_68.out).2.2 x70_5 p447 q447
                                                cases e447
                                                obtain ⟨ce447, hce447, hMe447, hcc447⟩ := Kd.N_get HO_68.out [] x70_5 p447 (by first | exact q447 | exact of_decide_eq_true (by first | (with_reducible assumption) | assumption) | (have e_ := (Kd.N_reads' HO_68.out).1; omega))
                                                obtain ⟨ua447_0, uc447_0, rfl, ul447_0, ge447_0⟩ := Kd.FK_slice_open hMe447
                                                have hv447_0 := hcc447 0 _ rfl
                                                rw [Nat.add_zero, show ((Kd.slice 3 (Kd.int .i64))).sz = 1 from rfl, Nat.mul_one] at hv447_0
                                                replace hv447_0 := Option.some.inj (hv447_0.symm.trans hx447_0)
                                                injection hv447_0 with hva_ hvn_ hvc_
                                                rw [hva_] at ge447_0
                                                rw [hvc_] at ul447_0
                                                have HL447_0 := Aside0.mk (show Kd.V (Kd.int .i64) 3 _ w.heap.size _ _ (rd_L3 x5_3 x70_5) from Kd.V_mk ul447_0 ge447_0)
                                                clear hva_ hvn_ hvc_ ge447_0 ul447_0
                                                clear hcc447 hce447
                                                have HR447_0 := Aside0.mk hi447_0
                                                have HC447_0 := Aside0.mk hl447_0
                                                clear hi447_0 hl447_0
                                                replace p447 := eq_true p447
                                                replace q447 := eq_true q447
                                                go_wp2
                                                go_loopg [14, 76] k5 (fun kq v14 v76 w' => ∃ (x14_6 : Bool) (x76_6 : Int), v14 = .bool x14_6 ∧ v76 = .int .i64 x76_6 ∧ Aside0 (sackbutref04_Size.l5 kq x5_3 x6_2 x9_4 x11_5 (rd_L3 x5_3 x70_5) x14_6 y433 (y433.length : Int) x41_3 x5_3 (x5_3.length : Int) x70_5 ((rd_L3 x5_3 x70_5).length : Int) x76_6 a0_0 a0_1 a0_2 = some r) ∧ Aside0 (kq ≤ k5) ∧ Aside0 (Kd.N (Kd.slice 3 (Kd.int .i64)) 54 w' w.heap.size (fun k_ => some k_ ≠ ((.slice Ao32 x9_4.length co32) : Value).ownBlock ∧ some k_ ≠ ((.slice (some ad436) y433.length 3) : Value).ownBlock ∧ k_ ≠ gb425) (.slice (some ad447) x5_3.length co45) x5_3) ∧ Aside0 (Kd.R (Kd.int .i64) 3 w' w.heap.size (fun _ => True) (.slice Ao32 x9_4.length co32) x9_4) ∧ Aside0 (ZR w' w.heap.size (.slice (some ad436) y433.length 3) y433) ∧ Aside0 (Kd.N (Kd.slice 3 (Kd.int .i64)) 54 w' w.heap.size (fun k_ => some k_ ≠ ((.slice Ao32 x9_4.length co32) : Value).ownBlock ∧ some k_ ≠ ((.slice (some ad436) y433.length 3) : Value).ownBlock ∧ k_ ≠ gb425) (.slice (some ad447) x5_3.length co45) x5_3) ∧ Aside0 (w'.heap[gb425]? = some (.cells #[.int .i64 a0_0, .int .i64 a0_1, .int .i64 a0_2] 23 (0, 0))) ∧ Aside0 (Kd.C (Kd.int .i64) w' A447_0 (rd_L3 x5_3 x70_5).length (rd_L3 x5_3 x70_5)) ∧ Aside0 (Below w.heap.size w w'))
                                                case atStart => exact ⟨(true), (0), (by first | rfl | (simp; done) | (simp [*]; done)), (by first | rfl | (simp; done) | (simp [*]; done)), H', ⟨Nat.le_refl _⟩, ⟨by (try simp only [hl3_1]); (try simp only [hl9_4]); (with_reducible repeat (first | apply Kd.N_alloc | apply Kd.N_drewN | apply Kd.N_drew)); exact HO_5.out⟩, ⟨by (try simp only [hl3_1]); (try simp only [hl9_4]); (with_reducible repeat (first | apply Kd.R_alloc | apply Kd.R_drewN | apply Kd.R_drew)); exact HO_9.out⟩, ⟨by (try simp only [hl3_1]); (try simp only [hl9_4]); (with_reducible repeat (first | apply ZR_alloc | apply ZR_drewN | apply ZR_drew)); exact HO_39.out⟩, ⟨by (try simp only [hl3_1]); (try simp only [hl9_4]); (with_reducible repeat (first | apply Kd.N_alloc | apply Kd.N_drewN | apply Kd.N_drew)); exact HO_68.out⟩, ⟨by (try simp only [hl3_1]); (try simp only [hl9_4]); (with_reducible repeat (first | refine blk_drewN ?_ _ | refine blk_drew ?_ | refine blk_alloc ?_ _)); exact BK425.out⟩, ⟨by repeat (first | (with_reducible exact HR447_0.out) | (with_reducible refine Kd.C_alloc ?_ _) | (with_reducible refine Kd.C_drewN ?_ _) | (with_reducible refine Kd.C_drew ?_) | exact HR447_0.out)⟩, ⟨by repeat (first | (with_reducible first | exact HB.out | apply below_alloc | apply pw_below_drewN | apply below_drew1 | refine below_set ?_ GE425.out) | exact HB.out)⟩⟩
                                                case round =>
                                                  clear H'
                                                  try clear c1
                                                  try clear p1
                                                  try clear q1
                                                  try clear hx1
                                                  try clear hf1
                                                  try clear c2
                                                  try clear p2
                                                  try clear c3
                                                  try clear c3b0
                                                  try clear c3b1
                                                  try clear c4
                                                  try clear c4b0
                                                  try clear c4b1
                                                  try clear p4
                                                  try clear q4
                                                  try clear hx4
                                                  try clear hf4
                                                  try clear c5
                                                  try clear p6
                                                  try clear c10
                                                  try clear c10b0
                                                  try clear c11
                                                  try clear c11b0
                                                  try clear c12
                                                  try clear c12b0
                                                  try clear p13
                                                  try clear q13
                                                  try clear hx13
                                                  try clear hf13
                                                  try clear c18
                                                  try clear c18b0
                                                  try clear c23
                                                  try clear c23b0
                                                  try clear c24
                                                  try clear c24b0
                                                  try clear c25
                                                  try clear c25b0
                                                  try clear c27
                                                  try clear c27b0
                                                  try clear c27b1
                                                  try clear c28
                                                  try clear c28b0
                                                  try clear c28b1
                                                  try clear c33
                                                  try clear c33b0
                                                  try clear c34
                                                  try clear c34b0
                                                  try clear c35
                                                  try clear c35b0
                                                  try clear c36
                                                  try clear c36b0
                                                  try clear c37
                                                  try clear c37b0
                                                  try clear c39
                                                  try clear c39b0
                                                  try clear p40
                                                  try clear q40
                                                  try clear hx40
                                                  try clear hf40
                                                  try clear p43
                                                  try clear q43
                                                  try clear hx43
                                                  try clear c44
                                                  try clear p44
                                                  try clear q44
                                                  try clear hx44
                                                  try clear c46
                                                  try clear c46b0
                                                  try clear c47
                                                  try clear c47b0
                                                  try clear c48
                                                  try clear c48b0
                                                  try clear hcz29_0
                                                  try clear hcz29_1
                                                  try clear hcz29_2
                                                  try clear hcz6_0
                                                  try clear hcz6_1
                                                  try clear hcz6_2
                                                  try clear hfz29_0
                                                  try clear hfz29_1
                                                  try clear hfz29_2
                                                  try clear hfz6_0
                                                  try clear hfz6_1
                                                  try clear hfz6_2
                                                  try clear hx13_0
                                                  try clear hx40_0
                                                  try clear hx436_0
                                                  try clear hx440_0
                                                  try clear hx441_0
                                                  try clear hx447_0
                                                  try clear p1
                                                  try clear p13
                                                  try clear p2
                                                  try clear p4
                                                  try clear p40
                                                  try clear p43
                                                  try clear p436
                                                  try clear p44
                                                  try clear p440
                                                  try clear p441
                                                  try clear p447
                                                  try clear p6
                                                  try clear q1
                                                  try clear q13
                                                  try clear q4
                                                  try clear q40
                                                  try clear q43
                                                  try clear q436
                                                  try clear q44
                                                  try clear q440
                                                  try clear q441
                                                  try clear q447
                                                  obtain ⟨x14_6, x76_6, rfl, rfl, HA, HK6, HO_5, HO_9, HO_39, HO_68, BK425, HR447_0, HB⟩ := hrel
                                                  cases gk with
                                                  | zero => exact absurd HA.out (by simp [sackbutref04_Size.l5])
                                                  | succ k6 =>
                                                    have H := HA.out
                                                    clear HA
                                                    simp only [sackbutref04_Size.l5] at H
                                                    by_cases c49 : x76_6 < ((rd_L3 x5_3 x70_5).length : Int)
                                                    · rw [if_pos c49] at H
                                                      have c49b0 : decide (x76_6 < ((rd_L3 x5_3 x70_5).length : Int)) = true := decide_eq_true c49
                                                      (try simp only [hl3_1, hl9_4] at c49b0)
                                                      clear c49
                                                      by_cases c50 : x14_6 = true
                                                      · subst c50
                                                        have H1 : (if 0 ≤ x76_6 then (if x76_6 < ((rd_L3 x5_3 x70_5).length : Int) then (if x76_6 < (x9_4.length : Int) then (sackbutref04_Size.l5 k6 x5_3 x6_2 x9_4 x11_5 (rd_L3 x5_3 x70_5) ((rd (rd_L3 x5_3 x70_5) x76_6) == (rd x9_4 x76_6)) y433 (y433.length : Int) x41_3 x5_3 (x5_3.length : Int) x70_5 ((rd_L3 x5_3 x70_5).length : Int) (wrap64 (x76_6 + 1)) a0_0 a0_1 a0_2) else (none)) else (none)) else (none)) = some r := by rw [if_pos rfl] at H; exact H
                                                        clear H
                                                        have H := H1
                                                        clear H1
                                                        by_cases c51 : 0 ≤ x76_6
                                                        · rw [if_pos c51] at H
                                                          have c51b0 : decide (0 ≤ x76_6) = true := decide_eq_true c51
                                                          clear c51
                                                          by_cases c52 : x76_6 < ((rd_L3 x5_3 x70_5).length : Int)
                                                          · rw [if_pos c52] at H
                                                            have c52b0 : decide (x76_6 < ((rd_L3 x5_3 x70_5).length : Int)) = true := decide_eq_true c52
                                                            (try simp only [hl3_1, hl9_4] at c52b0)
                                                            clear c52
                                                            by_cases c53 : x76_6 < (x9_4.length : Int)
                                                            · rw [if_pos c53] at H
                                                              have c53b0 : decide (x76_6 < (x9_4.length : Int)) = true := decide_eq_true c53
                                                              (try simp only [hl3_1, hl9_4] at c53b0)
                                                              clear c53
                                                              have H' := Aside0.mk H
                                                              clear H
                                                              try go_wp2
                                                              have n0_ := Aside0.mk (Kd.N_drew HO_5.out)
                                                              have n1_ := Aside0.mk (Kd.R_drew HO_9.out)
                                                              have n2_ := Aside0.mk (ZR_drew HO_39.out)
                                                              have n3_ := Aside0.mk (Kd.N_drew HO_68.out)
                                                              have n4_ := Aside0.mk (blk_drew BK425.out)
                                                              have n5_ := Aside0.mk (Kd.C_drew HR447_0.out)
                                                              have n6_ := Aside0.mk (below_drew1 HB.out)
                                                              clear HO_5
                                                              clear HO_9
                                                              clear HO_39
                                                              clear HO_68
                                                              clear BK425
                                                              clear HR447_0
                                                              clear HB
                                                              have HO_5 := n0_
                                                              have HO_9 := n1_
                                                              have HO_39 := n2_
                                                              have HO_68 := n3_
                                                              have BK425 := n4_
                                                              have HR447_0 := n5_
                                                              have HB := n6_
                                                              clear n0_ n1_ n2_ n3_ n4_ n5_ n6_
                                                              have p448 : 0 ≤ (x76_6 : Int) := of_decide_eq_true (by first | (with_reducible assumption) | assumption)
                                                              have q448 : x76_6 < ((rd_L3 x5_3 x70_5).length : Int) := of_decide_eq_true (by first | (with_reducible assumption) | assumption)
                                                              obtain ⟨ad448, e448, hx448_0⟩ := Kd.at_int HR447_0.out x76_6 p448 q448
                                                              have hw448_0 := hx448_0
                                                              cases e448
                                                              first | (replace hx448_0 := (HB.out.cell (World.block_lt_of_cell? w _ hx448_0)).trans hx448_0) | skip
                                                              replace p448 := eq_true p448
                                                              replace q448 := eq_true q448
                                                              have p449 : 0 ≤ (x76_6 : Int) := of_decide_eq_true (by first | (with_reducible assumption) | assumption)
                                                              have q449 : x76_6 < (x9_4.length : Int) := of_decide_eq_true (by first | (with_reducible assumption) | assumption)
                                                              obtain ⟨ad449, e449, hx449_0⟩ := Kd.at_int (Kd.R_reads' HO_9.out).2.2 x76_6 p449 q449
                                                              cases e449
                                                              replace p449 := eq_true p449
                                                              replace q449 := eq_true q449
                                                              refine start_ (n := 13) (S := fun w' => w'.cell? (ad448.add (x76_6).toNat) = some (.int .i64 (rd (rd_L3 x5_3 x70_5) x76_6)) ∧ w'.cell? (ad449.add (x76_6).toNat) = some (.int .i64 (rd x9_4 x76_6))) (ds := []) #[false, false, false, false, false, false, false, false, false, false, false, false, false] (by kernel_rfl) rfl rfl ⟨(by first | exact hw448_0 | exact ((HB.out.cell (World.block_lt_of_cell? w _ hw448_0)).trans hw448_0)), hx449_0⟩ (fun hHeld => ?_); refine with_tabW sackbutref04_Size.tab28 sackbutref04_Size.bits28 (fun HT_ HW_ => ?_)
                                                              generalize wr.drew = w54 at HO_5 HO_9 HO_39 HO_68 BK425 HR447_0 HB hx448_0 hx449_0 hHeld ⊢
                                                              refine pure_ (i := 0) (N := some 79) (v := ?_) (a' := ?_) #[true, false, false, false, false, false, false, false, false, false, false, false, false] rfl rfl (any_of HT_.out (by kernel_rfl)) (fun _ _ _ h => h) (Or.inl ⟨by rfl, ?_⟩) ?_ ?_
                                                              rotate_left
                                                              · intro w'
                                                                go_simp
                                                                with_reducible rfl
                                                              rotate_left
                                                              · simp only [Act.put, List.setIfInBounds_toArray, List.set_cons_zero, List.set_cons_succ, i64_w, i32_w]
                                                                rfl
                                                              refine pure_ (i := 1) (N := some 80) (v := ?_) (a' := ?_) #[true, true, false, false, false, false, false, false, false, false, false, false, false] rfl rfl (any_of HT_.out (by kernel_rfl)) (fun _ _ _ h => h) (Or.inl ⟨by rfl, ?_⟩) ?_ ?_
                                                              rotate_left
                                                              · intro w'
                                                                go_simp
                                                                with_reducible rfl
                                                              rotate_left
                                                              · simp only [Act.put, List.setIfInBounds_toArray, List.set_cons_zero, List.set_cons_succ, i64_w, i32_w]
                                                                rfl
                                                              refine pure_ (i := 2) (N := some 81) (v := ?_) (a' := ?_) #[true, true, true, false, false, false, false, false, false, false, false, false, false] rfl rfl (any_of HT_.out (by kernel_rfl)) (fun _ _ _ h => h) (Or.inl ⟨by rfl, ?_⟩) ?_ ?_
                                                              rotate_left
                                                              · intro w'
                                                                go_simp
                                                                with_reducible rfl
                                                              rotate_left
                                                              · simp only [Act.put, List.setIfInBounds_toArray, List.set_cons_zero, List.set_cons_succ, i64_w, i32_w]
                                                                rfl
                                                              refine pure_ (i := 3) (N := some 82) (v := ?_) (a' := ?_) #[true, true, true, true, false, false, false, false, false, false, false, false, false] rfl rfl (any_of HT_.out (by kernel_rfl)) (fun _ _ _ h => h) (Or.inl ⟨by rfl, ?_⟩) ?_ ?_
                                                              rotate_left
                                                              · intro w'
                                                                go_simp
                                                                with_reducible rfl
                                                              rotate_left
                                                              · simp only [Act.put, List.setIfInBounds_toArray, List.set_cons_zero, List.set_cons_succ, i64_w, i32_w]
                                                                rfl
                                                              refine pure_ (i := 4) (N := some 83) (v := ?_) (a' := ?_) #[true, true, true, true, true, false, false, false, false, false, false, false, false] rfl rfl (any_of HT_.out (by kernel_rfl)) (fun _ _ _ h => h) (Or.inl ⟨by rfl, ?_⟩) ?_ ?_
                                                              rotate_left
                                                              · intro w'
                                                                go_simp
                                                                with_reducible rfl
                                                              rotate_left
                                                              · simp only [Act.put, List.setIfInBounds_toArray, List.set_cons_zero, List.set_cons_succ, i64_w, i32_w]
                                                                rfl
                                                              refine pure_ (i := 6) (N := some 85) (v := ?_) (a' := ?_) #[true, true, true, true, true, false, true, false, false, false, false, false, false] rfl rfl (any_of HT_.out (by kernel_rfl)) (fun _ _ _ h => h) (Or.inl ⟨by rfl, ?_⟩) ?_ ?_
                                                              rotate_left
                                                              · intro w'
                                                                go_simp
                                                                with_reducible rfl
                                                              rotate_left
                                                              · simp only [Act.put, List.setIfInBounds_toArray, List.set_cons_zero, List.set_cons_succ, i64_w, i32_w]
                                                                rfl
                                                              refine pure_ (i := 7) (N := some 86) (v := ?_) (a' := ?_) #[true, true, true, true, true, false, true, true, false, false, false, false, false] rfl rfl (any_of HT_.out (by kernel_rfl)) (fun _ _ _ h => h) (Or.inl ⟨by rfl, ?_⟩) ?_ ?_
                                                              rotate_left
                                                              · intro w'
                                                                go_simp
                                                                with_reducible rfl
                                                              rotate_left
                                                              · simp only [Act.put, List.setIfInBounds_toArray, List.set_cons_zero, List.set_cons_succ, i64_w, i32_w]
                                                                rfl
                                                              refine pure_ (i := 8) (N := some 87) (v := ?_) (a' := ?_) #[true, true, true, true, true, false, true, true, true, false, false, false, false] rfl rfl (any_of HT_.out (by kernel_rfl)) (fun _ _ _ h => h) (Or.inl ⟨by rfl, ?_⟩) ?_ ?_
                                                              rotate_left
                                                              · intro w'
                                                                go_simp
                                                                with_reducible rfl
                                                              rotate_left
                                                              · simp only [Act.put, List.setIfInBounds_toArray, List.set_cons_zero, List.set_cons_succ, i64_w, i32_w]
                                                                rfl
                                                              refine take_ (i := 5) (N := some 84) (v := ?_) (a' := ?_) #[true, true, true, true, true, true, true, true, true, false, false, false, false] rfl rfl (take_ofW HT_.out HW_.out (by kernel_rfl)) (fun _ _ _ h => h) (Or.inl ⟨by rfl, ?_⟩) hHeld ?_ ?_
                                                              rotate_left
                                                              · rintro w' ⟨s0, s1⟩
                                                                go_simp
                                                                with_reducible rfl
                                                              rotate_left
                                                              · simp only [Act.put, List.setIfInBounds_toArray, List.set_cons_zero, List.set_cons_succ, i64_w, i32_w]
                                                                rfl
                                                              refine take_ (i := 9) (N := some 88) (v := ?_) (a' := ?_) #[true, true, true, true, true, true, true, true, true, true, false, false, false] rfl rfl (take_ofW HT_.out HW_.out (by kernel_rfl)) (fun _ _ _ h => h) (Or.inl ⟨by rfl, ?_⟩) hHeld ?_ ?_
                                                              rotate_left
                                                              · rintro w' ⟨s0, s1⟩
                                                                go_simp
                                                                with_reducible rfl
                                                              rotate_left
                                                              · simp only [Act.put, List.setIfInBounds_toArray, List.set_cons_zero, List.set_cons_succ, i64_w, i32_w]
                                                                rfl
                                                              refine pure_ (i := 10) (N := some 89) (v := ?_) (a' := ?_) #[true, true, true, true, true, true, true, true, true, true, true, false, false] rfl rfl (any_of HT_.out (by kernel_rfl)) (fun _ _ _ h => h) (Or.inl ⟨by rfl, ?_⟩) ?_ ?_
                                                              rotate_left
                                                              · intro w'
                                                                go_simp
                                                                with_reducible rfl
                                                              rotate_left
                                                              · simp only [Act.put, List.setIfInBounds_toArray, List.set_cons_zero, List.set_cons_succ, i64_w, i32_w]
                                                                rfl
                                                              refine pure_ (i := 11) (N := some 90) (v := ?_) (a' := ?_) #[true, true, true, true, true, true, true, true, true, true, true, true, false] rfl rfl (any_of HT_.out (by kernel_rfl)) (fun _ _ _ h => h) (Or.inl ⟨by rfl, ?_⟩) ?_ ?_
                                                              rotate_left
                                                              · intro w'
                                                                go_simp
                                                                with_reducible rfl
                                                              rotate_left
                                                              · simp only [Act.put, List.setIfInBounds_toArray, List.set_cons_zero, List.set_cons_succ, i64_w, i32_w]
                                                                rfl
                                                              refine pure_ (i := 12) (N := some 14) (v := ?_) (a' := ?_) #[true, true, true, true, true, true, true, true, true, true, true, true, true] rfl rfl (any_of HT_.out (by kernel_rfl)) (fun _ _ _ h => h) (Or.inl ⟨by rfl, ?_⟩) ?_ ?_
                                                              rotate_left
                                                              · intro w'
                                                                go_simp
                                                                with_reducible rfl
                                                              rotate_left
                                                              · simp only [Act.put, List.setIfInBounds_toArray, List.set_cons_zero, List.set_cons_succ, i64_w, i32_w]
                                                                rfl
                                                              refine done_ (done_of HT_.out (by kernel_rfl)) ?_
                                                              try go_wp2
                                                              go_roundg k6
                                                              case measure => have := HK1.out; have := HK2.out; have := HK3.out; have := HK4.out; have := HK5.out; have := HK6.out; omega
                                                              case rel => exact ⟨(((rd (rd_L3 x5_3 x70_5) x76_6) == (rd x9_4 x76_6))), (wrap64 (x76_6 + 1)), (by first | rfl | (simp; done) | (simp [*]; done)), (by first | rfl | (simp; done) | (simp [*]; done)), H', ⟨by have := HK1.out; have := HK2.out; have := HK3.out; have := HK4.out; have := HK5.out; have := HK6.out; omega⟩, ⟨by (try simp only [hl3_1]); (try simp only [hl9_4]); (with_reducible repeat (first | apply Kd.N_alloc | apply Kd.N_drewN | apply Kd.N_drew)); exact HO_5.out⟩, ⟨by (try simp only [hl3_1]); (try simp only [hl9_4]); (with_reducible repeat (first | apply Kd.R_alloc | apply Kd.R_drewN | apply Kd.R_drew)); exact HO_9.out⟩, ⟨by (try simp only [hl3_1]); (try simp only [hl9_4]); (with_reducible repeat (first | apply ZR_alloc | apply ZR_drewN | apply ZR_drew)); exact HO_39.out⟩, ⟨by (try simp only [hl3_1]); (try simp only [hl9_4]); (with_reducible repeat (first | apply Kd.N_alloc | apply Kd.N_drewN | apply Kd.N_drew)); exact HO_68.out⟩, ⟨by (try simp only [hl3_1]); (try simp only [hl9_4]); (with_reducible repeat (first | refine blk_drewN ?_ _ | refine blk_drew ?_ | refine blk_alloc ?_ _)); exact BK425.out⟩, ⟨by repeat (first | (with_reducible exact HR447_0.out) | (with_reducible refine Kd.C_alloc ?_ _) | (with_reducible refine Kd.C_drewN ?_ _) | (with_reducible refine Kd.C_drew ?_) | exact HR447_0.out)⟩, ⟨by repeat (first | (with_reducible first | exact HB.out | apply below_alloc | apply pw_below_drewN | apply below_drew1 | refine below_set ?_ GE425.out) | exact HB.out)⟩⟩
                                                            · rw [if_neg c53] at H
                                                              exact absurd H (by simp)
                                                          · rw [if_neg c52] at H
                                                            exact absurd H (by simp)
                                                        · rw [if_neg c51] at H
                                                          exact absurd H (by simp)
                                                      · replace c50 := Bool.eq_false_iff.mpr c50
                                                        subst c50
                                                        have H1 : (sackbutref04_Size.l5 k6 x5_3 x6_2 x9_4 x11_5 (rd_L3 x5_3 x70_5) false y433 (y433.length : Int) x41_3 x5_3 (x5_3.length : Int) x70_5 ((rd_L3 x5_3 x70_5).length : Int) (wrap64 (x76_6 + 1)) a0_0 a0_1 a0_2) = some r := by rw [if_neg (show ¬ (false = true) by decide)] at H; exact H
                                                        clear H
                                                        have H := H1
                                                        clear H1
                                                        have H' := Aside0.mk H
                                                        clear H
                                                        try go_wp2
                                                        have n0_ := Aside0.mk (Kd.N_drew HO_5.out)
                                                        have n1_ := Aside0.mk (Kd.R_drew HO_9.out)
                                                        have n2_ := Aside0.mk (ZR_drew HO_39.out)
                                                        have n3_ := Aside0.mk (Kd.N_drew HO_68.out)
                                                        have n4_ := Aside0.mk (blk_drew BK425.out)
                                                        have n5_ := Aside0.mk (Kd.C_drew HR447_0.out)
                                                        have n6_ := Aside0.mk (below_drew1 HB.out)
                                                        clear HO_5
                                                        clear HO_9
                                                        clear HO_39
                                                        clear HO_68
                                                        clear BK425
                                                        clear HR447_0
                                                        clear HB
                                                        have HO_5 := n0_
                                                        have HO_9 := n1_
                                                        have HO_39 := n2_
                                                        have HO_68 := n3_
                                                        have BK425 := n4_
                                                        have HR447_0 := n5_
                                                        have HB := n6_
                                                        clear n0_ n1_ n2_ n3_ n4_ n5_ n6_
                                                        refine start_ (n := 13) (S := fun w' => True) (ds := []) #[false, false, false, false, false, false, false, false, false, false, false, false, false] (by kernel_rfl) rfl rfl trivial (fun hHeld => ?_); refine with_tabW sackbutref04_Size.tab28 sackbutref04_Size.bits28 (fun HT_ HW_ => ?_)
                                                        generalize wr.drew = w55 at HO_5 HO_9 HO_39 HO_68 BK425 HR447_0 HB hHeld ⊢
                                                        refine pure_ (i := 0) (N := some 79) (v := ?_) (a' := ?_) #[true, false, false, false, false, false, false, false, false, false, false, false, false] rfl rfl (any_of HT_.out (by kernel_rfl)) (fun _ _ _ h => h) (Or.inl ⟨by rfl, ?_⟩) ?_ ?_
                                                        rotate_left
                                                        · intro w'
                                                          go_simp
                                                          with_reducible rfl
                                                        rotate_left
                                                        · simp only [Act.put, List.setIfInBounds_toArray, List.set_cons_zero, List.set_cons_succ, i64_w, i32_w]
                                                          rfl
                                                        refine pure_ (i := 1) (N := some 80) (v := ?_) (a' := ?_) #[true, true, false, false, false, false, false, false, false, false, false, false, false] rfl rfl (any_of HT_.out (by kernel_rfl)) (fun _ _ _ h => h) (Or.inl ⟨by rfl, ?_⟩) ?_ ?_
                                                        rotate_left
                                                        · intro w'
                                                          go_simp
                                                          with_reducible rfl
                                                        rotate_left
                                                        · simp only [Act.put, List.setIfInBounds_toArray, List.set_cons_zero, List.set_cons_succ, i64_w, i32_w]
                                                          rfl
                                                        refine pure_ (i := 2) (N := some 81) (v := undef) (a' := ?_) #[true, true, true, false, false, false, false, false, false, false, false, false, false] rfl rfl (any_of HT_.out (by kernel_rfl)) (fun _ _ _ h => h) (Or.inr ⟨by rfl, rfl⟩) ?_ ?_
                                                        rotate_left
                                                        · simp only [Act.put, List.setIfInBounds_toArray, List.set_cons_zero, List.set_cons_succ, i64_w, i32_w]
                                                          rfl
                                                        refine pure_ (i := 3) (N := some 82) (v := undef) (a' := ?_) #[true, true, true, true, false, false, false, false, false, false, false, false, false] rfl rfl (any_of HT_.out (by kernel_rfl)) (fun _ _ _ h => h) (Or.inr ⟨by rfl, rfl⟩) ?_ ?_
                                                        rotate_left
                                                        · simp only [Act.put, List.setIfInBounds_toArray, List.set_cons_zero, List.set_cons_succ, i64_w, i32_w]
                                                          rfl
                                                        refine pure_ (i := 4) (N := some 83) (v := undef) (a' := ?_) #[true, true, true, true, true, false, false, false, false, false, false, false, false] rfl rfl (any_of HT_.out (by kernel_rfl)) (fun _ _ _ h => h) (Or.inr ⟨by rfl, rfl⟩) ?_ ?_
                                                        rotate_left
                                                        · simp only [Act.put, List.setIfInBounds_toArray, List.set_cons_zero, List.set_cons_succ, i64_w, i32_w]
                                                          rfl
                                                        refine pure_ (i := 5) (N := some 84) (v := undef) (a' := ?_) #[true, true, true, true, true, true, false, false, false, false, false, false, false] rfl rfl (any_of HT_.out (by kernel_rfl)) (fun _ _ _ h => h) (Or.inr ⟨by rfl, rfl⟩) ?_ ?_
                                                        rotate_left
                                                        · simp only [Act.put, List.setIfInBounds_toArray, List.set_cons_zero, List.set_cons_succ, i64_w, i32_w]
                                                          rfl
                                                        refine pure_ (i := 6) (N := some 85) (v := undef) (a' := ?_) #[true, true, true, true, true, true, true, false, false, false, false, false, false] rfl rfl (any_of HT_.out (by kernel_rfl)) (fun _ _ _ h => h) (Or.inr ⟨by rfl, rfl⟩) ?_ ?_
                                                        rotate_left
                                                        · simp only [Act.put, List.setIfInBounds_toArray, List.set_cons_zero, List.set_cons_succ, i64_w, i32_w]
                                                          rfl
                                                        refine pure_ (i := 7) (N := some 86) (v := undef) (a' := ?_) #[true, true, true, true, true, true, true, true, false, false, false, false, false] rfl rfl (any_of HT_.out (by kernel_rfl)) (fun _ _ _ h => h) (Or.inr ⟨by rfl, rfl⟩) ?_ ?_
                                                        rotate_left
                                                        · simp only [Act.put, List.setIfInBounds_toArray, List.set_cons_zero, List.set_cons_succ, i64_w, i32_w]
                                                          rfl
                                                        refine pure_ (i := 8) (N := some 87) (v := undef) (a' := ?_) #[true, true, true, true, true, true, true, true, true, false, false, false, false] rfl rfl (any_of HT_.out (by kernel_rfl)) (fun _ _ _ h => h) (Or.inr ⟨by rfl, rfl⟩) ?_ ?_
                                                        rotate_left
                                                        · simp only [Act.put, List.setIfInBounds_toArray, List.set_cons_zero, List.set_cons_succ, i64_w, i32_w]
                                                          rfl
                                                        refine pure_ (i := 9) (N := some 88) (v := undef) (a' := ?_) #[true, true, true, true, true, true, true, true, true, true, false, false, false] rfl rfl (any_of HT_.out (by kernel_rfl)) (fun _ _ _ h => h) (Or.inr ⟨by rfl, rfl⟩) ?_ ?_
                                                        rotate_left
                                                        · simp only [Act.put, List.setIfInBounds_toArray, List.set_cons_zero, List.set_cons_succ, i64_w, i32_w]
                                                          rfl
                                                        refine pure_ (i := 10) (N := some 89) (v := undef) (a' := ?_) #[true, true, true, true, true, true, true, true, true, true, true, false, false] rfl rfl (any_of HT_.out (by kernel_rfl)) (fun _ _ _ h => h) (Or.inr ⟨by rfl, rfl⟩) ?_ ?_
                                                        rotate_left
                                                        · simp only [Act.put, List.setIfInBounds_toArray, List.set_cons_zero, List.set_cons_succ, i64_w, i32_w]
                                                          rfl
                                                        refine pure_ (i := 11) (N := some 90) (v := ?_) (a' := ?_) #[true, true, true, true, true, true, true, true, true, true, true, true, false] rfl rfl (any_of HT_.out (by kernel_rfl)) (fun _ _ _ h => h) (Or.inl ⟨by rfl, ?_⟩) ?_ ?_
                                                        rotate_left
                                                        · intro w'
                                                          go_simp
                                                          with_reducible rfl
                                                        rotate_left
                                                        · simp only [Act.put, List.setIfInBounds_toArray, List.set_cons_zero, List.set_cons_succ, i64_w, i32_w]
                                                          rfl
                                                        refine pure_ (i := 12) (N := some 14) (v := ?_) (a' := ?_) #[true, true, true, true, true, true, true, true, true, true, true, true, true] rfl rfl (any_of HT_.out (by kernel_rfl)) (fun _ _ _ h => h) (Or.inl ⟨by rfl, ?_⟩) ?_ ?_
                                                        rotate_left
                                                        · intro w'
                                                          go_simp
                                                          with_reducible rfl
                                                        rotate_left
                                                        · simp only [Act.put, List.setIfInBounds_toArray, List.set_cons_zero, List.set_cons_succ, i64_w, i32_w]
                                                          rfl
                                                        refine done_ (done_of HT_.out (by kernel_rfl)) ?_
                                                        try go_wp2
                                                        go_roundg k6
                                                        case measure => have := HK1.out; have := HK2.out; have := HK3.out; have := HK4.out; have := HK5.out; have := HK6.out; omega
                                                        case rel => exact ⟨(false), (wrap64 (x76_6 + 1)), (by first | rfl | (simp; done) | (simp [*]; done)), (by first | rfl | (simp; done) | (simp [*]; done)), H', ⟨by have := HK1.out; have := HK2.out; have := HK3.out; have := HK4.out; have := HK5.out; have := HK6.out; omega⟩, ⟨by (try simp only [hl3_1]); (try simp only [hl9_4]); (with_reducible repeat (first | apply Kd.N_alloc | apply Kd.N_drewN | apply Kd.N_drew)); exact HO_5.out⟩, ⟨by (try simp only [hl3_1]); (try simp only [hl9_4]); (with_reducible repeat (first | apply Kd.R_alloc | apply Kd.R_drewN | apply Kd.R_drew)); exact HO_9.out⟩, ⟨by (try simp only [hl3_1]); (try simp only [hl9_4]); (with_reducible repeat (first | apply ZR_alloc | apply ZR_drewN | apply ZR_drew)); exact HO_39.out⟩, ⟨by (try simp only [hl3_1]); (try simp only [hl9_4]); (with_reducible repeat (first | apply Kd.N_alloc | apply Kd.N_drewN | apply Kd.N_drew)); exact HO_68.out⟩, ⟨by (try simp only [hl3_1]); (try simp only [hl9_4]); (with_reducible repeat (first | refine blk_drewN ?_ _ | refine blk_drew ?_ | refine blk_alloc ?_ _)); exact BK425.out⟩, ⟨by repeat (first | (with_reducible exact HR447_0.out) | (with_reducible refine Kd.C_alloc ?_ _) | (with_reducible refine Kd.C_drewN ?_ _) | (with_reducible refine Kd.C_drew ?_) | exact HR447_0.out)⟩, ⟨by repeat (first | (with_reducible first | exact HB.out | apply below_alloc | apply pw_below_drewN | apply below_drew1 | refine below_set ?_ GE425.out) | exact HB.out)⟩⟩
                                                    · rw [if_neg c49] at H
                                                      have c49b0 : decide (x76_6 < ((rd_L3 x5_3 x70_5).length : Int)) = false := decide_eq_false c49
                                                      (try simp only [hl3_1, hl9_4] at c49b0)
                                                      clear c49
                                                      by_cases c56 : x11_5 = true
                                                      · subst c56
                                                        have H1 : (sackbutref04_Size.l4 k6 x5_3 x6_2 x9_4 true y433 (y433.length : Int) x41_3 x5_3 (x5_3.length : Int) (wrap64 (x70_5 + 1)) a0_0 a0_1 a0_2) = some r := by rw [if_pos rfl] at H; exact H
                                                        clear H
                                                        have H := H1
                                                        clear H1
                                                        have H' := Aside0.mk H
                                                        clear H
                                                        go_wp2
                                                        go_roundg k6
                                                        case measure => have := HK1.out; have := HK2.out; have := HK3.out; have := HK4.out; have := HK5.out; have := HK6.out; omega
                                                        case rel => exact ⟨(true), (wrap64 (x70_5 + 1)), (by first | rfl | (simp; done) | (simp [*]; done)), (by first | rfl | (simp; done) | (simp [*]; done)), H', ⟨by have := HK1.out; have := HK2.out; have := HK3.out; have := HK4.out; have := HK5.out; have := HK6.out; omega⟩, ⟨by (try simp only [hl3_1]); (try simp only [hl9_4]); (with_reducible repeat (first | apply Kd.N_alloc | apply Kd.N_drewN | apply Kd.N_drew)); exact HO_5.out⟩, ⟨by (try simp only [hl3_1]); (try simp only [hl9_4]); (with_reducible repeat (first | apply Kd.R_alloc | apply Kd.R_drewN | apply Kd.R_drew)); exact HO_9.out⟩, ⟨by (try simp only [hl3_1]); (try simp only [hl9_4]); (with_reducible repeat (first | apply ZR_alloc | apply ZR_drewN | apply ZR_drew)); exact HO_39.out⟩, ⟨by (try simp only [hl3_1]); (try simp only [hl9_4]); (with_reducible repeat (first | apply Kd.N_alloc | apply Kd.N_drewN | apply Kd.N_drew)); exact HO_68.out⟩, ⟨by (try simp only [hl3_1]); (try simp only [hl9_4]); (with_reducible repeat (first | refine blk_drewN ?_ _ | refine blk_drew ?_ | refine blk_alloc ?_ _)); exact BK425.out⟩, ⟨by repeat (first | (with_reducible first | exact HB.out | apply below_alloc | apply pw_below_drewN | apply below_drew1 | refine below_set ?_ GE425.out) | exact HB.out)⟩⟩
                                                      · replace c56 := Bool.eq_false_iff.mpr c56
                                                        subst c56
                                                        have H1 : (sackbutref04_Size.l4 k6 x5_3 x6_2 x9_4 x14_6 y433 (y433.length : Int) x41_3 x5_3 (x5_3.length : Int) (wrap64 (x70_5 + 1)) a0_0 a0_1 a0_2) = some r := by rw [if_neg (show ¬ (false = true) by decide)] at H; exact H
                                                        clear H
                                                        have H := H1
                                                        clear H1
                                                        have H' := Aside0.mk H
                                                        clear H
                                                        go_wp2
                                                        go_roundg k6
                                                        case measure => have := HK1.out; have := HK2.out; have := HK3.out; have := HK4.out; have := HK5.out; have := HK6.out; omega
                                                        case rel => exact ⟨(x14_6), (wrap64 (x70_5 + 1)), (by first | rfl | (simp; done) | (simp [*]; done)), (by first | rfl | (simp; done) | (simp [*]; done)), H', ⟨by have := HK1.out; have := HK2.out; have := HK3.out; have := HK4.out; have := HK5.out; have := HK6.out; omega⟩, ⟨by (try simp only [hl3_1]); (try simp only [hl9_4]); (with_reducible repeat (first | apply Kd.N_alloc | apply Kd.N_drewN | apply Kd.N_drew)); exact HO_5.out⟩, ⟨by (try simp only [hl3_1]); (try simp only [hl9_4]); (with_reducible repeat (first | apply Kd.R_alloc | apply Kd.R_drewN | apply Kd.R_drew)); exact HO_9.out⟩, ⟨by (try simp only [hl3_1]); (try simp only [hl9_4]); (with_reducible repeat (first | apply ZR_alloc | apply ZR_drewN | apply ZR_drew)); exact HO_39.out⟩, ⟨by (try simp only [hl3_1]); (try simp only [hl9_4]); (with_reducible repeat (first | apply Kd.N_alloc | apply Kd.N_drewN | apply Kd.N_drew)); exact HO_68.out⟩, ⟨by (try simp only [hl3_1]); (try simp only [hl9_4]); (with_reducible repeat (first | refine blk_drewN ?_ _ | refine blk_drew ?_ | refine blk_alloc ?_ _)); exact BK425.out⟩, ⟨by repeat (first | (with_reducible first | exact HB.out | apply below_alloc | apply pw_below_drewN | apply below_drew1 | refine below_set ?_ GE425.out) | exact HB.out)⟩⟩
                                              · rw [if_neg c48] at H
                                                exact absurd H (by simp)
                                            · rw [if_neg c47] at H
                                              exact absurd H (by simp)
                                          · rw [if_neg c46] at H
                                            have c46b0 : decide (x70_5 < (x5_3.length : Int)) = false := decide_eq_false c46
                                            (try simp only [hl3_1, hl9_4] at c46b0)
                                            clear c46
                                            by_cases c57 : x11_5 = true
                                            · subst c57
                                              have H1 : (sackbutref04_Size.l2 k5 x5_3 x6_2 y433 (y433.length : Int) (wrap64 (x41_3 + 1)) a0_0 a0_1 a0_2) = some r := by rw [if_pos rfl] at H; exact H
                                              clear H
                                              have H := H1
                                              clear H1
                                              have H' := Aside0.mk H
                                              clear H
                                              go_wp2
                                              (try simp only [← hl9_4])
                                              go_roundg k5
                                              case measure => have := HK1.out; have := HK2.out; have := HK3.out; have := HK4.out; have := HK5.out; omega
                                              case rel => exact ⟨(x5_3), (wrap64 (x41_3 + 1)), (by first | rfl | (simp; done) | (simp [*]; done)), H', ⟨by have := HK1.out; have := HK2.out; have := HK3.out; have := HK4.out; have := HK5.out; omega⟩, ⟨by (try simp only [hl3_1]); (try simp only [hl9_4]); (with_reducible repeat (first | apply Kd.N_alloc | apply Kd.N_drewN | apply Kd.N_drew)); exact Kd.N_mono HO_5.out (fun _ hk => ⟨hk.2.1, hk.2.2⟩)⟩, ⟨by (try simp only [hl3_1]); (try simp only [hl9_4]); (with_reducible repeat (first | apply ZR_alloc | apply ZR_drewN | apply ZR_drew)); exact HO_39.out⟩, ⟨by (try simp only [hl3_1]); (try simp only [hl9_4]); (with_reducible repeat (first | refine blk_drewN ?_ _ | refine blk_drew ?_ | refine blk_alloc ?_ _)); exact BK425.out⟩, ⟨by repeat (first | (with_reducible first | exact HB.out | apply below_alloc | apply pw_below_drewN | apply below_drew1 | refine below_set ?_ GE425.out) | exact HB.out)⟩⟩
                                            · replace c57 := Bool.eq_false_iff.mpr c57
                                              subst c57
                                              have H1 : (if x5_3.length < 5864062014805 then (sackbutref04_Size.l2 k5 (x5_3 ++ [x9_4]) x6_2 y433 (y433.length : Int) (wrap64 (x41_3 + 1)) a0_0 a0_1 a0_2) else (none)) = some r := by rw [if_neg (show ¬ (false = true) by decide)] at H; exact H
                                              clear H
                                              have H := H1
                                              clear H1
                                              by_cases c58 : x5_3.length < 5864062014805
                                              · rw [if_pos c58] at H
                                                have LMc58 := Aside0.mk c58
                                                clear c58
                                                obtain ⟨y444, hy444⟩ : ∃ y_ : List (List Int), y_ = (x5_3 ++ [x9_4]) := ⟨_, rfl⟩
                                                replace H : (sackbutref04_Size.l2 k5 y444 x6_2 y433 (y433.length : Int) (wrap64 (x41_3 + 1)) a0_0 a0_1 a0_2) = some r := by first | (rw [hy444]; with_reducible exact H) | (have H2_ := (Option.bind_some _ _).symm.trans H; rw [hy444]; with_reducible exact H2_) | (have H2_ := (Option.bind_some _ _).symm.trans H; with_reducible exact H2_) | with_reducible exact H | (rw [hy444]; exact H) | exact H
                                                have Ny444 := Aside0.mk hy444
                                                clear hy444
                                                have H' := Aside0.mk H
                                                clear H
                                                go_wp2_with (first | ((with_reducible refine gate_builtin (b := .append) (xs := #[.tmp 99, .tmp 101]) rfl ?_); at_builtin; refine Kd.N_append (Kd.slice 3 (Kd.int .i64)) (w0 := w) w.heap.size rfl (.tmp 99) (.tmp 101) 105 54 (.slice none 0 0) 24 rfl Tryd.underlying105 info54 rfl (by decide) (by omega) (.slice Ao45 x5_3.length co45) x5_3 x9_4 [.slice Ao32 x9_4.length co32] (fun k_ => some k_ ≠ (.slice (some ad436) y433.length 3 : Value).ownBlock ∧ k_ ≠ gb425) (fun k_ => ((fun k_ => some k_ ≠ (.slice (some ad436) y433.length 3 : Value).ownBlock ∧ k_ ≠ gb425)) k_ ∧ some k_ ≠ (.slice Ao45 x5_3.length co45 : Value).ownBlock) rfl rfl ?aP (fun _ hk => hk) ?aF ?aO ?aB ?aS ?aL ?_; (case aP => exact (Kd.FK_slice_mk (Kd.R_reads' (Kd.R_mono (ok' := (fun k_ => ((fun k_ => some k_ ≠ (.slice (some ad436) y433.length 3 : Value).ownBlock ∧ k_ ≠ gb425)) k_ ∧ some k_ ≠ (.slice Ao45 x5_3.length co45 : Value).ownBlock)) (Kd.R_types (Kd.R_apart' (ZR_apart (HO_9.out) HO_39.out) (Kd.N_typed HO_5.out) (by decide)) BK425.out (by decide)) (fun k_ hk => ⟨⟨hk.1.1.2, hk.2⟩, hk.1.2⟩))).2.1 (Kd.R_F (Kd.R_mono (ok' := (fun k_ => ((fun k_ => some k_ ≠ (.slice (some ad436) y433.length 3 : Value).ownBlock ∧ k_ ≠ gb425)) k_ ∧ some k_ ≠ (.slice Ao45 x5_3.length co45 : Value).ownBlock)) (Kd.R_types (Kd.R_apart' (ZR_apart (HO_9.out) HO_39.out) (Kd.N_typed HO_5.out) (by decide)) BK425.out (by decide)) (fun k_ hk => ⟨⟨hk.1.1.2, hk.2⟩, hk.1.2⟩))))); (case aB => exact (by repeat (first | (with_reducible first | exact HB.out | apply below_alloc | apply pw_below_drewN | apply below_drew1 | refine below_set ?_ GE425.out) | exact HB.out))); (case aF => exact (fun k_ hk => ⟨Kd.fresh' (ZR_lt (by (with_reducible repeat (first | apply ZR_alloc | apply ZR_drewN | apply ZR_drew)); exact HO_39.out)) k_ hk, Kd.freshB (g := gb425) (o := .cells #[.int .i64 a0_0, .int .i64 a0_1, .int .i64 a0_2] 23 (0, 0)) (by (with_reducible repeat (first | refine blk_drewN ?_ _ | refine blk_drew ?_ | refine blk_alloc ?_ _)); exact BK425.out) k_ hk⟩)); (case aO => exact (by (with_reducible repeat (first | apply Kd.N_alloc | apply Kd.N_drewN | apply Kd.N_drew)); exact Kd.N_mono HO_5.out (fun _ hk => ⟨hk.2.1, hk.2.2⟩))); (case aS => exact (below_size (by repeat (first | (with_reducible first | exact HB.out | apply below_alloc | apply pw_below_drewN | apply below_drew1 | refine below_set ?_ GE425.out) | exact HB.out)))); (case aL => have := LMc58.out; omega); intro v445 w59 ho hb hg hat; rw [← Ny444.out] at ho; have n0_ := Aside0.mk (ZR_over (by (with_reducible repeat (first | apply ZR_alloc | apply ZR_drewN | apply ZR_drew)); exact HO_39.out) (Kd.N_typed (by (with_reducible repeat (first | apply Kd.N_alloc | apply Kd.N_drewN | apply Kd.N_drew)); exact HO_5.out)) hg); have n1_ := Aside0.mk (blk_grown (g := gb425) (o := .cells #[.int .i64 a0_0, .int .i64 a0_1, .int .i64 a0_2] 23 (0, 0)) (by (with_reducible repeat (first | refine blk_drewN ?_ _ | refine blk_drew ?_ | refine blk_alloc ?_ _)); exact BK425.out) hg (Kd.N_ne HO_5.out BK425.out (by decide))); have n2_ := Aside0.mk (hb); have n3_ := Aside0.mk (ho); clear HO_39; clear BK425; clear HB; clear HO_5; clear HO_9; have HO_39 := n0_; have BK425 := n1_; have HB := n2_; have HO446 := n3_; clear n0_ n1_ n2_ n3_; clear ho hb hg hat))
                                                (try simp only [← hl9_4])
                                                go_roundg k5
                                                case measure => have := HK1.out; have := HK2.out; have := HK3.out; have := HK4.out; have := HK5.out; omega
                                                case rel => exact ⟨(y444), (wrap64 (x41_3 + 1)), (by first | rfl | (simp; done) | (simp [*]; done)), H', ⟨by have := HK1.out; have := HK2.out; have := HK3.out; have := HK4.out; have := HK5.out; omega⟩, ⟨by (try simp only [hl3_1]); (try simp only [hl9_4]); (with_reducible repeat (first | apply Kd.N_alloc | apply Kd.N_drewN | apply Kd.N_drew)); exact HO446.out⟩, ⟨by (try simp only [hl3_1]); (try simp only [hl9_4]); (with_reducible repeat (first | apply ZR_alloc | apply ZR_drewN | apply ZR_drew)); exact HO_39.out⟩, ⟨by (try simp only [hl3_1]); (try simp only [hl9_4]); (with_reducible repeat (first | refine blk_drewN ?_ _ | refine blk_drew ?_ | refine blk_alloc ?_ _)); exact BK425.out⟩, ⟨by repeat (first | (with_reducible first | exact HB.out | apply below_alloc | apply pw_below_drewN | apply below_drew1 | refine below_set ?_ GE425.out) | exact HB.out)⟩⟩
                                              · rw [if_neg c58] at H
                                                exact absurd H (by simp)
                              · rw [if_neg c28] at H
                                exact absurd H (by simp)
                            · rw [if_neg c27] at H
                              exact absurd H (by simp)
                          · rw [if_neg c25] at H
                            exact absurd H (by simp)
                        · rw [if_neg c24] at H
                          exact absurd H (by simp)
                      · rw [if_neg c23] at H
                        have c23b0 : decide (x41_3 < (y433.length : Int)) = false := decide_eq_false c23
                        (try simp only [hl3_1] at c23b0)
                        clear c23
                        have H' := Aside0.mk H
                        clear H
                        go_wp2
                        go_roundg k3
                        case measure => have := HK1.out; have := HK2.out; have := HK3.out; omega
                        case rel => exact ⟨(x5_3), (wrap64 (x6_2 + 1)), (by first | rfl | (simp; done) | (simp [*]; done)), H', ⟨by have := HK1.out; have := HK2.out; have := HK3.out; omega⟩, ⟨by (try simp only [hl3_1]); (with_reducible repeat (first | apply Kd.N_alloc | apply Kd.N_drewN | apply Kd.N_drew)); exact Kd.N_mono HO_5.out (fun _ hk => hk.2)⟩, ⟨by (try simp only [hl3_1]); (with_reducible repeat (first | refine blk_drewN ?_ _ | refine blk_drew ?_ | refine blk_alloc ?_ _)); exact BK425.out⟩, ⟨by repeat (first | (with_reducible first | exact HB.out | apply below_alloc | apply pw_below_drewN | apply below_drew1 | refine below_set ?_ GE425.out) | exact HB.out)⟩⟩
                · rw [if_neg c18] at H
                  have c18b0 : decide (x6_2 < (x5_2.length : Int)) = false := decide_eq_false c18
                  (try simp only [hl3_1] at c18b0)
                  clear c18
                  obtain rfl := Option.some.inj H
                  obtain ⟨Ao60, co60, eo60⟩ := Kd.N_slice HO_5.out
                  subst eo60
                  go_wp2
                  go_ret
                  exact ⟨by first | rfl | (simp [errW_none, errW_some] <;> rfl) | (simp only [← hji2]; first | rfl | (simp [errW_none, errW_some] <;> rfl)) | (simp [*, errW_none, errW_some] <;> rfl), by repeat (first | (with_reducible first | exact HB.out | apply below_alloc | apply pw_below_drewN | apply below_drew1 | refine below_set ?_ GE425.out) | exact HB.out)⟩
    · rw [if_neg c4] at H
      exact absurd H (by simp)
  · rw [if_neg c3] at H
    exact absurd H (by simp)

end Go.Proofs.YtpaeobpmkdekfaaDoor.P
end
