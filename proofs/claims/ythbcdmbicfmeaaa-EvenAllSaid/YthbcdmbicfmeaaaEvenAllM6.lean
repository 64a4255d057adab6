/- Texts that the proof of EvenAll needs, put together in build order by this session's program (wip/tools/claimtrim.py). -/
import Derived.Test.YthbcdmbicfmeaaaEvenAllM5
import Derived.RangeFuncRecord
section
namespace Go.Proofs.Ythbcdmbicfmeaaa.P
open Go.RowKit Go.Proofs.YthbcdmbicfmeaaaW.PrintWords Go.Proofs.YthbcdmbicfmeaaaW.PrintLast Go.Proofs.YthbcdmbicfmeaaaW.PrintMore
set_option linter.unusedVariables false
set_option linter.unusedSimpArgs false
section
abbrev G : Kd (List Int) := Kd.slice 3 (Kd.int .i64)
set_option maxHeartbeats 1000000 in
theorem grow_rows (n : Nat) (hn : n ≤ 1000000) (w0 w : World) : Calls Try.prog 62 #[.slice none 0 0, .int .i64 n] w fun e w' => ∃ v, e = .returned v ∧ Kd.R (Kd.fixed G w0) 54 w' w.heap.size (fun _ => True) v [] ∧ Below w.heap.size w w' := by
  have info54 : (Try.prog.info? 54).map (fun i => (i.zero, i.size, i.bytes)) = some (some (.slice none 0 0), 1, 24) := by kernel_rfl
  have HB := Aside0.mk (Below.refl w.heap.size w)
  have HR := Aside0.mk (Kd.R_nil (Kd.fixed G w0) 54 w w.heap.size (fun _ => True))
  by_cases h0 : 0 < n
  · have h1 : (0 : Int) < (n : Int) := by omega
    have h2 : ¬ (n : Int) < 0 := by omega
    go_enter Try.func62, Try.ntmps62
    go_wp2_with (at_builtin; go_loud (refine Kd.R_append_zeros (Kd.fixed G w0) (w0 := w) w.heap.size rfl (.tmp 20) (.tmp 21) 53 3 54 (.slice none 0 0) 24 rfl Try.underlying53 Try.underlying3 info54 rfl Nat.one_pos (by omega) (.slice none 0 0) [] [] (n : Int) (fun _ => True) rfl rfl ⟨none, 0, rfl, Nat.le_refl _, Kd.C_nil _ _⟩ (fun _ _ => trivial) HR.out (by omega) HB.out (Nat.le_refl _) (by simp; omega) ?_); intro v1 w1 hR1 hb1 hg1 hat1; obtain ⟨A, c, hv, hlc, hC1⟩ := Kd.R_reads hR1; obtain ⟨m, hm⟩ : ∃ m, m = ([] ++ List.replicate (n : Int).toNat ([] : List Int)).length := ⟨_, rfl⟩; rw [← hm] at hv hlc; subst hv; have hR2 := Aside0.mk (Kd.R_take hR1 (m := 0) (Nat.zero_le _)); have hb2 := Aside0.mk hb1; clear hR1 hb1 hg1 hat1 hC1 hm)
    go_ret
    exact ⟨_, rfl, hR2.out, hb2.out⟩
  · obtain rfl : n = 0 := by omega
    go_enter Try.func62, Try.ntmps62
    go_wp2_with fail
    go_ret
    exact ⟨_, rfl, HR.out, HB.out⟩
set_option maxHeartbeats 1000000 in
theorem grow_ints (n : Nat) (hn : n ≤ 1000000) (w0 w : World) : Calls Try.prog 63 #[.slice none 0 0, .int .i64 n] w fun e w' => ∃ v, e = .returned v ∧ Kd.R (Kd.fixed (Kd.int .i64) w0) 3 w' w.heap.size (fun _ => True) v [] ∧ Below w.heap.size w w' := by
  have HB := Aside0.mk (Below.refl w.heap.size w)
  have HR := Aside0.mk (Kd.R_nil (Kd.fixed (Kd.int .i64) w0) 3 w w.heap.size (fun _ => True))
  by_cases h0 : 0 < n
  · have h1 : (0 : Int) < (n : Int) := by omega
    have h2 : ¬ (n : Int) < 0 := by omega
    go_enter Try.func63, Try.ntmps63
    go_wp2_with (at_builtin; go_loud (refine Kd.R_append_zeros (Kd.fixed (Kd.int .i64) w0) (w0 := w) w.heap.size rfl (.tmp 20) (.tmp 21) 54 3 3 (.int .i64 0) 8 rfl Try.underlying54 Try.underlying3 info3 rfl Nat.one_pos (by omega) (.slice none 0 0) [] 0 (n : Int) (fun _ => True) rfl rfl (by exact rfl) (fun _ _ => trivial) HR.out (by omega) HB.out (Nat.le_refl _) (by simp; omega) ?_); intro v1 w1 hR1 hb1 hg1 hat1; obtain ⟨A, c, hv, hlc, hC1⟩ := Kd.R_reads hR1; obtain ⟨m, hm⟩ : ∃ m, m = ([] ++ List.replicate (n : Int).toNat (0 : Int)).length := ⟨_, rfl⟩; rw [← hm] at hv hlc; subst hv; have hR2 := Aside0.mk (Kd.R_take hR1 (m := 0) (Nat.zero_le _)); have hb2 := Aside0.mk hb1; clear hR1 hb1 hg1 hat1 hC1 hm)
    go_ret
    exact ⟨_, rfl, hR2.out, hb2.out⟩
  · obtain rfl : n = 0 := by omega
    go_enter Try.func63, Try.ntmps63
    go_wp2_with fail
    go_ret
    exact ⟨_, rfl, HR.out, HB.out⟩
/-- A row that is made: read by whoever comes, and in no elder block. -/
def Row {α : Type} (d : Kd α) (w : World) (base : Nat) (v : Value) (xs : List α) : Prop := ∃ A c, v = .slice A xs.length c ∧ xs.length ≤ c ∧ d.C w A xs.length xs ∧ ∀ ad, A = some ad → base ≤ ad.block
theorem C_fixed {α : Type} {d : Kd α} {w w' : World} {A : Option Addr} {n : Nat} {xs : List α} (h : (Kd.fixed d w).C w' A n xs) (hb : Below w.heap.size w w') : d.C w' A n xs := by
  unfold Kd.C at h ⊢
  exact ReadsRow.imp_ h (Below.refl _ _) (fun _ _ hp => d.K_below hb hp)
set_option maxHeartbeats 4000000 in
set_option maxRecDepth 100000 in
theorem concat_rows (A1 A2 : Option Addr) (c1 c2 : Nat) (xs ys : List (List Int)) (h1 : xs.length ≤ 1000) (h2 : ys.length ≤ 1000) (w : World) (B : Nat) (hblk : w.heap[B]? = some (.cells #[.slice A1 xs.length c1, .slice A2 ys.length c2] 53 (0, 0))) (hx : G.C w A1 xs.length xs) (hy : G.C w A2 ys.length ys) :
    Calls Try.prog 49 #[.slice (some ⟨B, 0, none⟩) 2 2] w fun e w' => ∃ v, e = .returned v ∧ Row G w' w.heap.size v (xs ++ ys) ∧ Below w.heap.size w w' := by
  have info54 : (Try.prog.info? 54).map (fun i => (i.zero, i.size, i.bytes)) = some (some (.slice none 0 0), 1, 24) := by kernel_rfl
  obtain ⟨n1, hn1⟩ : ∃ n, n = xs.length := ⟨_, rfl⟩
  obtain ⟨n2, hn2⟩ : ∃ n, n = ys.length := ⟨_, rfl⟩
  rw [← hn1, ← hn2] at hblk
  rw [← hn1] at h1
  rw [← hn2] at h2
  have q0 : w.cell? ⟨B, 0, none⟩ = some (.slice A1 n1 c1) := (blk_cell hblk 0).trans rfl
  have q1 : w.cell? ⟨B, 1, none⟩ = some (.slice A2 n2 c2) := (blk_cell hblk 1).trans rfl
  have HX := Aside0.mk hx
  have HY := Aside0.mk hy
  have HN1 := Aside0.mk hn1
  have HN2 := Aside0.mk hn2
  clear hx hy hn1 hn2 hblk
  go_enter Try.func49, Try.ntmps49
  go_wp2_with fail
  go_loopg [3, 11] 2 (fun gk v c wr => ∃ i : Nat, gk + i = 2 ∧ wr = w ∧ c = .int .i64 (i : Int) ∧ ((i = 0 ∧ v = .int .i64 0) ∨ (i = 1 ∧ v = .int .i64 (n1 : Int)) ∨ (i = 2 ∧ v = .int .i64 (((n1 + n2 : Nat)) : Int))))
  case atStart => exact ⟨0, rfl, rfl, rfl, .inl ⟨rfl, rfl⟩⟩
  case round =>
    obtain ⟨i, hgi, rfl, rfl, hcase⟩ := hrel
    rcases hcase with ⟨rfl, rfl⟩ | ⟨rfl, rfl⟩ | ⟨rfl, rfl⟩
    · go_wp2_with fail
      go_roundg 1
      case measure => omega
      case rel => exact ⟨1, rfl, rfl, by go_num, .inr (.inl ⟨rfl, by go_num⟩)⟩
    · go_wp2_with fail
      go_roundg 0
      case measure => omega
      case rel => exact ⟨2, rfl, rfl, by go_num, .inr (.inr ⟨rfl, by go_num⟩)⟩
    · have hsz : n1 + n2 ≤ 1000000 := by omega
      have hsz0 : (0 : Int) ≤ (((n1 + n2 : Nat)) : Int) := by omega
      have hsz1 : ¬ (((n1 + n2 : Nat)) : Int) < 0 := by omega
      go_wp2_with (go_at_call 62; refine (grow_rows (n1 + n2) hsz wr _).mono ?_; rintro e w2 ⟨v2, rfl, hR, hb⟩)
      have HQ0 := Aside0.mk q0
      have HQ1 := Aside0.mk q1
      have HR := Aside0.mk hR
      have HB := Aside0.mk hb
      clear hR hb q0 q1
      obtain ⟨w1, hw1⟩ : ∃ w1 : World, w1 = wr := ⟨_, rfl⟩
      subst hw1
      go_loopg [6, 27] 2 (fun gk v c w3 => ∃ i : Nat, gk + i = 2 ∧ c = .int .i64 (i : Int) ∧ Aside0 (Kd.R (Kd.fixed G w1) 54 w3 w1.heap.size (fun _ => True) v ((([xs, ys].take i)).flatten)) ∧ Aside0 (Below w1.heap.size w1 w3))
      case atStart => exact ⟨0, rfl, rfl, HR, HB⟩
      case round =>
        clear HR HB
        obtain ⟨i, hgi, rfl, HR, HB⟩ := hrel
        have hq0 := (HB.out.cell (World.block_lt_of_cell? _ _ HQ0.out)).trans HQ0.out
        have hq1 := (HB.out.cell (World.block_lt_of_cell? _ _ HQ1.out)).trans HQ1.out
        have hi : i = 0 ∨ i = 1 ∨ i = 2 := by omega
        rcases hi with rfl | rfl | rfl
        · have hrd := ReadsRow.imp_ HX.out HB.out (fun _ _ hp => hp)
          rw [← HN1.out] at hrd
          have HRd := Aside0.mk hrd
          clear hrd
          obtain ⟨Av, cv, hv, hlv, _⟩ := Kd.R_reads HR.out
          have hv0 : (([xs, ys].take 0).flatten).length = 0 := rfl
          rw [hv0] at hv hlv
          have HV0 := Aside0.mk hv0
          clear hv0
          subst hv
          go_wp2_with (at_builtin; go_loud (refine Kd.R_append_rows (Kd.fixed G w1) (Rr := G.K w1) (w0 := w1) w1.heap.size rfl (.tmp 31) (.tmp 32) 53 54 (.slice none 0 0) 24 rfl Try.underlying53 info54 rfl Nat.one_pos (by omega) (.slice Av 0 cv) ([xs, ys].take 0).flatten xs A1 n1 c1 (fun _ => True) (fun _ => False) rfl rfl HR.out HRd.out (fun _ _ h => h) (fun _ hk => hk.elim) (fun _ _ => trivial) HB.out HB.out.size (by rw [HV0.out]; omega) ?_); intro v7 w7 hq7 hb7 hg7 hat7; have HR7 := Aside0.mk hq7; have HB7 := Aside0.mk hb7; clear hq7 hb7 hg7 hat7)
          go_roundg 1
          case measure => omega
          case rel =>
            refine ⟨1, by omega, by go_num, ⟨?_⟩, HB7⟩
            have := HR7.out
            simpa using this
        · have hrd := ReadsRow.imp_ HY.out HB.out (fun _ _ hp => hp)
          rw [← HN2.out] at hrd
          have HRd := Aside0.mk hrd
          clear hrd
          obtain ⟨Av, cv, hv, hlv, _⟩ := Kd.R_reads HR.out
          have hv0 : (([xs, ys].take 1).flatten).length = n1 := by rw [HN1.out]; simp
          rw [hv0] at hv hlv
          have HV0 := Aside0.mk hv0
          clear hv0
          subst hv
          go_wp2_with (at_builtin; go_loud (refine Kd.R_append_rows (Kd.fixed G w1) (Rr := G.K w1) (w0 := w1) w1.heap.size rfl (.tmp 31) (.tmp 32) 53 54 (.slice none 0 0) 24 rfl Try.underlying53 info54 rfl Nat.one_pos (by omega) (.slice Av n1 cv) ([xs, ys].take 1).flatten ys A2 n2 c2 (fun _ => True) (fun _ => False) rfl rfl HR.out HRd.out (fun _ _ h => h) (fun _ hk => hk.elim) (fun _ _ => trivial) HB.out HB.out.size (by rw [HV0.out]; omega) ?_); intro v7 w7 hq7 hb7 hg7 hat7; have HR7 := Aside0.mk hq7; have HB7 := Aside0.mk hb7; clear hq7 hb7 hg7 hat7)
          go_roundg 0
          case measure => omega
          case rel =>
            refine ⟨2, by omega, by go_num, ⟨?_⟩, HB7⟩
            have := HR7.out
            simpa using this
        · go_wp2_with fail
          go_ret
          obtain ⟨Av, cv, hv, hlv, hCv⟩ := Kd.R_reads HR.out
          have e2 : (([xs, ys].take 2).flatten) = xs ++ ys := by simp
          have hbs := Kd.R_base HR.out
          rw [e2] at hv hlv hCv
          subst hv
          exact ⟨_, rfl, ⟨Av, cv, rfl, hlv, C_fixed hCv HB.out, fun ad had => hbs ad.block (by rw [had]; rfl)⟩, HB.out⟩
set_option maxHeartbeats 4000000 in
set_option maxRecDepth 100000 in
theorem concat_ints (A1 A2 : Option Addr) (c1 c2 : Nat) (xs ys : List Int) (h1 : xs.length ≤ 1000) (h2 : ys.length ≤ 1000) (w : World) (B : Nat) (hblk : w.heap[B]? = some (.cells #[.slice A1 xs.length c1, .slice A2 ys.length c2] 54 (0, 0))) (hx : (Kd.int .i64).C w A1 xs.length xs) (hy : (Kd.int .i64).C w A2 ys.length ys) :
    Calls Try.prog 50 #[.slice (some ⟨B, 0, none⟩) 2 2] w fun e w' => ∃ v, e = .returned v ∧ Row (Kd.int .i64) w' w.heap.size v (xs ++ ys) ∧ Below w.heap.size w w' := by
  obtain ⟨n1, hn1⟩ : ∃ n, n = xs.length := ⟨_, rfl⟩
  obtain ⟨n2, hn2⟩ : ∃ n, n = ys.length := ⟨_, rfl⟩
  rw [← hn1, ← hn2] at hblk
  rw [← hn1] at h1
  rw [← hn2] at h2
  have q0 : w.cell? ⟨B, 0, none⟩ = some (.slice A1 n1 c1) := (blk_cell hblk 0).trans rfl
  have q1 : w.cell? ⟨B, 1, none⟩ = some (.slice A2 n2 c2) := (blk_cell hblk 1).trans rfl
  have HX := Aside0.mk hx
  have HY := Aside0.mk hy
  have HN1 := Aside0.mk hn1
  have HN2 := Aside0.mk hn2
  clear hx hy hn1 hn2 hblk
  go_enter Try.func50, Try.ntmps50
  go_wp2_with fail
  go_loopg [3, 11] 2 (fun gk v c wr => ∃ i : Nat, gk + i = 2 ∧ wr = w ∧ c = .int .i64 (i : Int) ∧ ((i = 0 ∧ v = .int .i64 0) ∨ (i = 1 ∧ v = .int .i64 (n1 : Int)) ∨ (i = 2 ∧ v = .int .i64 (((n1 + n2 : Nat)) : Int))))
  case atStart => exact ⟨0, rfl, rfl, rfl, .inl ⟨rfl, rfl⟩⟩
  case round =>
    obtain ⟨i, hgi, rfl, rfl, hcase⟩ := hrel
    rcases hcase with ⟨rfl, rfl⟩ | ⟨rfl, rfl⟩ | ⟨rfl, rfl⟩
    · go_wp2_with fail
      go_roundg 1
      case measure => omega
      case rel => exact ⟨1, rfl, rfl, by go_num, .inr (.inl ⟨rfl, by go_num⟩)⟩
    · go_wp2_with fail
      go_roundg 0
      case measure => omega
      case rel => exact ⟨2, rfl, rfl, by go_num, .inr (.inr ⟨rfl, by go_num⟩)⟩
    · have hsz : n1 + n2 ≤ 1000000 := by omega
      have hsz0 : (0 : Int) ≤ (((n1 + n2 : Nat)) : Int) := by omega
      have hsz1 : ¬ (((n1 + n2 : Nat)) : Int) < 0 := by omega
      go_wp2_with (go_at_call 63; refine (grow_ints (n1 + n2) hsz wr _).mono ?_; rintro e w2 ⟨v2, rfl, hR, hb⟩)
      have HQ0 := Aside0.mk q0
      have HQ1 := Aside0.mk q1
      have HR := Aside0.mk hR
      have HB := Aside0.mk hb
      clear hR hb q0 q1
      obtain ⟨w1, hw1⟩ : ∃ w1 : World, w1 = wr := ⟨_, rfl⟩
      subst hw1
      go_loopg [6, 27] 2 (fun gk v c w3 => ∃ i : Nat, gk + i = 2 ∧ c = .int .i64 (i : Int) ∧ Aside0 (Kd.R (Kd.fixed (Kd.int .i64) w1) 3 w3 w1.heap.size (fun _ => True) v ((([xs, ys].take i)).flatten)) ∧ Aside0 (Below w1.heap.size w1 w3))
      case atStart => exact ⟨0, rfl, rfl, HR, HB⟩
      case round =>
        clear HR HB
        obtain ⟨i, hgi, rfl, HR, HB⟩ := hrel
        have hq0 := (HB.out.cell (World.block_lt_of_cell? _ _ HQ0.out)).trans HQ0.out
        have hq1 := (HB.out.cell (World.block_lt_of_cell? _ _ HQ1.out)).trans HQ1.out
        have hi : i = 0 ∨ i = 1 ∨ i = 2 := by omega
        rcases hi with rfl | rfl | rfl
        · have hrd := ReadsRow.imp_ HX.out HB.out (fun _ _ hp => hp)
          rw [← HN1.out] at hrd
          have HRd := Aside0.mk hrd
          clear hrd
          obtain ⟨Av, cv, hv, hlv, _⟩ := Kd.R_reads HR.out
          have hv0 : (([xs, ys].take 0).flatten).length = 0 := rfl
          rw [hv0] at hv hlv
          have HV0 := Aside0.mk hv0
          clear hv0
          subst hv
          go_wp2_with (at_builtin; go_loud (refine Kd.R_append_rows (Kd.fixed (Kd.int .i64) w1) (Rr := (Kd.int .i64).K w1) (w0 := w1) w1.heap.size rfl (.tmp 31) (.tmp 32) 54 3 (.int .i64 0) 8 rfl Try.underlying54 info3 rfl Nat.one_pos (by omega) (.slice Av 0 cv) ([xs, ys].take 0).flatten xs A1 n1 c1 (fun _ => True) (fun _ => False) rfl rfl HR.out HRd.out (fun _ _ h => h) (fun _ hk => hk.elim) (fun _ _ => trivial) HB.out HB.out.size (by rw [HV0.out]; omega) ?_); intro v7 w7 hq7 hb7 hg7 hat7; have HR7 := Aside0.mk hq7; have HB7 := Aside0.mk hb7; clear hq7 hb7 hg7 hat7)
          go_roundg 1
          case measure => omega
          case rel =>
            refine ⟨1, by omega, by go_num, ⟨?_⟩, HB7⟩
            have := HR7.out
            simpa using this
        · have hrd := ReadsRow.imp_ HY.out HB.out (fun _ _ hp => hp)
          rw [← HN2.out] at hrd
          have HRd := Aside0.mk hrd
          clear hrd
          obtain ⟨Av, cv, hv, hlv, _⟩ := Kd.R_reads HR.out
          have hv0 : (([xs, ys].take 1).flatten).length = n1 := by rw [HN1.out]; simp
          rw [hv0] at hv hlv
          have HV0 := Aside0.mk hv0
          clear hv0
          subst hv
          go_wp2_with (at_builtin; go_loud (refine Kd.R_append_rows (Kd.fixed (Kd.int .i64) w1) (Rr := (Kd.int .i64).K w1) (w0 := w1) w1.heap.size rfl (.tmp 31) (.tmp 32) 54 3 (.int .i64 0) 8 rfl Try.underlying54 info3 rfl Nat.one_pos (by omega) (.slice Av n1 cv) ([xs, ys].take 1).flatten ys A2 n2 c2 (fun _ => True) (fun _ => False) rfl rfl HR.out HRd.out (fun _ _ h => h) (fun _ hk => hk.elim) (fun _ _ => trivial) HB.out HB.out.size (by rw [HV0.out]; omega) ?_); intro v7 w7 hq7 hb7 hg7 hat7; have HR7 := Aside0.mk hq7; have HB7 := Aside0.mk hb7; clear hq7 hb7 hg7 hat7)
          go_roundg 0
          case measure => omega
          case rel =>
            refine ⟨2, by omega, by go_num, ⟨?_⟩, HB7⟩
            have := HR7.out
            simpa using this
        · go_wp2_with fail
          go_ret
          obtain ⟨Av, cv, hv, hlv, hCv⟩ := Kd.R_reads HR.out
          have e2 : (([xs, ys].take 2).flatten) = xs ++ ys := by simp
          have hbs := Kd.R_base HR.out
          rw [e2] at hv hlv hCv
          subst hv
          exact ⟨_, rfl, ⟨Av, cv, rfl, hlv, C_fixed hCv HB.out, fun ad had => hbs ad.block (by rw [had]; rfl)⟩, HB.out⟩
end
end Go.Proofs.Ythbcdmbicfmeaaa.P
end

section
namespace Go.Proofs.Ythbcdmbicfmeaaa.P
open Go.RowKit Go.Proofs.YthbcdmbicfmeaaaW.PrintWords Go.Proofs.YthbcdmbicfmeaaaW.PrintLast Go.Proofs.YthbcdmbicfmeaaaW.PrintMore
set_option linter.unusedVariables false
theorem add_block (a : Addr) (j : Nat) : (a.add j).block = a.block := by
  unfold Addr.add
  split <;> rfl
theorem add_nil (g i : Nat) : Addr.add ⟨g, 0, none⟩ i = ⟨g, i, none⟩ := by
  unfold Addr.add
  split
  · rename_i h; rw [h]
  · simp
theorem int_set {W : World} {g i : Nat} {u q : Value} {A : Option Addr} {n : Nat} {xs : List Int} (hq : W.cell? ⟨g, i, none⟩ = some q) (hq' : ∀ z, q ≠ .int .i64 z) (h : (Kd.int .i64).C W A n xs) : (Kd.int .i64).C (W.setCell ⟨g, i, none⟩ u) A n xs := by
  obtain ⟨h1, h2, h3⟩ := h
  refine ⟨h1, h2, fun hn => ?_⟩
  obtain ⟨ad, e, hc⟩ := h3 hn
  refine ⟨ad, e, fun j p hj => ?_⟩
  obtain ⟨c, hl, hr, hcell⟩ := hc j p hj
  refine ⟨c, hl, hr, fun t v ht => ?_⟩
  have hv := hcell t v ht
  have hr' : c = [.int .i64 p] := hr
  have hvi : v = .int .i64 p := by
    rw [hr'] at ht
    cases t with
    | zero => simpa using ht.symm
    | succ t => simp at ht
  rw [World.cell?_setCell_other, hv]
  intro e2
  rw [← e2, hq] at hv
  injection hv with hv
  exact hq' p (hv.trans hvi)
theorem G_set_other {W : World} {g i : Nat} {u q : Value} {A : Option Addr} {n : Nat} {ss : List (List Int)} (hq : W.cell? ⟨g, i, none⟩ = some q) (hq' : ∀ z, q ≠ .int .i64 z) (hne : ∀ ad, A = some ad → ad.block ≠ g) (h : G.C W A n ss) : G.C (W.setCell ⟨g, i, none⟩ u) A n ss := by
  obtain ⟨h1, h2, h3⟩ := h
  refine ⟨h1, h2, fun hn => ?_⟩
  obtain ⟨ad, e, hc⟩ := h3 hn
  refine ⟨ad, e, fun j p hj => ?_⟩
  obtain ⟨c, hl, ⟨A', c', e', hl', hC⟩, hcell⟩ := hc j p hj
  refine ⟨c, hl, ⟨A', c', e', hl', int_set hq hq' hC⟩, fun t v ht => ?_⟩
  rw [World.cell?_setCell_other, hcell t v ht]
  intro e2
  have := congrArg Addr.block e2
  rw [add_block] at this
  exact hne ad e this.symm
theorem G_set_at {W : World} {g i a : Nat} {fs : List (List Int)} (hi : i < a) (h : G.C W (some ⟨g, 0, none⟩) a fs) {Az : Option Addr} {cz : Nat} {z : List Int} (hz : (Kd.int .i64).C W Az z.length z) (hcz : z.length ≤ cz) : G.C (W.setCell ⟨g, i, none⟩ (.slice Az z.length cz)) (some ⟨g, 0, none⟩) a (fs.set i z) := by
  obtain ⟨h1, h2, h3⟩ := h
  obtain ⟨ad, e, hc⟩ := h3 (by omega)
  injection e with e
  subst e
  -- the cell that is written
  obtain ⟨ci, hli, ⟨Ai, ci', ei, _, _⟩, hcelli⟩ := hc i _ (List.getElem?_eq_getElem (show i < fs.length by omega))
  have hq : W.cell? ⟨g, i, none⟩ = some (.slice Ai (fs[i]'(by omega)).length ci') := by
    have := hcelli 0 (.slice Ai (fs[i]'(by omega)).length ci') (by rw [ei]; rfl)
    rw [add_nil] at this
    simpa [show G.sz = 1 from rfl] using this
  have hq' : ∀ z0, (Value.slice Ai (fs[i]'(by omega)).length ci') ≠ .int .i64 z0 := fun z0 e => by cases e
  refine ⟨by rw [List.length_set]; exact h1, h2, fun _ => ⟨_, rfl, fun j p hj => ?_⟩⟩
  by_cases hij : i = j
  · subst hij
    rw [List.getElem?_set_self (by omega)] at hj
    obtain rfl := Option.some.inj hj
    refine ⟨[.slice Az z.length cz], rfl, ⟨Az, cz, rfl, hcz, int_set hq hq' hz⟩, fun t v ht => ?_⟩
    cases t with
    | zero =>
      obtain rfl : Value.slice Az z.length cz = v := by simpa using ht
      rw [add_nil]
      have e1 : i * G.sz + 0 = i := by rw [show G.sz = 1 from rfl]; omega
      rw [e1]
      exact World.cell?_setCell_same' W _ _ (by rw [hq]; rfl)
    | succ t => simp at ht
  · rw [List.getElem?_set_ne hij] at hj
    obtain ⟨c, hl, ⟨A', c', e', hl', hC⟩, hcell⟩ := hc j p hj
    refine ⟨c, hl, ⟨A', c', e', hl', int_set hq hq' hC⟩, fun t v ht => ?_⟩
    have h0 := hcell t v ht
    rw [World.cell?_setCell_other, h0]
    intro e2
    rw [add_nil] at e2
    have e3 := congrArg Addr.off e2
    simp only at e3
    have ht1 : t < c.length := by
      have := List.getElem?_eq_some_iff.1 ht
      exact this.1
    have hsz : G.sz = 1 := rfl
    rw [hl, hsz] at ht1
    rw [hsz] at e3
    omega
/-- A cell of a row of rows. -/
theorem G_cell {W : World} {A : Option Addr} {n : Nat} {ss : List (List Int)} (h : G.C W A n ss) (i : Nat) (hi : i < n) : ∃ ad A' c', A = some ad ∧ W.cell? (ad.add i) = some (.slice A' (ss.getD i []).length c') ∧ (ss.getD i []).length ≤ c' ∧ (Kd.int .i64).C W A' (ss.getD i []).length (ss.getD i []) := by
  obtain ⟨ad, c, e, hl, ⟨A', c', e', hl', hC⟩, hcell⟩ := Kd.C_get h ([] : List Int) (i : Int) (by omega) (by omega)
  rw [Int.toNat_natCast] at e' hl' hC hcell
  refine ⟨ad, A', c', e, ?_, hl', hC⟩
  have := hcell 0 _ (by rw [e']; rfl)
  simpa [show G.sz = 1 from rfl] using this
/-- A row of rows from m on. -/
theorem cut_rows (A : Option Addr) (n c m : Nat) (hm : m ≤ n) (hn : n ≤ c) : ∃ A', (∀ W : World, (Instr.slice 53 (.slice A n c) (some (.int .i64 (m : Int))) none none).run Try.prog W = .ok (.slice A' (n - m) (c - m)) W) ∧ ∀ (w : World) (xs : List (List Int)), G.C w A n xs → G.C w A' (n - m) (xs.drop m) := by
  have hi : ∃ i, Try.prog.info? 54 = some i ∧ i.size = 1 := by
    have info54 : (Try.prog.info? 54).map (fun i => (i.zero, i.size, i.bytes)) = some (some (.slice none 0 0), 1, 24) := by kernel_rfl
    obtain ⟨i, h1, h2⟩ := Option.map_eq_some_iff.1 info54
    simp only [Prod.mk.injEq] at h2
    exact ⟨i, h1, h2.2.1⟩
  obtain ⟨i, hi, hsz⟩ := hi
  refine ⟨if c = m then A else A.map (·.add m), fun W => ?_, fun w xs h => ?_⟩
  · have ht : Try.prog.underlying 53 = some (.slice 54) := Try.underlying53
    have hel : Try.prog.elem 53 = 54 := by simp [Program.elem, ht]
    have hu : Try.prog.underlying 53 = some (.slice (Try.prog.elem 53)) := by rw [hel]; exact ht
    rw [run_slice_l W 53 A n c hu .i64 (m : Int) (Int.natCast_nonneg _) (by omega), hel]
    simp [sizeOf, typeInfo, hi, hsz, sliced, Result.andThen]
  · have hl := h.1
    subst hl
    have := Kd.C_drop h (m := m) hm hn
    simpa [show G.sz = 1 from rfl] using this
/-- append([]int, a group...): the second slice's type is another one. -/
theorem append_named (ty : TypeId) (v x : Value) (W : World) : (Builtin.append_ #[32, 54] ty #[v, x]).run Try.prog W = (Builtin.append_ #[32, 32] ty #[v, x]).run Try.prog W := by
  obtain ⟨i0, hi, hzz⟩ := Option.map_eq_some_iff.1 info3
  unfold Builtin.append_
  cases v <;> simp [run_underlying Try.underlying32, run_underlying Try.underlying54, sizeOf, typeInfo, hi]
section
variable {ops : Array Oper} {rest : List Oper} {o : Oper} {a : Act} {Q : Exit → Act → World → Prop}
theorem R_append_group {w0 W : World} (base : Nat) (hgd : o.guard = none) (s x : Operand)
    (ho : o.op = .call { callee := .builtin .append, args := #[s, x], argTypes := #[32, 54] })
    (v : Value) (xs ys : List Int) (A : Option Addr) (m c : Nat) (ok : Nat → Prop) (hs : a.eval s = v) (hx : a.eval x = .slice A m c) (hfresh : ∀ k, W.heap.size ≤ k → ok k)
    (HO : (Kd.int .i64).R 3 W base ok v xs) (HR : (Kd.int .i64).C W A m ys) (HB : Below base w0 W) (hbase : base ≤ W.heap.size) (hl : (xs.length + m) * 8 ≤ 140737488355328)
    (h : ∀ v1 w1, (Kd.int .i64).R 3 w1 base ok v1 (xs ++ ys) → Below base w0 w1 → wpList Try.prog ops Q rest (a.put o.dst v1) w1) :
    wpList Try.prog ops Q (o :: rest) a W := by
  obtain ⟨i0, hi, hzz⟩ := Option.map_eq_some_iff.1 info3
  simp only [Prod.mk.injEq] at hzz
  obtain ⟨hz0, hz1, hz2⟩ := hzz
  have HO' : W.ownsRow base 3 1 v xs.length (encs (Value.int .i64) xs) := Kd.own_of_R HO
  have HR' : ReadsOf (Value.int .i64) (0 : Int) W A m ys := Kd.reads_of_C HR
  have hm : ys.length = m := HR'.1
  have hrun : ∃ v1 w1, (Builtin.append_ #[32, 32] o.type #[v, .slice A m c]).run Try.prog W = .ok v1 w1 ∧ w1.ownsRow base 3 1 v1 (xs ++ ys).length (encs (Value.int .i64) (xs ++ ys)) ∧ W.grownBy w1 v.ownBlock ∧ (v1.ownBlock = v.ownBlock ∨ v1.ownBlock = some W.heap.size) := by
    rcases A with _ | ad
    · have h0 : m = 0 := by
        rcases Nat.eq_zero_or_pos m with h0 | h0
        · exact h0
        · obtain ⟨ad, h, _⟩ := HR'.2.2 h0
          cases h
      subst h0
      obtain rfl : ys = [] := List.eq_nil_of_length_eq_zero hm
      refine ⟨v, W, ?_, by simpa using HO', World.grownBy.refl W _, .inl rfl⟩
      rcases HO'.2 with ⟨rfl, hn⟩ | ⟨g, cap, cur, rfl, _, _, hnc, _⟩
      · simp [Builtin.append_, run_underlying Try.underlying32, sizeOf, typeInfo, hi, Builtin.lenOf, Builtin.firstCells]
      · simp [Builtin.append_, run_underlying Try.underlying32, sizeOf, typeInfo, hi, Builtin.lenOf, Builtin.firstCells, hnc, storeCells]
    · have hcells : ∀ j u, (encs (Value.int .i64) ys)[j]? = some u → W.cell? (ad.add j) = some u := by
        intro j u hu
        have hj : j < ys.length := by
          rcases Nat.lt_or_ge j ys.length with h | h
          · exact h
          · simp [encs, List.getElem?_eq_none h] at hu
        obtain ⟨ad', h', hc⟩ := HR'.2.2 (by omega)
        injection h' with h'
        subst h'
        rw [encs_get (d := (0 : Int)) ys j hj] at hu
        rw [← hu]
        exact hc j (by omega)
      obtain ⟨v1, w1, hr, h2, h3, _, h5⟩ := run_append_own_at (P := Try.prog) W base 32 o.type 3 i0 (.int .i64 0) 1 8 Try.underlying32 hi hz0 hz1 hz2 rfl (by omega) v xs.length (encs (Value.int .i64) xs) HO' ad m c (encs (Value.int .i64) ys) (by simp [encs, hm]) hcells
        (by intro u hu; simp only [encs, List.mem_map] at hu; obtain ⟨q, _, rfl⟩ := hu; rfl) (by simp only [maxLen]; omega) hl hbase
      exact ⟨v1, w1, hr, by simpa [encs, hm] using h2, h3, h5⟩
  obtain ⟨v1, w1, hr, hown, h3, h5⟩ := hrun
  rw [← append_named] at hr
  refine wpList_plain hgd fun K hK => ?_
  unfold Oper.wp execOp
  simp only [ho, resolve, invoke, builtin, Sem.run_bind, Sem.run_pure, Result.andThen_ok, List.map_toArray, List.map_cons, List.map_nil, hs, hx, hr]
  refine hK _ _ (h v1 w1 (Kd.R_of_own hown (fun k hk => ?_)) (HB.grown h3 hbase (own_base HO')))
  rcases h5 with e1 | e1
  · exact HO.1 k (by rw [← e1]; exact hk)
  · rw [e1] at hk
    injection hk with hk
    subst hk
    exact hfresh _ (Nat.le_refl _)
end
end Go.Proofs.Ythbcdmbicfmeaaa.P
end
