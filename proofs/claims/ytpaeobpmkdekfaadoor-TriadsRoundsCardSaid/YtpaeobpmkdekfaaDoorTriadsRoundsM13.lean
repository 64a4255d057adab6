/- Texts that the proof of TriadsRounds needs, put together in build order by this session's program (wip/tools/claimtrim.py). -/
import Derived.Test.YtpaeobpmkdekfaaDoorTriadsRoundsM5
import Derived.Test.YtpaeobpmkdekfaaDoorTriadsRoundsM7
import Derived.Test.YtpaeobpmkdekfaaDoorTriadsRoundsM10
import Derived.Test.YtpaeobpmkdekfaaDoorTriadsRoundsM6
import Derived.Test.YtpaeobpmkdekfaaDoorTriadsRoundsM11
import Derived.Test.YtpaeobpmkdekfaaDoorTriadsRoundsM12
import Derived.Laws.RangeString
section
namespace Go.Proofs.YtpaeobpmkdekfaaDoor.P
open Go.RowKit Go.Proofs.YtpaeobpmkdekfaaDoorW.PrintWords Go.Proofs.YtpaeobpmkdekfaaDoorW.PrintLast Go.Proofs.YtpaeobpmkdekfaaDoorW.PrintMore
set_option linter.unusedVariables false
set_option linter.unusedSimpArgs false
section
open Go.Shelf Go.Proofs.YtpaeobpmkdekfaaDoor.MapLaws Go.Proofs.YtpaeobpmkdekfaaDoor.Base
/-- Steps of a round, each at most once. -/
def roundOk (s : List UInt8) : Bool := !s.isEmpty && (s.all stepByte && (decide (s.count 76 ≤ 1) && (decide (s.count 80 ≤ 1) && decide (s.count 82 ≤ 1))))
def triads_Round.f (a0_0 a0_1 a0_2 a1 : Int) (a2 : ByteArray) : Option (List Int × Int) := (triads_Kind_isTriad.f a0_0 a0_1 a0_2 [a1]).bind fun v => if v = true ∧ roundOk a2.data.toList = true then (if isKind a0_0 a0_1 a0_2 = true ∧ 0 ≤ a1 ∧ a1 < 2 * a0_0 ∧ a2.size ≤ 60 then some (Slices.sorted ((searchL a0_0 a0_1 a0_2 a2.data.toList a1).map (·.1)), 0) else none) else if a2.size ≤ 1000 then some ([], 2) else none
theorem sorted_of_perm {l l' : List Int} (h : l.Perm l') : Slices.sorted l = Slices.sorted l' := by
  unfold Slices.sorted
  have ht : ∀ a b c : Int, decide (a ≤ b) = true → decide (b ≤ c) = true → decide (a ≤ c) = true := by
    intro a b c h1 h2
    simp only [decide_eq_true_eq] at *
    omega
  have hc : ∀ a b : Int, (decide (a ≤ b) || decide (b ≤ a)) = true := by
    intro a b
    simp only [Bool.or_eq_true, decide_eq_true_eq]
    omega
  refine List.Perm.eq_of_pairwise (le := fun a b : Int => a ≤ b) (fun a b _ _ h1 h2 => by omega) ?_ ?_ (((List.mergeSort_perm l _).trans h).trans (List.mergeSort_perm l' _).symm)
  · exact (List.pairwise_mergeSort ht hc l).imp (fun h => of_decide_eq_true h)
  · exact (List.pairwise_mergeSort ht hc l').imp (fun h => of_decide_eq_true h)
set_option maxHeartbeats 4000000 in
set_option maxRecDepth 100000 in
theorem triads_Round.calls (a0_0 : Int) (a0_1 : Int) (a0_2 : Int) (a1 : Int) (a2 : ByteArray) (r1 : List Int) (r2 : Int) (w : World) (h : triads_Round.f a0_0 a0_1 a0_2 a1 a2 = some (r1, r2)) :
    Calls Tryd.prog 47 #[.agg #[.int .i64 a0_0, .int .i64 a0_1, .int .i64 a0_2], .int .i64 a1, .string a2] w fun e w' => ∃ v0_ : Value, e = .returned (.tuple #[v0_, .int .i64 r2]) ∧ Kd.R (Kd.int .i64) 3 w' w.heap.size (fun _ => True) v0_ r1 ∧ Below w.heap.size w w' := by
  obtain ⟨v, hv, h2⟩ := Option.bind_eq_some_iff.1 h
  have HV := Aside0.mk hv
  have H2 := Aside0.mk h2
  clear h h2 hv
  have HB0 := Aside0.mk (show Below w.heap.size w ((w.alloc (.cells #[.int .i64 a0_0, .int .i64 a0_1, .int .i64 a0_2] 27)).alloc (.cells #[.int .i64 a1] 3)) from ((Below.refl _ w).alloc (Nat.le_refl _) _).alloc (by simp) _)
  have HX0 := Aside0.mk (show ((w.alloc (.cells #[.int .i64 a0_0, .int .i64 a0_1, .int .i64 a0_2] 27)).alloc (.cells #[.int .i64 a1] 3)).heap[w.heap.size]? = some (.cells #[.int .i64 a0_0, .int .i64 a0_1, .int .i64 a0_2] 27 (0, 0)) from blk_alloc (World.alloc_heap_new w _) _)
  have hC0 := lit1_C (w.alloc (.cells #[.int .i64 a0_0, .int .i64 a0_1, .int .i64 a0_2] 27)) a1
  rw [World.size_alloc] at hC0
  have HC0 := Aside0.mk hC0
  have law := Maps.int_keyed (P := Tryd.prog) Tryd.underlying3
  clear hC0
  have hsz : a2.size ≤ 1000 := by
    have h2 := H2.out
    by_cases c1 : v = true ∧ roundOk a2.data.toList = true
    · rw [if_pos c1] at h2
      by_cases c2 : isKind a0_0 a0_1 a0_2 = true ∧ 0 ≤ a1 ∧ a1 < 2 * a0_0 ∧ a2.size ≤ 60
      · omega
      · rw [if_neg c2] at h2; cases h2
    · rw [if_neg c1] at h2
      by_cases c2 : a2.size ≤ 1000
      · exact c2
      · rw [if_neg c2] at h2; cases h2
  go_enter Tryd.func47, Tryd.ntmps47
  go_wp2_with fail
  refine (triads_Kind_isTriad.calls a0_0 a0_1 a0_2 _ 1 [a1] v _ HC0.out (by simp) HV.out).mono ?_
  rintro e W1 ⟨rfl, hb⟩
  have HB1 := Aside0.mk (HB0.out.trans (hb.mono HB0.out.size))
  have HX1 := Aside0.mk ((hb.block _ (blk_lt HX0.out)).trans HX0.out)
  clear hb
  have q0 : W1.cell? ⟨w.heap.size, 0, none⟩ = some (.int .i64 a0_0) := (blk_cell HX1.out 0).trans rfl
  have q1 : W1.cell? ⟨w.heap.size, 1, none⟩ = some (.int .i64 a0_1) := (blk_cell HX1.out 1).trans rfl
  have q2 : W1.cell? ⟨w.heap.size, 2, none⟩ = some (.int .i64 a0_2) := (blk_cell HX1.out 2).trans rfl
  cases v with
  | false =>
    have h3 := H2.out
    rw [if_neg (by simp), if_pos hsz] at h3
    obtain ⟨rfl, rfl⟩ : ([] : List Int) = r1 ∧ (2 : Int) = r2 := by simpa using h3
    clear h3
    go_wp2_with fail
    go_ret2
    exact ⟨_, rfl, Kd.R_nil _ _ _ _ _, HB1.out⟩
  | true =>
    by_cases he : a2.data.toList = []
    · have h3 := H2.out
      rw [if_neg (by rw [he]; simp [roundOk]), if_pos hsz] at h3
      obtain ⟨rfl, rfl⟩ : ([] : List Int) = r1 ∧ (2 : Int) = r2 := by simpa using h3
      have he2 : a2.toList.isEmpty = true := by rw [ByteArray.toList_eq, he]; rfl
      have he3 : a2.toList = [] := by rw [ByteArray.toList_eq, he]
      clear h3
      go_wp2_with fail
      go_ret2
      exact ⟨_, rfl, Kd.R_nil _ _ _ _ _, HB1.out⟩
    · have he2 : (!a2.toList.isEmpty) = true := by rw [ByteArray.toList_eq]; simpa using he
      have he3 : a2.toList.isEmpty = false := by rw [ByteArray.toList_eq]; simpa using he
      have hne : a2.data.toList.isEmpty = false := by simpa using he
      have HNe := Aside0.mk hne
      clear hne he
      go_wp2_with fail
      refine (Any.strings_Trim_laid Tryd.lays160 (by kernel_rfl) a2 ⟨#[80, 76, 82]⟩ W1 (by omega) (by decide) (ascii_of_all (by decide))).mono ?_
      rintro e W2 ⟨rfl, hb⟩
      have HB2 := Aside0.mk (HB1.out.trans (hb.mono HB1.out.size))
      have HX2 := Aside0.mk ((hb.block _ (blk_lt HX1.out)).trans HX1.out)
      clear hb q0 q1 q2
      have q0 : W2.cell? ⟨w.heap.size, 0, none⟩ = some (.int .i64 a0_0) := (blk_cell HX2.out 0).trans rfl
      have q1 : W2.cell? ⟨w.heap.size, 1, none⟩ = some (.int .i64 a0_1) := (blk_cell HX2.out 1).trans rfl
      have q2 : W2.cell? ⟨w.heap.size, 2, none⟩ = some (.int .i64 a0_2) := (blk_cell HX2.out 2).trans rfl
      by_cases htr : Lib.trimS a2.data.toList [80, 76, 82] = []
      case neg =>
        have htr2 : (!(Lib.trimS a2.data.toList [80, 76, 82]).isEmpty) = true := by simpa using htr
        have htr3 : (Lib.trimS a2.data.toList [80, 76, 82]).isEmpty = false := by simpa using htr
        have h3 := H2.out
        rw [if_neg (fun h => htr ((trim_empty _).2 (by have := h.2; unfold roundOk at this; simp only [Bool.and_eq_true] at this; exact this.2.1))), if_pos hsz] at h3
        obtain ⟨rfl, rfl⟩ : ([] : List Int) = r1 ∧ (2 : Int) = r2 := by simpa using h3
        clear h3 htr
        go_wp2_with fail
        go_ret2
        exact ⟨_, rfl, Kd.R_nil _ _ _ _ _, HB2.out⟩
      have htr3 : (Lib.trimS a2.data.toList [80, 76, 82]).isEmpty = true := by rw [htr]; rfl
      have hall := (trim_empty _).1 htr
      have HAll := Aside0.mk hall
      clear htr hall
      go_wp2_with fail
      go_loopg [9] 3 (fun gk v wr => ∃ i : Nat, gk + i = 3 ∧ wr = W2.iter ⟨#[76, 80, 82]⟩ i ∧ Aside0 ((1 ≤ i → List.count 76 a2.data.toList ≤ 1) ∧ (2 ≤ i → List.count 80 a2.data.toList ≤ 1) ∧ (3 ≤ i → List.count 82 a2.data.toList ≤ 1)))
      case atStart => exact ⟨0, rfl, rfl, ⟨by omega, by omega, by omega⟩⟩
      case round =>
        obtain ⟨i, hgi, rfl, hk⟩ := hrel
        have hi : i = 0 ∨ i = 1 ∨ i = 2 ∨ i = 3 := by omega
        rcases hi with hi0 | hi1 | hi2 | hi3
        · subst hi0
          have hn : ∀ ty, (Instr.next (.pointer (some ⟨W2.heap.size, 0, none⟩)) true ty).run Tryd.prog (W2.iter ⟨#[76, 80, 82]⟩ 0) = .ok (.tuple #[.bool true, .int .i64 0, .int .i32 76]) (W2.iter ⟨#[76, 80, 82]⟩ 1) := fun ty => run_next_ascii (P := Tryd.prog) W2 ⟨#[76, 80, 82]⟩ 0 ty (by decide) (by decide)
          have kc : ∀ W : World, (convert 21 9 (.int .i32 76)).run Tryd.prog W = .ok (.string ⟨#[76]⟩) W := fun W => (run_convert_int_string (P := Tryd.prog) W 21 9 .i32 76 rfl Tryd.underlying9).trans (by rfl)
          obtain ⟨n, hn2⟩ : ∃ n : Nat, n = Lib.countByte a2.data.toList 76 := ⟨_, rfl⟩
          have HN := Aside0.mk hn2
          by_cases hc : 1 < n
          · have hc2 : (1 : Int) < (n : Int) := by omega
            have h3 := H2.out
            rw [if_neg (fun h => by have h4 := h.2; unfold roundOk at h4; simp only [Bool.and_eq_true, decide_eq_true_eq] at h4; have h5 : n = List.count 76 a2.data.toList := hn2; omega), if_pos hsz] at h3
            obtain ⟨rfl, rfl⟩ : ([] : List Int) = r1 ∧ (2 : Int) = r2 := by simpa using h3
            clear h3 hn2
            go_wp2_with (go_at_call 74; refine (Tryd.strings_Count_one a2 76 _).mono ?_; rintro e w' ⟨rfl, rfl⟩; rw [← HN.out])
            go_ret2
            exact ⟨_, rfl, Kd.R_nil _ _ _ _ _, HB2.out.alloc HB2.out.size _⟩
          · have hc2 : ¬ (1 : Int) < (n : Int) := by omega
            have HN2 := Aside0.mk (show List.count 76 a2.data.toList ≤ 1 by have h5 : n = List.count 76 a2.data.toList := hn2; omega)
            clear hn2
            go_wp2_with (go_at_call 74; refine (Tryd.strings_Count_one a2 76 _).mono ?_; rintro e w' ⟨rfl, rfl⟩; rw [← HN.out])
            go_roundg 2
            case measure => omega
            case rel => exact ⟨1, by omega, rfl, ⟨⟨fun _ => HN2.out, fun h => by omega, fun h => by omega⟩⟩⟩
        · subst hi1
          have hn : ∀ ty, (Instr.next (.pointer (some ⟨W2.heap.size, 0, none⟩)) true ty).run Tryd.prog (W2.iter ⟨#[76, 80, 82]⟩ 1) = .ok (.tuple #[.bool true, .int .i64 1, .int .i32 80]) (W2.iter ⟨#[76, 80, 82]⟩ 2) := fun ty => run_next_ascii (P := Tryd.prog) W2 ⟨#[76, 80, 82]⟩ 1 ty (by decide) (by decide)
          have kc : ∀ W : World, (convert 21 9 (.int .i32 80)).run Tryd.prog W = .ok (.string ⟨#[80]⟩) W := fun W => (run_convert_int_string (P := Tryd.prog) W 21 9 .i32 80 rfl Tryd.underlying9).trans (by rfl)
          obtain ⟨n, hn2⟩ : ∃ n : Nat, n = Lib.countByte a2.data.toList 80 := ⟨_, rfl⟩
          have HN := Aside0.mk hn2
          by_cases hc : 1 < n
          · have hc2 : (1 : Int) < (n : Int) := by omega
            have h3 := H2.out
            rw [if_neg (fun h => by have h4 := h.2; unfold roundOk at h4; simp only [Bool.and_eq_true, decide_eq_true_eq] at h4; have h5 : n = List.count 80 a2.data.toList := hn2; omega), if_pos hsz] at h3
            obtain ⟨rfl, rfl⟩ : ([] : List Int) = r1 ∧ (2 : Int) = r2 := by simpa using h3
            clear h3 hn2
            go_wp2_with (go_at_call 74; refine (Tryd.strings_Count_one a2 80 _).mono ?_; rintro e w' ⟨rfl, rfl⟩; rw [← HN.out])
            go_ret2
            exact ⟨_, rfl, Kd.R_nil _ _ _ _ _, HB2.out.alloc HB2.out.size _⟩
          · have hc2 : ¬ (1 : Int) < (n : Int) := by omega
            have HN2 := Aside0.mk (show List.count 80 a2.data.toList ≤ 1 by have h5 : n = List.count 80 a2.data.toList := hn2; omega)
            clear hn2
            go_wp2_with (go_at_call 74; refine (Tryd.strings_Count_one a2 80 _).mono ?_; rintro e w' ⟨rfl, rfl⟩; rw [← HN.out])
            go_roundg 1
            case measure => omega
            case rel => exact ⟨2, by omega, rfl, ⟨⟨fun _ => hk.out.1 (by omega), fun _ => HN2.out, fun h => by omega⟩⟩⟩
        · subst hi2
          have hn : ∀ ty, (Instr.next (.pointer (some ⟨W2.heap.size, 0, none⟩)) true ty).run Tryd.prog (W2.iter ⟨#[76, 80, 82]⟩ 2) = .ok (.tuple #[.bool true, .int .i64 2, .int .i32 82]) (W2.iter ⟨#[76, 80, 82]⟩ 3) := fun ty => run_next_ascii (P := Tryd.prog) W2 ⟨#[76, 80, 82]⟩ 2 ty (by decide) (by decide)
          have kc : ∀ W : World, (convert 21 9 (.int .i32 82)).run Tryd.prog W = .ok (.string ⟨#[82]⟩) W := fun W => (run_convert_int_string (P := Tryd.prog) W 21 9 .i32 82 rfl Tryd.underlying9).trans (by rfl)
          obtain ⟨n, hn2⟩ : ∃ n : Nat, n = Lib.countByte a2.data.toList 82 := ⟨_, rfl⟩
          have HN := Aside0.mk hn2
          by_cases hc : 1 < n
          · have hc2 : (1 : Int) < (n : Int) := by omega
            have h3 := H2.out
            rw [if_neg (fun h => by have h4 := h.2; unfold roundOk at h4; simp only [Bool.and_eq_true, decide_eq_true_eq] at h4; have h5 : n = List.count 82 a2.data.toList := hn2; omega), if_pos hsz] at h3
            obtain ⟨rfl, rfl⟩ : ([] : List Int) = r1 ∧ (2 : Int) = r2 := by simpa using h3
            clear h3 hn2
            go_wp2_with (go_at_call 74; refine (Tryd.strings_Count_one a2 82 _).mono ?_; rintro e w' ⟨rfl, rfl⟩; rw [← HN.out])
            go_ret2
            exact ⟨_, rfl, Kd.R_nil _ _ _ _ _, HB2.out.alloc HB2.out.size _⟩
          · have hc2 : ¬ (1 : Int) < (n : Int) := by omega
            have HN2 := Aside0.mk (show List.count 82 a2.data.toList ≤ 1 by have h5 : n = List.count 82 a2.data.toList := hn2; omega)
            clear hn2
            go_wp2_with (go_at_call 74; refine (Tryd.strings_Count_one a2 82 _).mono ?_; rintro e w' ⟨rfl, rfl⟩; rw [← HN.out])
            go_roundg 0
            case measure => omega
            case rel => exact ⟨3, by omega, rfl, ⟨⟨fun _ => hk.out.1 (by omega), fun _ => hk.out.2.1 (by omega), fun _ => HN2.out⟩⟩⟩
        · subst hi3
          have hn : ∀ ty, (Instr.next (.pointer (some ⟨W2.heap.size, 0, none⟩)) true ty).run Tryd.prog (W2.iter ⟨#[76, 80, 82]⟩ 3) = .ok (.tuple #[.bool false]) (W2.iter ⟨#[76, 80, 82]⟩ 3) := fun ty => run_next_end (P := Tryd.prog) W2 ⟨#[76, 80, 82]⟩ 3 ty (by decide)
          have hok : roundOk a2.data.toList = true := by
            unfold roundOk
            rw [HNe.out, HAll.out, decide_eq_true (hk.out.1 (by omega)), decide_eq_true (hk.out.2.1 (by omega)), decide_eq_true (hk.out.2.2 (by omega))]
            rfl
          have h3 := H2.out
          rw [if_pos ⟨trivial, hok⟩] at h3
          by_cases hr : isKind a0_0 a0_1 a0_2 = true ∧ 0 ≤ a1 ∧ a1 < 2 * a0_0 ∧ a2.size ≤ 60
          case neg => rw [if_neg hr] at h3; cases h3
          rw [if_pos hr] at h3
          obtain ⟨hki, p1, p2, p3⟩ := hr
          have hn16 : a0_0 ≤ 16 := (of_decide_eq_true hki).2.1
          obtain ⟨hr1, rfl⟩ : Slices.sorted ((searchL a0_0 a0_1 a0_2 a2.data.toList a1).map (·.1)) = r1 ∧ (0 : Int) = r2 := by simpa using h3
          have hgood := searchL_good hki a2.data.toList a1 p1 p2
          have HK := Aside0.mk hki
          obtain ⟨L, hL⟩ : ∃ L, L = searchL a0_0 a0_1 a0_2 a2.data.toList a1 := ⟨_, rfl⟩
          rw [← hL] at hr1 hgood
          have HR := Aside0.mk hr1
          have HG := Aside0.mk hgood
          have HL := Aside0.mk hL
          have hL32 : L.length ≤ 32 := by rcases hgood.length with h | h <;> omega
          have hasc : ∀ c, c ∈ a2.data.toList → c.toNat < 128 := by
            intro c hc
            have h1 := List.all_eq_true.1 HAll.out c hc
            unfold stepByte at h1
            simp only [Bool.or_eq_true, beq_iff_eq] at h1
            rcases h1 with (rfl | rfl) | rfl <;> decide
          have HAsc := Aside0.mk hasc
          have HB3 := Aside0.mk (show Below w.heap.size w (W2.iter ⟨#[76, 80, 82]⟩ 3) from HB2.out.alloc HB2.out.size _)
          have HX3 : (W2.iter ⟨#[76, 80, 82]⟩ 3).heap[w.heap.size]? = some (.cells #[.int .i64 a0_0, .int .i64 a0_1, .int .i64 a0_2] 27 (0, 0)) := blk_alloc HX2.out _
          have z0 : (W2.iter ⟨#[76, 80, 82]⟩ 3).cell? ⟨w.heap.size, 0, none⟩ = some (.int .i64 a0_0) := (blk_cell HX3 0).trans rfl
          have z1 : (W2.iter ⟨#[76, 80, 82]⟩ 3).cell? ⟨w.heap.size, 1, none⟩ = some (.int .i64 a0_1) := (blk_cell HX3 1).trans rfl
          have z2 : (W2.iter ⟨#[76, 80, 82]⟩ 3).cell? ⟨w.heap.size, 2, none⟩ = some (.int .i64 a0_2) := (blk_cell HX3 2).trans rfl
          clear HX3 h3 hki hgood hL hr1 hasc hok
          go_wp2_with fail
          refine (search_calls HK.out a1 p1 p2 a2 p3 HAsc.out _).mono ?_
          rintro e W4 ⟨B, rfl, hB, hown, hb⟩
          have HB4 := Aside0.mk (HB3.out.trans (hb.mono HB3.out.size))
          have hown' : W4.ownsMap (H := Unit) Tryd.prog 3 (plainElem Tryd.prog 9) B L.length (mapD L) := by rw [HL.out]; exact hown
          have HO := Aside0.mk hown'
          have hBw : w.heap.size ≤ B := Nat.le_trans HB3.out.size hB
          clear hb hown hown' hB z0 z1 z2 hn
          go_wp2_with (at_range; refine wpList_range_own _ rfl _ 85 rfl 3 9 law Tryd.underlying85 _ B _ _ rfl HO.out ?_; intro W5 hrg hg3 hs3)
          go_frame
          obtain ⟨r, hr⟩ : ∃ r, r = W4.heap.size := ⟨_, rfl⟩
          rw [← hr] at hrg hs3 ⊢
          have hBr : B < r := by rw [hr]; exact HO.out.lt
          have hwr : w.heap.size ≤ r := by omega
          rw [mapD_size _ HG.out.nodup] at hrg
          have HRg := Aside0.mk hrg
          have HB5 := Aside0.mk (HB4.out.grown hg3 HB4.out.size (fun k e => by cases e))
          have info3 : (Tryd.prog.info? 3).map (fun i => (i.zero, i.size, i.bytes)) = some (some (.int .i64 0), 1, 8) := by kernel_rfl
          clear hrg hg3 hs3 hr
          go_loopg [10] L.length (fun gk v wr => ∃ (dn : Bfs.Met Int) (left : Lit → Bool), Aside0 (wr.ranges (H := Unit) Tryd.prog 3 (plainElem Tryd.prog 9) B r L.length (mapD L) left gk) ∧ Aside0 (Coll L dn left) ∧ Aside0 (Kd.R (Kd.int .i64) 3 wr w.heap.size (fun k => k ≠ B ∧ k ≠ r) v (dn.map (·.1))) ∧ Aside0 (Below w.heap.size w wr))
          case atStart => exact ⟨[], _, HRg, ⟨Coll.start L⟩, ⟨Kd.R_nil _ _ _ _ _⟩, HB5⟩
          case round =>
            obtain ⟨dn, left, hrg, hcol, hR, hbel⟩ := hrel
            obtain ⟨A, cc, hv, hlc, _⟩ := Kd.R_reads hR.out
            obtain ⟨m, hm⟩ : ∃ m, m = (dn.map (·.1)).length := ⟨_, rfl⟩
            rw [← hm] at hv hlc
            have hml : m = dn.length := by rw [hm]; simp
            have hdn := hcol.out.length
            have hm32 : m ≤ 32 := by omega
            have HM := Aside0.mk hm
            clear hm hml
            subst hv
            go_wp2_with (at_next; refine wpList_next_ranges_is _ rfl _ rfl 3 9 .i64 law Tryd.underlying3 Tryd.underlying9 B r _ _ _ _ rfl hrg.out ?_ ?_)
            · intro h0 hl0
              have hp := hcol.out.all HG.out.nodup hl0
              have e : Slices.sorted (dn.map (·.1)) = r1 := by
                rw [← HR.out]
                exact sorted_of_perm (hp.map _)
              have HE := Aside0.mk e
              clear e hp h0 hl0
              have hR7 : (Kd.int .i64).R 3 wr w.heap.size (fun k => k ≠ B ∧ k ≠ r) (.slice A m cc) (dn.map (·.1)) := hR.out
              go_wp2_with fail
              refine (Slices.sort_own Tryd.lays189 3 (fun k => k ≠ B ∧ k ≠ r) (.slice A m cc) (dn.map (·.1)) w wr hbel.out hR7 (by rw [← HM.out]; omega)).mono ?_
              rintro e W7 ⟨rfl, hR8, hb8, _⟩
              have HR8 := Aside0.mk hR8
              have HB8 := Aside0.mk hb8
              clear hR7 hR8 hb8
              go_wp2_with fail
              go_ret2
              exact ⟨_, rfl, by rw [← HE.out]; exact Kd.R_mono HR8.out (fun _ _ => trivial), HB8.out⟩
            · intro x c W6 cnt2 hwx hcs hlx hat hrg4 hlt hg4 hs4 hen
              have hkn := hcol.out.left x
              rw [hlx] at hkn
              have hkL : Bfs.known L x = true := by
                cases hc : Bfs.known L x with
                | true => rfl
                | false => rw [hc] at hkn; simp at hkn
              obtain ⟨u, hu⟩ := Bfs.known_iff.1 hkL
              have HC4 := Aside0.mk (hcol.out.step hlx hu)
              have HRg4 := Aside0.mk hrg4
              have HR4 := Aside0.mk (Kd.R_mono (Kd.R_grown hR.out hg4 (fun k hk e => hk.2 (Option.some.inj e))) (ok' := fun k => k ≠ B ∧ k ≠ r) (fun _ h => h))
              have HB6 := Aside0.mk (hbel.out.grown hg4 hbel.out.size (fun k e => by cases e; omega))
              have hBlt := hrg4.owns.lt
              have hrlt := hrg4.lt
              clear hkn hkL hu hat hrg4 hg4 hs4 hwx hcs hlx
              go_wp2_with (at_builtin; refine Kd.R_append (Kd.int .i64) (w0 := w) w.heap.size rfl (.tmp 44) (.tmp 46) 54 3 (.int .i64 0) 8 rfl Tryd.underlying54 info3 rfl (by decide) (by omega) (.slice A m cc) (dn.map (·.1)) x [.int .i64 x] (fun k => k ≠ B ∧ k ≠ r) (fun _ => False) rfl rfl rfl (fun _ hk => hk.elim) (fun k hk => by omega) HR4.out HB6.out HB6.out.size (by rw [← HM.out]; omega) ?_; intro v7 w7 hq7 hb7 hg7 hat7)
              have hne := HR4.out.1
              have HR5 := Aside0.mk hq7
              have HRg5 := Aside0.mk (HRg4.out.kept hg7 (fun e => (hne B e.symm).1 rfl) (fun e => (hne r e.symm).2 rfl))
              go_roundg cnt2
              case measure => omega
              case rel =>
                refine ⟨dn ++ [(x, u)], _, HRg5, HC4, ⟨?_⟩, ⟨hb7⟩⟩
                rw [List.map_append]
                exact HR5.out
end
end Go.Proofs.YtpaeobpmkdekfaaDoor.P
end

section
namespace Go.Proofs.YtpaeobpmkdekfaaDoor.P
open Go.RowKit Go.Proofs.YtpaeobpmkdekfaaDoorW.PrintWords Go.Proofs.YtpaeobpmkdekfaaDoorW.PrintLast Go.Proofs.YtpaeobpmkdekfaaDoorW.PrintMore
attribute [local go_sem] max2_int min2_int max_two min_two max_three min_three max_four min_four   -- for this text's walks alone
set_option linter.unusedVariables false
set_option linter.unusedSimpArgs false
mutual
def sackbutref04_Steps.l0 : Nat → ByteArray → Int → Int → Option (Bool)
  | 0, _, _, _ => none
  | k + 1, x0, x6, x7 => if x7 < x6 then (sackbutref04_Steps.l1 k x0 x7 x6 x7 x7 0) else (if (x0.size : Int) ≥ 1 then ((sackbutref04_IsWalk.f k x0).bind fun t480 => (some t480)) else (some false))
def sackbutref04_Steps.l1 : Nat → ByteArray → Int → Int → Int → Int → Int → Option (Bool)
  | 0, _, _, _, _, _, _ => none
  | k + 1, x0, x3, x6, x7, x10, x11 => if x11 < x10 then (if 0 ≤ x3 then (if x3 < (x0.size : Int) then (if 0 ≤ x11 then (if x11 < (x0.size : Int) then (if (bt x0 x3) = (bt x0 x11) then (some false) else (sackbutref04_Steps.l1 k x0 x3 x6 x7 x10 (wrap64 (x11 + 1)))) else (none)) else (none)) else (none)) else (none)) else (sackbutref04_Steps.l0 k x0 x6 (wrap64 (x7 + 1)))
end
def sackbutref04_Steps.f (k : Nat) (a0 : ByteArray) : Option (Bool) := sackbutref04_Steps.l0 k a0 (a0.size : Int) 0
set_option maxHeartbeats 8000000 in
set_option maxRecDepth 100000 in
theorem sackbutref04_Steps.calls (k : Nat) (a0 : ByteArray) (r : Bool) (w : World) (h : sackbutref04_Steps.f k a0 = some r) :
    Calls Tryd.prog 48 #[.string a0] w fun e w' => e = .returned (.bool r) ∧ Drawn0 w w' := by
  have H : (sackbutref04_Steps.l0 k a0 (a0.size : Int) 0) = some r := h
  clear h
  have H' := Aside0.mk H
  clear H
  go_enter Tryd.func48, Tryd.ntmps48
  go_wp2
  repeat (go_quiet (fail); try go_wp2)
  go_loopg [7] k (fun kq v7 w' => ∃ (x7_1 : Int), v7 = .int .i64 x7_1 ∧ Aside0 (sackbutref04_Steps.l0 kq a0 (a0.size : Int) x7_1 = some r) ∧ Aside0 (kq ≤ k) ∧ Drawn0 w w')
  case atStart => exact ⟨(0), (by first | rfl | (simp; done) | (simp [*]; done)), H', ⟨Nat.le_refl _⟩, by repeat (first | exact Drawn0.refl _ | apply Drawn0.step)⟩
  case round =>
    clear H'
    obtain ⟨x7_1, rfl, HA, HK1, ⟨m1, rfl⟩⟩ := hrel
    cases gk with
    | zero => exact absurd HA.out (by simp [sackbutref04_Steps.l0])
    | succ k1 =>
      have H := HA.out
      clear HA
      simp only [sackbutref04_Steps.l0] at H
      by_cases c2 : x7_1 < (a0.size : Int)
      · rw [if_pos c2] at H
        have c2b0 : decide (x7_1 < (a0.size : Int)) = true := decide_eq_true c2
        clear c2
        have H' := Aside0.mk H
        clear H
        go_wp2
        repeat (go_quiet (fail); try go_wp2)
        go_loopg [11] k1 (fun kq v11 w' => ∃ (x11_2 : Int), v11 = .int .i64 x11_2 ∧ Aside0 (sackbutref04_Steps.l1 kq a0 x7_1 (a0.size : Int) x7_1 x7_1 x11_2 = some r) ∧ Aside0 (kq ≤ k1) ∧ Drawn0 w w')
        case atStart => exact ⟨(0), (by first | rfl | (simp; done) | (simp [*]; done)), H', ⟨Nat.le_refl _⟩, by repeat (first | exact Drawn0.refl _ | apply Drawn0.step)⟩
        case round =>
          clear H'
          try clear c2
          try clear c2b0
          try clear p2
          obtain ⟨x11_2, rfl, HA, HK2, ⟨m2, rfl⟩⟩ := hrel
          cases gk with
          | zero => exact absurd HA.out (by simp [sackbutref04_Steps.l1])
          | succ k2 =>
            have H := HA.out
            clear HA
            simp only [sackbutref04_Steps.l1] at H
            by_cases c3 : x11_2 < x7_1
            · rw [if_pos c3] at H
              have c3b0 : decide (x11_2 < x7_1) = true := decide_eq_true c3
              clear c3
              by_cases c4 : 0 ≤ x7_1
              · rw [if_pos c4] at H
                have c4b0 : decide (0 ≤ x7_1) = true := decide_eq_true c4
                clear c4
                by_cases c5 : x7_1 < (a0.size : Int)
                · rw [if_pos c5] at H
                  have c5b0 : decide (x7_1 < (a0.size : Int)) = true := decide_eq_true c5
                  clear c5
                  by_cases c7 : 0 ≤ x11_2
                  · rw [if_pos c7] at H
                    have c7b0 : decide (0 ≤ x11_2) = true := decide_eq_true c7
                    clear c7
                    by_cases c8 : x11_2 < (a0.size : Int)
                    · rw [if_pos c8] at H
                      have c8b0 : decide (x11_2 < (a0.size : Int)) = true := decide_eq_true c8
                      clear c8
                      by_cases c10 : (bt a0 x7_1) = (bt a0 x11_2)
                      · rw [if_pos c10] at H
                        have c10b0 : ((bt a0 x7_1) == (bt a0 x11_2)) = true := beq_iff_eq.mpr c10
                        have c10b1 : ((bt a0 x7_1) != (bt a0 x11_2)) = false := bne_eq_false_iff_eq.mpr c10
                        clear c10
                        obtain rfl := Option.some.inj H
                        have p6 : 0 ≤ (x7_1 : Int) := of_decide_eq_true (by first | (with_reducible assumption) | assumption)
                        have q6 : x7_1 < (a0.size : Int) := of_decide_eq_true (by first | (with_reducible assumption) | assumption)
                        have hx6 := bt_at a0 x7_1
                        replace p6 := eq_true p6
                        replace q6 := eq_true q6
                        have p9 : 0 ≤ (x11_2 : Int) := of_decide_eq_true (by first | (with_reducible assumption) | assumption)
                        have q9 : x11_2 < (a0.size : Int) := of_decide_eq_true (by first | (with_reducible assumption) | assumption)
                        have hx9 := bt_at a0 x11_2
                        replace p9 := eq_true p9
                        replace q9 := eq_true q9
                        go_wp2
                        repeat (go_quiet (fail); try go_wp2)
                        go_ret
                        exact ⟨by first | rfl | (simp; done) | (simp [*]; done), by repeat (first | exact Drawn0.refl _ | apply Drawn0.step)⟩
                      · rw [if_neg c10] at H
                        have c10b0 : ((bt a0 x7_1) == (bt a0 x11_2)) = false := beq_eq_false_iff_ne.mpr c10
                        have c10b1 : ((bt a0 x7_1) != (bt a0 x11_2)) = true := bne_iff_ne.mpr c10
                        have H' := Aside0.mk H
                        clear H
                        have p6 : 0 ≤ (x7_1 : Int) := of_decide_eq_true (by first | (with_reducible assumption) | assumption)
                        have q6 : x7_1 < (a0.size : Int) := of_decide_eq_true (by first | (with_reducible assumption) | assumption)
                        have hx6 := bt_at a0 x7_1
                        replace p6 := eq_true p6
                        replace q6 := eq_true q6
                        have p9 : 0 ≤ (x11_2 : Int) := of_decide_eq_true (by first | (with_reducible assumption) | assumption)
                        have q9 : x11_2 < (a0.size : Int) := of_decide_eq_true (by first | (with_reducible assumption) | assumption)
                        have hx9 := bt_at a0 x11_2
                        replace p9 := eq_true p9
                        replace q9 := eq_true q9
                        go_wp2
                        repeat (go_quiet (fail); try go_wp2)
                        go_roundg k2
                        case measure => have := HK1.out; have := HK2.out; omega
                        case rel => exact ⟨(wrap64 (x11_2 + 1)), (by first | rfl | (simp; done) | (simp [*]; done)), H', ⟨by have := HK1.out; have := HK2.out; omega⟩, by repeat (first | exact Drawn0.refl _ | apply Drawn0.step)⟩
                    · rw [if_neg c8] at H
                      exact absurd H (by simp)
                  · rw [if_neg c7] at H
                    exact absurd H (by simp)
                · rw [if_neg c5] at H
                  exact absurd H (by simp)
              · rw [if_neg c4] at H
                exact absurd H (by simp)
            · rw [if_neg c3] at H
              have c3b0 : decide (x11_2 < x7_1) = false := decide_eq_false c3
              clear c3
              have H' := Aside0.mk H
              clear H
              go_wp2
              repeat (go_quiet (fail); try go_wp2)
              go_roundg k2
              case measure => have := HK1.out; have := HK2.out; omega
              case rel => exact ⟨(wrap64 (x7_1 + 1)), (by first | rfl | (simp; done) | (simp [*]; done)), H', ⟨by have := HK1.out; have := HK2.out; omega⟩, by repeat (first | exact Drawn0.refl _ | apply Drawn0.step)⟩
      · rw [if_neg c2] at H
        have c2b0 : decide (x7_1 < (a0.size : Int)) = false := decide_eq_false c2
        clear c2
        by_cases c11 : (a0.size : Int) ≥ 1
        · rw [if_pos c11] at H
          have c11b0 : decide (1 ≤ (a0.size : Int)) = true := decide_eq_true c11
          have c11b1 : decide (1 ≤ a0.size) = true := decide_eq_true (by omega)
          clear c11
          replace H := Option.bind_eq_some_iff.mp H
          obtain ⟨t480, A120, H⟩ := H
          replace H : (some t480) = some r := H
          have A12 := Aside0.mk A120
          clear A120
          obtain rfl := Option.some.inj H
          go_wp2_with (first | (go_at_call 21; (with_reducible refine (sackbutref04_IsWalk.calls k1 a0 t480 _ A12.out).mono ?_); rintro e w' ⟨rfl, ⟨nd, rfl⟩⟩; (try first | exact ⟨rfl, _, World.drewN_drewN _ _ _⟩ | exact ⟨rfl, _, Eq.trans (World.drewN_drewN _ _ _) (congrArg (World.drewN _) (Nat.add_assoc _ _ _))⟩)))
          repeat (go_quiet (first | (go_at_call 21; (with_reducible refine (sackbutref04_IsWalk.calls k1 a0 t480 _ A12.out).mono ?_); rintro e w' ⟨rfl, ⟨nd, rfl⟩⟩; (try first | exact ⟨rfl, _, World.drewN_drewN _ _ _⟩ | exact ⟨rfl, _, Eq.trans (World.drewN_drewN _ _ _) (congrArg (World.drewN _) (Nat.add_assoc _ _ _))⟩))); try go_wp2_with (first | (go_at_call 21; (with_reducible refine (sackbutref04_IsWalk.calls k1 a0 t480 _ A12.out).mono ?_); rintro e w' ⟨rfl, ⟨nd, rfl⟩⟩; (try first | exact ⟨rfl, _, World.drewN_drewN _ _ _⟩ | exact ⟨rfl, _, Eq.trans (World.drewN_drewN _ _ _) (congrArg (World.drewN _) (Nat.add_assoc _ _ _))⟩))))
          go_ret
          exact ⟨by first | rfl | (simp; done) | (simp [*]; done), by repeat (first | exact Drawn0.refl _ | apply Drawn0.step)⟩
        · rw [if_neg c11] at H
          have c11b0 : decide (1 ≤ (a0.size : Int)) = false := decide_eq_false c11
          have c11b1 : decide (1 ≤ a0.size) = false := decide_eq_false (by omega)
          clear c11
          obtain rfl := Option.some.inj H
          go_wp2
          repeat (go_quiet (fail); try go_wp2)
          go_ret
          exact ⟨by first | rfl | (simp; done) | (simp [*]; done), by repeat (first | exact Drawn0.refl _ | apply Drawn0.step)⟩

end Go.Proofs.YtpaeobpmkdekfaaDoor.P
end

section
namespace Go.Proofs.YtpaeobpmkdekfaaDoor.P
open Go.RowKit Go.Proofs.YtpaeobpmkdekfaaDoorW.PrintWords Go.Proofs.YtpaeobpmkdekfaaDoorW.PrintLast Go.Proofs.YtpaeobpmkdekfaaDoorW.PrintMore
attribute [local go_sem] max2_int min2_int max_two min_two max_three min_three max_four min_four   -- for this text's walks alone
set_option linter.unusedVariables false
set_option linter.unusedSimpArgs false
def sackbutlaw04_TriadsRounds.j0 : Nat → Int → ByteArray → List Int → Int → Bool → Int → Int → Int → Option (Bool)
  | 0, _, _, _, _, _, _, _, _ => none
  | k + 1, x1, x2, x7, x8, x27, x494000, x494001, x494002 => if x27 = true then (if (x7.length : Int) = 0 then (if x8 = 2 then ((sackbutlaw04_awake.f).bind fun t507 => (some t507)) else (some false)) else (some false)) else ((sackbutref04_Round.f k x494000 x494001 x494002 x1 x2).bind fun t508 => ((slices_Equal_int_int.f k x7 t508).bind fun t511 => (if t511 = true then (if x8 = 0 then ((sackbutlaw04_awake.f).bind fun t512 => (some t512)) else (some false)) else (some false))))
def sackbutlaw04_TriadsRounds.f (k : Nat) (a0_0 : Int) (a0_1 : Int) (a0_2 : Int) (a1 : Int) (a2 : ByteArray) : Option (Bool) := (sackbutlaw04_Of.f a0_0 a0_1 a0_2).bind fun bt494 => ((sackbutlaw04_text.f a2).bind fun t497 => ((triads_Round.f bt494.1 bt494.2.1 bt494.2.2 a1 t497).bind fun bt498 => ((sackbutlaw04_fine.f k a0_0 a0_1 a0_2 (([a1] : List Int))).bind fun t505 => (if t505 = true then ((sackbutref04_Steps.f k a2).bind fun t506 => (sackbutlaw04_TriadsRounds.j0 k a1 a2 bt498.1 bt498.2 (!t506) a0_0 a0_1 a0_2)) else (sackbutlaw04_TriadsRounds.j0 k a1 a2 bt498.1 bt498.2 true a0_0 a0_1 a0_2)))))
set_option maxHeartbeats 8000000 in
set_option maxRecDepth 100000 in
theorem sackbutlaw04_TriadsRounds.calls (k : Nat) (a0_0 : Int) (a0_1 : Int) (a0_2 : Int) (a1 : Int) (a2 : ByteArray) (r : Bool) (w : World) (h : sackbutlaw04_TriadsRounds.f k a0_0 a0_1 a0_2 a1 a2 = some r) :
    Calls Tryd.prog 13 #[.agg #[.int .i64 a0_0, .int .i64 a0_1, .int .i64 a0_2], .int .i64 a1, .string a2] w fun e w' => e = .returned (.bool r) ∧ Below w.heap.size w w' := by
  have hu23 := Tryd.underlying23
  have HB := Aside0.mk (Below.refl w.heap.size w)
  have H : ((sackbutlaw04_Of.f a0_0 a0_1 a0_2).bind fun bt494 => ((sackbutlaw04_text.f a2).bind fun t497 => ((triads_Round.f bt494.1 bt494.2.1 bt494.2.2 a1 t497).bind fun bt498 => ((sackbutlaw04_fine.f k a0_0 a0_1 a0_2 (([a1] : List Int))).bind fun t505 => (if t505 = true then ((sackbutref04_Steps.f k a2).bind fun t506 => (sackbutlaw04_TriadsRounds.j0 k a1 a2 bt498.1 bt498.2 (!t506) a0_0 a0_1 a0_2)) else (sackbutlaw04_TriadsRounds.j0 k a1 a2 bt498.1 bt498.2 true a0_0 a0_1 a0_2)))))) = some r := h
  clear h
  replace H := Option.bind_eq_some_iff.mp H
  obtain ⟨⟨t494, t495, t496⟩, A40, H⟩ := H
  replace H : ((sackbutlaw04_text.f a2).bind fun t497 => ((triads_Round.f t494 t495 t496 a1 t497).bind fun bt498 => ((sackbutlaw04_fine.f k a0_0 a0_1 a0_2 (([a1] : List Int))).bind fun t505 => (if t505 = true then ((sackbutref04_Steps.f k a2).bind fun t506 => (sackbutlaw04_TriadsRounds.j0 k a1 a2 bt498.1 bt498.2 (!t506) a0_0 a0_1 a0_2)) else (sackbutlaw04_TriadsRounds.j0 k a1 a2 bt498.1 bt498.2 true a0_0 a0_1 a0_2))))) = some r := H
  have A4 := Aside0.mk A40
  clear A40
  replace H := Option.bind_eq_some_iff.mp H
  obtain ⟨t497, A50, H⟩ := H
  replace H : ((triads_Round.f t494 t495 t496 a1 t497).bind fun bt498 => ((sackbutlaw04_fine.f k a0_0 a0_1 a0_2 (([a1] : List Int))).bind fun t505 => (if t505 = true then ((sackbutref04_Steps.f k a2).bind fun t506 => (sackbutlaw04_TriadsRounds.j0 k a1 a2 bt498.1 bt498.2 (!t506) a0_0 a0_1 a0_2)) else (sackbutlaw04_TriadsRounds.j0 k a1 a2 bt498.1 bt498.2 true a0_0 a0_1 a0_2)))) = some r := H
  have A5 := Aside0.mk A50
  clear A50
  replace H := Option.bind_eq_some_iff.mp H
  obtain ⟨⟨t498, t501⟩, A60, H⟩ := H
  replace H : ((sackbutlaw04_fine.f k a0_0 a0_1 a0_2 (([a1] : List Int))).bind fun t505 => (if t505 = true then ((sackbutref04_Steps.f k a2).bind fun t506 => (sackbutlaw04_TriadsRounds.j0 k a1 a2 t498 t501 (!t506) a0_0 a0_1 a0_2)) else (sackbutlaw04_TriadsRounds.j0 k a1 a2 t498 t501 true a0_0 a0_1 a0_2))) = some r := H
  have A6 := Aside0.mk A60
  clear A60
  have HC7 := Aside0.mk H
  clear H
  go_enter Tryd.func13, Tryd.ntmps13
  go_upto_region 2 with (first | ((with_reducible refine gate_dst (N := 3) rfl ?_); refine box_event ?hg (N := 3) ?hd (cs := #[.int .i64 a0_0, .int .i64 a0_1, .int .i64 a0_2]) (t := 23) ?hr ?_; (case hd => rfl); (case hg => rfl); (case hr => first | (go_simp; done) | (go_simp; rfl)); intro gb493 hg w8 hbox hb; have n0_ := Aside0.mk (below_step (by repeat (first | (with_reducible first | exact HB.out | apply below_alloc | apply pw_below_drewN | apply below_drew1) | exact HB.out)) hb); have n1_ := Aside0.mk (hbox); have n2_ := Aside0.mk ((by rw [hg]; exact (below_size (by repeat (first | (with_reducible first | exact HB.out | apply below_alloc | apply pw_below_drewN | apply below_drew1) | exact HB.out))) : w.heap.size ≤ gb493)); have n3_ := Aside0.mk ((by rw [hg]; exact (below_size (by repeat (first | (with_reducible first | exact HB.out | apply below_alloc | apply pw_below_drewN | apply below_drew1) | exact HB.out))) : w.heap.size ≤ gb493)); clear HB; have HB := n0_; have BK493 := n1_; have GW493 := n2_; have GE493 := n3_; clear n0_ n1_ n2_ n3_; clear hb hbox hg; have hcz9_0 : w8.cell? ⟨gb493, 0, none⟩ = some (.int .i64 a0_0) := (blk_cell BK493.out 0).trans rfl; have hcz9_1 : w8.cell? ⟨gb493, 1, none⟩ = some (.int .i64 a0_1) := (blk_cell BK493.out 1).trans rfl; have hcz9_2 : w8.cell? ⟨gb493, 2, none⟩ = some (.int .i64 a0_2) := (blk_cell BK493.out 2).trans rfl; have hfz9_0 := blk_frozen BK493.out 0; have hfz9_1 := blk_frozen BK493.out 1; have hfz9_2 := blk_frozen BK493.out 2) | ((with_reducible refine gate_callee (f := 17) rfl ?_); refine goesL_ (some 11) rfl rfl Tryd.func17 (by kernel_rfl) rfl #[.agg #[.int .i64 a0_0, .int .i64 a0_1, .int .i64 a0_2]] rfl (by (try simp only [List.map_toArray, List.map_cons, List.map_nil]); first | done | rfl | (simp only [List.length_drop, List.length_take]; rfl)) ?_; (with_reducible refine (sackbutlaw04_Of.calls a0_0 a0_1 a0_2 t494 t495 t496 _ A4.out).mono ?_); rintro e w10 ⟨rfl, hb⟩; refine ⟨_, rfl, ?_⟩; have n0_ := Aside0.mk (blk_below (g := gb493) (o := .cells #[.int .i64 a0_0, .int .i64 a0_1, .int .i64 a0_2] 23 (0, 0)) (by (with_reducible repeat (first | refine blk_drewN ?_ _ | refine blk_drew ?_ | refine blk_alloc ?_ _)); exact BK493.out) hb); have n1_ := Aside0.mk (below_step (by repeat (first | (with_reducible first | exact HB.out | apply below_alloc | apply pw_below_drewN | apply below_drew1 | refine below_set ?_ GE493.out) | exact HB.out)) hb); clear BK493; clear HB; have BK493 := n0_; have HB := n1_; clear n0_ n1_; (try clear hb); (try clear hb2); (try clear hk); (try clear hi)) | ((with_reducible refine gate_callee (f := 18) rfl ?_); refine goesL_ (some 14) rfl rfl Tryd.func18 (by kernel_rfl) rfl #[.string a2] rfl (by (try simp only [List.map_toArray, List.map_cons, List.map_nil]); first | done | rfl | (simp only [List.length_drop, List.length_take]; rfl)) ?_; (with_reducible refine (sackbutlaw04_text.calls a2 t497 _ A5.out).mono ?_); rintro e w11 ⟨rfl, hb⟩; refine ⟨_, rfl, ?_⟩; have n0_ := Aside0.mk (blk_below (g := gb493) (o := .cells #[.int .i64 a0_0, .int .i64 a0_1, .int .i64 a0_2] 23 (0, 0)) (by (with_reducible repeat (first | refine blk_drewN ?_ _ | refine blk_drew ?_ | refine blk_alloc ?_ _)); exact BK493.out) hb); have n1_ := Aside0.mk (below_step (by repeat (first | (with_reducible first | exact HB.out | apply below_alloc | apply pw_below_drewN | apply below_drew1 | refine below_set ?_ GE493.out) | exact HB.out)) hb); clear BK493; clear HB; have BK493 := n0_; have HB := n1_; clear n0_ n1_; (try clear hb); (try clear hb2); (try clear hk); (try clear hi)) | ((with_reducible refine gate_callee (f := 47) rfl ?_); refine goesL_ (some 15) rfl rfl Tryd.func47 (by kernel_rfl) rfl #[.agg #[.int .i64 t494, .int .i64 t495, .int .i64 t496], .int .i64 a1, .string t497] rfl (by (try simp only [List.map_toArray, List.map_cons, List.map_nil]); first | done | rfl | (simp only [List.length_drop, List.length_take]; rfl)) ?_; (with_reducible refine (triads_Round.calls t494 t495 t496 a1 t497 t498 t501 _ A6.out).mono ?_); rintro e w12 ⟨v499, rfl, ho0, hb⟩; refine ⟨_, rfl, ?_⟩; have n0_ := Aside0.mk (Kd.R_lower ho0 (below_size (by repeat (first | (with_reducible first | exact HB.out | apply below_alloc | apply pw_below_drewN | apply below_drew1 | refine below_set ?_ GE493.out) | exact HB.out)))); have n1_ := Aside0.mk (blk_below (g := gb493) (o := .cells #[.int .i64 a0_0, .int .i64 a0_1, .int .i64 a0_2] 23 (0, 0)) (by (with_reducible repeat (first | refine blk_drewN ?_ _ | refine blk_drew ?_ | refine blk_alloc ?_ _)); exact BK493.out) hb); have n2_ := Aside0.mk (below_step (by repeat (first | (with_reducible first | exact HB.out | apply below_alloc | apply pw_below_drewN | apply below_drew1 | refine below_set ?_ GE493.out) | exact HB.out)) hb); clear BK493; clear HB; have HO500 := n0_; have BK493 := n1_; have HB := n2_; clear n0_ n1_ n2_; (try clear hb); (try clear hb2); (try clear hk); (try clear hi); (try clear ho0)))
  (try simp only [Act.put, List.setIfInBounds_toArray, List.set_cons_zero, List.set_cons_succ])
  go_cut [27] (fun v27 wc => ∃ (kq : Nat) (x27_6 : Bool), v27 = .bool x27_6 ∧ Aside0 (sackbutlaw04_TriadsRounds.j0 kq a1 a2 t498 t501 x27_6 a0_0 a0_1 a0_2 = some r) ∧ Aside0 (kq ≤ k) ∧ Aside0 (Kd.R (Kd.int .i64) 3 wc w.heap.size (fun _ => True) v499 t498) ∧ Aside0 (wc.heap[gb493]? = some (.cells #[.int .i64 a0_0, .int .i64 a0_1, .int .i64 a0_2] 23 (0, 0))) ∧ Aside0 (Below w.heap.size w wc))
  case first =>
    have H := HC7.out
    clear HC7
    obtain ⟨y502, hy502⟩ : ∃ y_ : List Int, y_ = (([a1] : List Int)) := ⟨_, rfl⟩
    replace H : ((sackbutlaw04_fine.f k a0_0 a0_1 a0_2 y502).bind fun t505 => (if t505 = true then ((sackbutref04_Steps.f k a2).bind fun t506 => (sackbutlaw04_TriadsRounds.j0 k a1 a2 t498 t501 (!t506) a0_0 a0_1 a0_2)) else (sackbutlaw04_TriadsRounds.j0 k a1 a2 t498 t501 true a0_0 a0_1 a0_2))) = some r := by first | (rw [hy502]; with_reducible exact H) | (have H2_ := (Option.bind_some _ _).symm.trans H; rw [hy502]; with_reducible exact H2_) | (have H2_ := (Option.bind_some _ _).symm.trans H; with_reducible exact H2_) | with_reducible exact H | (rw [hy502]; exact H) | exact H
    have Ny502 := Aside0.mk hy502
    clear hy502
    replace H := Option.bind_eq_some_iff.mp H
    obtain ⟨t505, A130, H⟩ := H
    replace H : (if t505 = true then ((sackbutref04_Steps.f k a2).bind fun t506 => (sackbutlaw04_TriadsRounds.j0 k a1 a2 t498 t501 (!t506) a0_0 a0_1 a0_2)) else (sackbutlaw04_TriadsRounds.j0 k a1 a2 t498 t501 true a0_0 a0_1 a0_2)) = some r := H
    have A13 := Aside0.mk A130
    clear A130
    by_cases c14 : t505 = true
    · subst c14
      have H1 : ((sackbutref04_Steps.f k a2).bind fun t506 => (sackbutlaw04_TriadsRounds.j0 k a1 a2 t498 t501 (!t506) a0_0 a0_1 a0_2)) = some r := by rw [if_pos rfl] at H; exact H
      clear H
      have H := H1
      clear H1
      replace H := Option.bind_eq_some_iff.mp H
      obtain ⟨t506, A150, H⟩ := H
      replace H : (sackbutlaw04_TriadsRounds.j0 k a1 a2 t498 t501 (!t506) a0_0 a0_1 a0_2) = some r := H
      have A15 := Aside0.mk A150
      clear A150
      have H' := Aside0.mk H
      clear H
      have hcz16_0 : w12.cell? ⟨gb493, 0, none⟩ = some (.int .i64 a0_0) := (blk_cell BK493.out 0).trans rfl
      have hcz16_1 : w12.cell? ⟨gb493, 1, none⟩ = some (.int .i64 a0_1) := (blk_cell BK493.out 1).trans rfl
      have hcz16_2 : w12.cell? ⟨gb493, 2, none⟩ = some (.int .i64 a0_2) := (blk_cell BK493.out 2).trans rfl
      have hfz16_0 := blk_frozen BK493.out 0
      have hfz16_1 := blk_frozen BK493.out 1
      have hfz16_2 := blk_frozen BK493.out 2
      go_wp2_with (first | ((with_reducible refine gate_dst (N := 20) rfl ?_); refine Kd.R_lit (Kd.int .i64) _ 3 ?hg (N := 20) ?hd (xs := ([a1] : List Int)) (inner := [.int .i64 a1]) (ok := fun _ => True) (okp := fun _ => True) ?hr ?hp (fun _ hk => hk) trivial (Below.refl _ _) (Nat.le_refl _) (by simp) ?_; (case hd => rfl); (case hg => rfl); (case hr => first | (go_simp; done) | (go_simp; rfl)); (case hp => exact (Reps.one (show Kd.M (Kd.int .i64) _ _ _ a1 [.int .i64 a1] from rfl) (Reps.none _ _))); intro v503 w17 ho18 hb hg_ hnew_; clear hg_ hnew_; (first | rw [← Ny502.out] at ho18 | (simp only [Int.reduceToNat] at ho18; rw [← Ny502.out] at ho18)); have n0_ := Aside0.mk (Kd.R_elder' (by (with_reducible repeat (first | apply Kd.R_alloc | apply Kd.R_drewN | apply Kd.R_drew)); exact HO500.out) (Kd.R_base ho18) hb); have n1_ := Aside0.mk (Kd.R_lower (Kd.R_new' ho18 (Kd.R_lt (by (with_reducible repeat (first | apply Kd.R_alloc | apply Kd.R_drewN | apply Kd.R_drew)); exact HO500.out))) (below_size (by repeat (first | (with_reducible first | exact HB.out | apply below_alloc | apply pw_below_drewN | apply below_drew1 | refine below_set ?_ GE493.out) | exact HB.out)))); have n2_ := Aside0.mk (blk_below (g := gb493) (o := .cells #[.int .i64 a0_0, .int .i64 a0_1, .int .i64 a0_2] 23 (0, 0)) (by (with_reducible repeat (first | refine blk_drewN ?_ _ | refine blk_drew ?_ | refine blk_alloc ?_ _)); exact BK493.out) hb); have n3_ := Aside0.mk (below_step (by repeat (first | (with_reducible first | exact HB.out | apply below_alloc | apply pw_below_drewN | apply below_drew1 | refine below_set ?_ GE493.out) | exact HB.out)) hb); clear HO500; clear BK493; clear HB; have HO500 := n0_; have HO504 := n1_; have BK493 := n2_; have HB := n3_; clear n0_ n1_ n2_ n3_; clear hb ho18; obtain ⟨Ao19, co19, eo19⟩ := Kd.R_slice HO504.out; subst eo19) | ((with_reducible refine gate_callee (f := 19) rfl ?_); refine goesL_ (some 21) rfl rfl Tryd.func19 (by kernel_rfl) rfl #[.agg #[.int .i64 a0_0, .int .i64 a0_1, .int .i64 a0_2], .slice Ao19 y502.length co19] rfl (by (try simp only [List.map_toArray, List.map_cons, List.map_nil]); first | done | rfl | (simp only [List.length_drop, List.length_take]; rfl)) ?_; (with_reducible refine (sackbutlaw04_fine.calls k a0_0 a0_1 a0_2 _ _ y502 true _ ?side1 ?side2 A13.out).mono ?_); (case side1 => repeat (first | exact (Kd.R_reads' HO504.out).2.2 | (with_reducible refine Kd.C_alloc ?_ _) | (with_reducible refine Kd.C_drewN ?_ _) | (with_reducible refine Kd.C_drew ?_))); (case side2 => exact (Kd.R_reads' HO504.out).2.1); rintro e w20 ⟨rfl, hb⟩; refine ⟨_, rfl, ?_⟩; have n0_ := Aside0.mk (Kd.R_below (by (with_reducible repeat (first | apply Kd.R_alloc | apply Kd.R_drewN | apply Kd.R_drew)); exact HO500.out) hb); have n1_ := Aside0.mk (Kd.R_below (by (with_reducible repeat (first | apply Kd.R_alloc | apply Kd.R_drewN | apply Kd.R_drew)); exact HO504.out) hb); have n2_ := Aside0.mk (blk_below (g := gb493) (o := .cells #[.int .i64 a0_0, .int .i64 a0_1, .int .i64 a0_2] 23 (0, 0)) (by (with_reducible repeat (first | refine blk_drewN ?_ _ | refine blk_drew ?_ | refine blk_alloc ?_ _)); exact BK493.out) hb); have n3_ := Aside0.mk (below_step (by repeat (first | (with_reducible first | exact HB.out | apply below_alloc | apply pw_below_drewN | apply below_drew1 | refine below_set ?_ GE493.out) | exact HB.out)) hb); clear HO500; clear HO504; clear BK493; clear HB; have HO500 := n0_; have HO504 := n1_; have BK493 := n2_; have HB := n3_; clear n0_ n1_ n2_ n3_; (try clear hb); (try clear hb2); (try clear hk); (try clear hi)) | (go_at_call 48; (with_reducible refine (sackbutref04_Steps.calls k a2 t506 _ A15.out).mono ?_); rintro e w' ⟨rfl, ⟨nd, rfl⟩⟩))
      go_meet
      case rel => exact ⟨_, (!t506), (by first | rfl | (simp; done) | (simp [*]; done)), H', ⟨by first | omega | exact Nat.le_refl _⟩, ⟨by (with_reducible repeat (first | apply Kd.R_alloc | apply Kd.R_drewN | apply Kd.R_drew)); exact Kd.R_mono HO500.out (fun _ hk => trivial)⟩, ⟨by (with_reducible repeat (first | refine blk_drewN ?_ _ | refine blk_drew ?_ | refine blk_alloc ?_ _)); exact BK493.out⟩, ⟨by repeat (first | (with_reducible first | exact HB.out | apply below_alloc | apply pw_below_drewN | apply below_drew1 | refine below_set ?_ GE493.out) | exact HB.out)⟩⟩
    · replace c14 := Bool.eq_false_iff.mpr c14
      subst c14
      have H1 : (sackbutlaw04_TriadsRounds.j0 k a1 a2 t498 t501 true a0_0 a0_1 a0_2) = some r := by rw [if_neg (show ¬ (false = true) by decide)] at H; exact H
      clear H
      have H := H1
      clear H1
      have H' := Aside0.mk H
      clear H
      have hcz21_0 : w12.cell? ⟨gb493, 0, none⟩ = some (.int .i64 a0_0) := (blk_cell BK493.out 0).trans rfl
      have hcz21_1 : w12.cell? ⟨gb493, 1, none⟩ = some (.int .i64 a0_1) := (blk_cell BK493.out 1).trans rfl
      have hcz21_2 : w12.cell? ⟨gb493, 2, none⟩ = some (.int .i64 a0_2) := (blk_cell BK493.out 2).trans rfl
      have hfz21_0 := blk_frozen BK493.out 0
      have hfz21_1 := blk_frozen BK493.out 1
      have hfz21_2 := blk_frozen BK493.out 2
      go_wp2_with (first | ((with_reducible refine gate_dst (N := 20) rfl ?_); refine Kd.R_lit (Kd.int .i64) _ 3 ?hg (N := 20) ?hd (xs := ([a1] : List Int)) (inner := [.int .i64 a1]) (ok := fun _ => True) (okp := fun _ => True) ?hr ?hp (fun _ hk => hk) trivial (Below.refl _ _) (Nat.le_refl _) (by simp) ?_; (case hd => rfl); (case hg => rfl); (case hr => first | (go_simp; done) | (go_simp; rfl)); (case hp => exact (Reps.one (show Kd.M (Kd.int .i64) _ _ _ a1 [.int .i64 a1] from rfl) (Reps.none _ _))); intro v503 w22 ho23 hb hg_ hnew_; clear hg_ hnew_; (first | rw [← Ny502.out] at ho23 | (simp only [Int.reduceToNat] at ho23; rw [← Ny502.out] at ho23)); have n0_ := Aside0.mk (Kd.R_elder' (by (with_reducible repeat (first | apply Kd.R_alloc | apply Kd.R_drewN | apply Kd.R_drew)); exact HO500.out) (Kd.R_base ho23) hb); have n1_ := Aside0.mk (Kd.R_lower (Kd.R_new' ho23 (Kd.R_lt (by (with_reducible repeat (first | apply Kd.R_alloc | apply Kd.R_drewN | apply Kd.R_drew)); exact HO500.out))) (below_size (by repeat (first | (with_reducible first | exact HB.out | apply below_alloc | apply pw_below_drewN | apply below_drew1 | refine below_set ?_ GE493.out) | exact HB.out)))); have n2_ := Aside0.mk (blk_below (g := gb493) (o := .cells #[.int .i64 a0_0, .int .i64 a0_1, .int .i64 a0_2] 23 (0, 0)) (by (with_reducible repeat (first | refine blk_drewN ?_ _ | refine blk_drew ?_ | refine blk_alloc ?_ _)); exact BK493.out) hb); have n3_ := Aside0.mk (below_step (by repeat (first | (with_reducible first | exact HB.out | apply below_alloc | apply pw_below_drewN | apply below_drew1 | refine below_set ?_ GE493.out) | exact HB.out)) hb); clear HO500; clear BK493; clear HB; have HO500 := n0_; have HO504 := n1_; have BK493 := n2_; have HB := n3_; clear n0_ n1_ n2_ n3_; clear hb ho23; obtain ⟨Ao24, co24, eo24⟩ := Kd.R_slice HO504.out; subst eo24) | ((with_reducible refine gate_callee (f := 19) rfl ?_); refine goesL_ (some 21) rfl rfl Tryd.func19 (by kernel_rfl) rfl #[.agg #[.int .i64 a0_0, .int .i64 a0_1, .int .i64 a0_2], .slice Ao24 y502.length co24] rfl (by (try simp only [List.map_toArray, List.map_cons, List.map_nil]); first | done | rfl | (simp only [List.length_drop, List.length_take]; rfl)) ?_; (with_reducible refine (sackbutlaw04_fine.calls k a0_0 a0_1 a0_2 _ _ y502 false _ ?side1 ?side2 A13.out).mono ?_); (case side1 => repeat (first | exact (Kd.R_reads' HO504.out).2.2 | (with_reducible refine Kd.C_alloc ?_ _) | (with_reducible refine Kd.C_drewN ?_ _) | (with_reducible refine Kd.C_drew ?_))); (case side2 => exact (Kd.R_reads' HO504.out).2.1); rintro e w25 ⟨rfl, hb⟩; refine ⟨_, rfl, ?_⟩; have n0_ := Aside0.mk (Kd.R_below (by (with_reducible repeat (first | apply Kd.R_alloc | apply Kd.R_drewN | apply Kd.R_drew)); exact HO500.out) hb); have n1_ := Aside0.mk (Kd.R_below (by (with_reducible repeat (first | apply Kd.R_alloc | apply Kd.R_drewN | apply Kd.R_drew)); exact HO504.out) hb); have n2_ := Aside0.mk (blk_below (g := gb493) (o := .cells #[.int .i64 a0_0, .int .i64 a0_1, .int .i64 a0_2] 23 (0, 0)) (by (with_reducible repeat (first | refine blk_drewN ?_ _ | refine blk_drew ?_ | refine blk_alloc ?_ _)); exact BK493.out) hb); have n3_ := Aside0.mk (below_step (by repeat (first | (with_reducible first | exact HB.out | apply below_alloc | apply pw_below_drewN | apply below_drew1 | refine below_set ?_ GE493.out) | exact HB.out)) hb); clear HO500; clear HO504; clear BK493; clear HB; have HO500 := n0_; have HO504 := n1_; have BK493 := n2_; have HB := n3_; clear n0_ n1_ n2_ n3_; (try clear hb); (try clear hb2); (try clear hk); (try clear hi)))
      go_meet
      case rel => exact ⟨_, (true), (by first | rfl | (simp; done) | (simp [*]; done)), H', ⟨by first | omega | exact Nat.le_refl _⟩, ⟨by (with_reducible repeat (first | apply Kd.R_alloc | apply Kd.R_drewN | apply Kd.R_drew)); exact Kd.R_mono HO500.out (fun _ hk => trivial)⟩, ⟨by (with_reducible repeat (first | refine blk_drewN ?_ _ | refine blk_drew ?_ | refine blk_alloc ?_ _)); exact BK493.out⟩, ⟨by repeat (first | (with_reducible first | exact HB.out | apply below_alloc | apply pw_below_drewN | apply below_drew1 | refine below_set ?_ GE493.out) | exact HB.out)⟩⟩
  case rest =>
    clear HC7
    try clear c1
    try clear p2
    try clear c4
    try clear c13
    try clear c14
    try clear c17
    try clear c18
    try clear c19
    try clear hcz16_0
    try clear hcz16_1
    try clear hcz16_2
    try clear hcz21_0
    try clear hcz21_1
    try clear hcz21_2
    try clear hcz9_0
    try clear hcz9_1
    try clear hcz9_2
    try clear hfz16_0
    try clear hfz16_1
    try clear hfz16_2
    try clear hfz21_0
    try clear hfz21_1
    try clear hfz21_2
    try clear hfz9_0
    try clear hfz9_1
    try clear hfz9_2
    obtain ⟨kq, x27_6, rfl, HA, HJ6, HO_7, BK493, HB⟩ := hcut
    cases kq with
    | zero => exact absurd HA.out (by simp [sackbutlaw04_TriadsRounds.j0])
    | succ kj6 =>
      have H := HA.out
      clear HA
      simp only [sackbutlaw04_TriadsRounds.j0] at H
      by_cases c26 : x27_6 = true
      · subst c26
        have H1 : (if (t498.length : Int) = 0 then (if t501 = 2 then ((sackbutlaw04_awake.f).bind fun t507 => (some t507)) else (some false)) else (some false)) = some r := by rw [if_pos rfl] at H; exact H
        clear H
        have H := H1
        clear H1
        by_cases c27 : (t498.length : Int) = 0
        · rw [if_pos c27] at H
          have c27b0 : ((t498.length : Int) == 0) = true := beq_iff_eq.mpr c27
          have c27b1 : ((t498.length : Int) != 0) = false := bne_eq_false_iff_eq.mpr c27
          clear c27
          by_cases c28 : t501 = 2
          · rw [if_pos c28] at H
            have c28b0 : (t501 == 2) = true := beq_iff_eq.mpr c28
            have c28b1 : (t501 != 2) = false := bne_eq_false_iff_eq.mpr c28
            clear c28
            replace H := Option.bind_eq_some_iff.mp H
            obtain ⟨t507, A290, H⟩ := H
            replace H : (some t507) = some r := H
            have A29 := Aside0.mk A290
            clear A290
            obtain rfl := Option.some.inj H
            obtain ⟨Ao30, co30, eo30⟩ := Kd.R_slice HO_7.out
            subst eo30
            go_wp2_with (first | (go_at_call 20; (with_reducible refine (sackbutlaw04_awake.calls  t507 _ A29.out).mono ?_); rintro e w31 ⟨rfl, hb⟩; have n0_ := Aside0.mk (Kd.R_below (by (with_reducible repeat (first | apply Kd.R_alloc | apply Kd.R_drewN | apply Kd.R_drew)); exact HO_7.out) hb); have n1_ := Aside0.mk (blk_below (g := gb493) (o := .cells #[.int .i64 a0_0, .int .i64 a0_1, .int .i64 a0_2] 23 (0, 0)) (by (with_reducible repeat (first | refine blk_drewN ?_ _ | refine blk_drew ?_ | refine blk_alloc ?_ _)); exact BK493.out) hb); have n2_ := Aside0.mk (below_step (by repeat (first | (with_reducible first | exact HB.out | apply below_alloc | apply pw_below_drewN | apply below_drew1 | refine below_set ?_ GE493.out) | exact HB.out)) hb); clear HO_7; clear BK493; clear HB; have HO_7 := n0_; have BK493 := n1_; have HB := n2_; clear n0_ n1_ n2_; (try clear hb); (try clear hb2); (try clear hk); (try clear hi)))
            go_ret
            exact ⟨by first | rfl | (simp [errW_none, errW_some] <;> rfl) | (simp [*, errW_none, errW_some] <;> rfl), by repeat (first | (with_reducible first | exact HB.out | apply below_alloc | apply pw_below_drewN | apply below_drew1 | refine below_set ?_ GE493.out) | exact HB.out)⟩
          · rw [if_neg c28] at H
            have c28b0 : (t501 == 2) = false := beq_eq_false_iff_ne.mpr c28
            have c28b1 : (t501 != 2) = true := bne_iff_ne.mpr c28
            obtain rfl := Option.some.inj H
            obtain ⟨Ao32, co32, eo32⟩ := Kd.R_slice HO_7.out
            subst eo32
            go_wp2
            go_ret
            exact ⟨by first | rfl | (simp [errW_none, errW_some] <;> rfl) | (simp [*, errW_none, errW_some] <;> rfl), by repeat (first | (with_reducible first | exact HB.out | apply below_alloc | apply pw_below_drewN | apply below_drew1 | refine below_set ?_ GE493.out) | exact HB.out)⟩
        · rw [if_neg c27] at H
          have c27b0 : ((t498.length : Int) == 0) = false := beq_eq_false_iff_ne.mpr c27
          have c27b1 : ((t498.length : Int) != 0) = true := bne_iff_ne.mpr c27
          have c27b2 : ¬ (t498 = []) := fun h_ => c27 (by rw [h_]; rfl)
          obtain rfl := Option.some.inj H
          obtain ⟨Ao33, co33, eo33⟩ := Kd.R_slice HO_7.out
          subst eo33
          go_wp2
          go_ret
          exact ⟨by first | rfl | (simp [errW_none, errW_some] <;> rfl) | (simp [*, errW_none, errW_some] <;> rfl), by repeat (first | (with_reducible first | exact HB.out | apply below_alloc | apply pw_below_drewN | apply below_drew1 | refine below_set ?_ GE493.out) | exact HB.out)⟩
      · replace c26 := Bool.eq_false_iff.mpr c26
        subst c26
        have H1 : ((sackbutref04_Round.f kj6 a0_0 a0_1 a0_2 a1 a2).bind fun t508 => ((slices_Equal_int_int.f kj6 t498 t508).bind fun t511 => (if t511 = true then (if t501 = 0 then ((sackbutlaw04_awake.f).bind fun t512 => (some t512)) else (some false)) else (some false)))) = some r := by rw [if_neg (show ¬ (false = true) by decide)] at H; exact H
        clear H
        have H := H1
        clear H1
        replace H := Option.bind_eq_some_iff.mp H
        obtain ⟨t508, A340, H⟩ := H
        replace H : ((slices_Equal_int_int.f kj6 t498 t508).bind fun t511 => (if t511 = true then (if t501 = 0 then ((sackbutlaw04_awake.f).bind fun t512 => (some t512)) else (some false)) else (some false))) = some r := H
        have A34 := Aside0.mk A340
        clear A340
        replace H := Option.bind_eq_some_iff.mp H
        obtain ⟨t511, A350, H⟩ := H
        replace H : (if t511 = true then (if t501 = 0 then ((sackbutlaw04_awake.f).bind fun t512 => (some t512)) else (some false)) else (some false)) = some r := H
        have A35 := Aside0.mk A350
        clear A350
        by_cases c36 : t511 = true
        · subst c36
          have H1 : (if t501 = 0 then ((sackbutlaw04_awake.f).bind fun t512 => (some t512)) else (some false)) = some r := by rw [if_pos rfl] at H; exact H
          clear H
          have H := H1
          clear H1
          by_cases c37 : t501 = 0
          · rw [if_pos c37] at H
            have c37b0 : (t501 == 0) = true := beq_iff_eq.mpr c37
            have c37b1 : (t501 != 0) = false := bne_eq_false_iff_eq.mpr c37
            clear c37
            replace H := Option.bind_eq_some_iff.mp H
            obtain ⟨t512, A380, H⟩ := H
            replace H : (some t512) = some r := H
            have A38 := Aside0.mk A380
            clear A380
            obtain rfl := Option.some.inj H
            have hcz39_0 : wc.cell? ⟨gb493, 0, none⟩ = some (.int .i64 a0_0) := (blk_cell BK493.out 0).trans rfl
            have hcz39_1 : wc.cell? ⟨gb493, 1, none⟩ = some (.int .i64 a0_1) := (blk_cell BK493.out 1).trans rfl
            have hcz39_2 : wc.cell? ⟨gb493, 2, none⟩ = some (.int .i64 a0_2) := (blk_cell BK493.out 2).trans rfl
            have hfz39_0 := blk_frozen BK493.out 0
            have hfz39_1 := blk_frozen BK493.out 1
            have hfz39_2 := blk_frozen BK493.out 2
            go_wp2_with (first | ((with_reducible refine gate_callee (f := 49) rfl ?_); refine goesL_ (some 42) rfl rfl Tryd.func49 (by kernel_rfl) rfl #[.agg #[.int .i64 a0_0, .int .i64 a0_1, .int .i64 a0_2], .int .i64 a1, .string a2] rfl (by (try simp only [List.map_toArray, List.map_cons, List.map_nil]); first | done | rfl | (simp only [List.length_drop, List.length_take]; rfl)) ?_; (with_reducible refine (sackbutref04_Round.calls kj6 a0_0 a0_1 a0_2 a1 a2 t508 _ A34.out).mono ?_); rintro e w40 ⟨v509, rfl, ho0, hb⟩; refine ⟨_, rfl, ?_⟩; have n0_ := Aside0.mk (Kd.R_elder' (by (with_reducible repeat (first | apply Kd.R_alloc | apply Kd.R_drewN | apply Kd.R_drew)); exact HO_7.out) (Kd.R_base ho0) hb); have n1_ := Aside0.mk (Kd.R_lower (Kd.R_new' ho0 (Kd.R_lt (by (with_reducible repeat (first | apply Kd.R_alloc | apply Kd.R_drewN | apply Kd.R_drew)); exact HO_7.out))) (below_size (by repeat (first | (with_reducible first | exact HB.out | apply below_alloc | apply pw_below_drewN | apply below_drew1 | refine below_set ?_ GE493.out) | exact HB.out)))); have n2_ := Aside0.mk (blk_below (g := gb493) (o := .cells #[.int .i64 a0_0, .int .i64 a0_1, .int .i64 a0_2] 23 (0, 0)) (by (with_reducible repeat (first | refine blk_drewN ?_ _ | refine blk_drew ?_ | refine blk_alloc ?_ _)); exact BK493.out) hb); have n3_ := Aside0.mk (below_step (by repeat (first | (with_reducible first | exact HB.out | apply below_alloc | apply pw_below_drewN | apply below_drew1 | refine below_set ?_ GE493.out) | exact HB.out)) hb); clear HO_7; clear BK493; clear HB; have HO_7 := n0_; have HO510 := n1_; have BK493 := n2_; have HB := n3_; clear n0_ n1_ n2_ n3_; (try clear hb); (try clear hb2); (try clear hk); (try clear hi); (try clear ho0); obtain ⟨Ao41, co41, eo41⟩ := Kd.R_slice HO_7.out; subst eo41; obtain ⟨Ao42, co42, eo42⟩ := Kd.R_slice HO510.out; subst eo42) | ((with_reducible refine gate_callee (f := 36) rfl ?_); refine goesL_ (some 43) rfl rfl Tryd.func36 (by kernel_rfl) rfl #[.slice Ao41 t498.length co41, .slice Ao42 t508.length co42] rfl (by (try simp only [List.map_toArray, List.map_cons, List.map_nil]); first | done | rfl | (simp only [List.length_drop, List.length_take]; rfl)) ?_; (with_reducible refine (slices_Equal_int_int.calls kj6 _ _ t498 _ _ t508 true _ ?side1 ?side2 ?side3 ?side4 A35.out).mono ?_); (case side1 => repeat (first | exact (Kd.R_reads' HO_7.out).2.2 | (with_reducible refine Kd.C_alloc ?_ _) | (with_reducible refine Kd.C_drewN ?_ _) | (with_reducible refine Kd.C_drew ?_))); (case side2 => exact (Kd.R_reads' HO_7.out).2.1); (case side3 => repeat (first | exact (Kd.R_reads' HO510.out).2.2 | (with_reducible refine Kd.C_alloc ?_ _) | (with_reducible refine Kd.C_drewN ?_ _) | (with_reducible refine Kd.C_drew ?_))); (case side4 => exact (Kd.R_reads' HO510.out).2.1); rintro e w' ⟨rfl, ⟨nd, rfl⟩⟩; refine ⟨_, rfl, ?_⟩) | (go_at_call 20; (with_reducible refine (sackbutlaw04_awake.calls  t512 _ A38.out).mono ?_); rintro e w43 ⟨rfl, hb⟩; have n0_ := Aside0.mk (Kd.R_below (by (with_reducible repeat (first | apply Kd.R_alloc | apply Kd.R_drewN | apply Kd.R_drew)); exact HO_7.out) hb); have n1_ := Aside0.mk (Kd.R_below (by (with_reducible repeat (first | apply Kd.R_alloc | apply Kd.R_drewN | apply Kd.R_drew)); exact HO510.out) hb); have n2_ := Aside0.mk (blk_below (g := gb493) (o := .cells #[.int .i64 a0_0, .int .i64 a0_1, .int .i64 a0_2] 23 (0, 0)) (by (with_reducible repeat (first | refine blk_drewN ?_ _ | refine blk_drew ?_ | refine blk_alloc ?_ _)); exact BK493.out) hb); have n3_ := Aside0.mk (below_step (by repeat (first | (with_reducible first | exact HB.out | apply below_alloc | apply pw_below_drewN | apply below_drew1 | refine below_set ?_ GE493.out) | exact HB.out)) hb); clear HO_7; clear HO510; clear BK493; clear HB; have HO_7 := n0_; have HO510 := n1_; have BK493 := n2_; have HB := n3_; clear n0_ n1_ n2_ n3_; (try clear hb); (try clear hb2); (try clear hk); (try clear hi)))
            go_ret
            exact ⟨by first | rfl | (simp [errW_none, errW_some] <;> rfl) | (simp [*, errW_none, errW_some] <;> rfl), by repeat (first | (with_reducible first | exact HB.out | apply below_alloc | apply pw_below_drewN | apply below_drew1 | refine below_set ?_ GE493.out) | exact HB.out)⟩
          · rw [if_neg c37] at H
            have c37b0 : (t501 == 0) = false := beq_eq_false_iff_ne.mpr c37
            have c37b1 : (t501 != 0) = true := bne_iff_ne.mpr c37
            obtain rfl := Option.some.inj H
            have hcz44_0 : wc.cell? ⟨gb493, 0, none⟩ = some (.int .i64 a0_0) := (blk_cell BK493.out 0).trans rfl
            have hcz44_1 : wc.cell? ⟨gb493, 1, none⟩ = some (.int .i64 a0_1) := (blk_cell BK493.out 1).trans rfl
            have hcz44_2 : wc.cell? ⟨gb493, 2, none⟩ = some (.int .i64 a0_2) := (blk_cell BK493.out 2).trans rfl
            have hfz44_0 := blk_frozen BK493.out 0
            have hfz44_1 := blk_frozen BK493.out 1
            have hfz44_2 := blk_frozen BK493.out 2
            go_wp2_with (first | ((with_reducible refine gate_callee (f := 49) rfl ?_); refine goesL_ (some 42) rfl rfl Tryd.func49 (by kernel_rfl) rfl #[.agg #[.int .i64 a0_0, .int .i64 a0_1, .int .i64 a0_2], .int .i64 a1, .string a2] rfl (by (try simp only [List.map_toArray, List.map_cons, List.map_nil]); first | done | rfl | (simp only [List.length_drop, List.length_take]; rfl)) ?_; (with_reducible refine (sackbutref04_Round.calls kj6 a0_0 a0_1 a0_2 a1 a2 t508 _ A34.out).mono ?_); rintro e w45 ⟨v509, rfl, ho0, hb⟩; refine ⟨_, rfl, ?_⟩; have n0_ := Aside0.mk (Kd.R_elder' (by (with_reducible repeat (first | apply Kd.R_alloc | apply Kd.R_drewN | apply Kd.R_drew)); exact HO_7.out) (Kd.R_base ho0) hb); have n1_ := Aside0.mk (Kd.R_lower (Kd.R_new' ho0 (Kd.R_lt (by (with_reducible repeat (first | apply Kd.R_alloc | apply Kd.R_drewN | apply Kd.R_drew)); exact HO_7.out))) (below_size (by repeat (first | (with_reducible first | exact HB.out | apply below_alloc | apply pw_below_drewN | apply below_drew1 | refine below_set ?_ GE493.out) | exact HB.out)))); have n2_ := Aside0.mk (blk_below (g := gb493) (o := .cells #[.int .i64 a0_0, .int .i64 a0_1, .int .i64 a0_2] 23 (0, 0)) (by (with_reducible repeat (first | refine blk_drewN ?_ _ | refine blk_drew ?_ | refine blk_alloc ?_ _)); exact BK493.out) hb); have n3_ := Aside0.mk (below_step (by repeat (first | (with_reducible first | exact HB.out | apply below_alloc | apply pw_below_drewN | apply below_drew1 | refine below_set ?_ GE493.out) | exact HB.out)) hb); clear HO_7; clear BK493; clear HB; have HO_7 := n0_; have HO510 := n1_; have BK493 := n2_; have HB := n3_; clear n0_ n1_ n2_ n3_; (try clear hb); (try clear hb2); (try clear hk); (try clear hi); (try clear ho0); obtain ⟨Ao46, co46, eo46⟩ := Kd.R_slice HO_7.out; subst eo46; obtain ⟨Ao47, co47, eo47⟩ := Kd.R_slice HO510.out; subst eo47) | ((with_reducible refine gate_callee (f := 36) rfl ?_); refine goesL_ (some 43) rfl rfl Tryd.func36 (by kernel_rfl) rfl #[.slice Ao46 t498.length co46, .slice Ao47 t508.length co47] rfl (by (try simp only [List.map_toArray, List.map_cons, List.map_nil]); first | done | rfl | (simp only [List.length_drop, List.length_take]; rfl)) ?_; (with_reducible refine (slices_Equal_int_int.calls kj6 _ _ t498 _ _ t508 true _ ?side1 ?side2 ?side3 ?side4 A35.out).mono ?_); (case side1 => repeat (first | exact (Kd.R_reads' HO_7.out).2.2 | (with_reducible refine Kd.C_alloc ?_ _) | (with_reducible refine Kd.C_drewN ?_ _) | (with_reducible refine Kd.C_drew ?_))); (case side2 => exact (Kd.R_reads' HO_7.out).2.1); (case side3 => repeat (first | exact (Kd.R_reads' HO510.out).2.2 | (with_reducible refine Kd.C_alloc ?_ _) | (with_reducible refine Kd.C_drewN ?_ _) | (with_reducible refine Kd.C_drew ?_))); (case side4 => exact (Kd.R_reads' HO510.out).2.1); rintro e w' ⟨rfl, ⟨nd, rfl⟩⟩; refine ⟨_, rfl, ?_⟩))
            go_ret
            exact ⟨by first | rfl | (simp [errW_none, errW_some] <;> rfl) | (simp [*, errW_none, errW_some] <;> rfl), by repeat (first | (with_reducible first | exact HB.out | apply below_alloc | apply pw_below_drewN | apply below_drew1 | refine below_set ?_ GE493.out) | exact HB.out)⟩
        · replace c36 := Bool.eq_false_iff.mpr c36
          subst c36
          have H1 : (some false) = some r := by rw [if_neg (show ¬ (false = true) by decide)] at H; exact H
          clear H
          have H := H1
          clear H1
          obtain rfl := Option.some.inj H
          have hcz48_0 : wc.cell? ⟨gb493, 0, none⟩ = some (.int .i64 a0_0) := (blk_cell BK493.out 0).trans rfl
          have hcz48_1 : wc.cell? ⟨gb493, 1, none⟩ = some (.int .i64 a0_1) := (blk_cell BK493.out 1).trans rfl
          have hcz48_2 : wc.cell? ⟨gb493, 2, none⟩ = some (.int .i64 a0_2) := (blk_cell BK493.out 2).trans rfl
          have hfz48_0 := blk_frozen BK493.out 0
          have hfz48_1 := blk_frozen BK493.out 1
          have hfz48_2 := blk_frozen BK493.out 2
          go_wp2_with (first | ((with_reducible refine gate_callee (f := 49) rfl ?_); refine goesL_ (some 42) rfl rfl Tryd.func49 (by kernel_rfl) rfl #[.agg #[.int .i64 a0_0, .int .i64 a0_1, .int .i64 a0_2], .int .i64 a1, .string a2] rfl (by (try simp only [List.map_toArray, List.map_cons, List.map_nil]); first | done | rfl | (simp only [List.length_drop, List.length_take]; rfl)) ?_; (with_reducible refine (sackbutref04_Round.calls kj6 a0_0 a0_1 a0_2 a1 a2 t508 _ A34.out).mono ?_); rintro e w49 ⟨v509, rfl, ho0, hb⟩; refine ⟨_, rfl, ?_⟩; have n0_ := Aside0.mk (Kd.R_elder' (by (with_reducible repeat (first | apply Kd.R_alloc | apply Kd.R_drewN | apply Kd.R_drew)); exact HO_7.out) (Kd.R_base ho0) hb); have n1_ := Aside0.mk (Kd.R_lower (Kd.R_new' ho0 (Kd.R_lt (by (with_reducible repeat (first | apply Kd.R_alloc | apply Kd.R_drewN | apply Kd.R_drew)); exact HO_7.out))) (below_size (by repeat (first | (with_reducible first | exact HB.out | apply below_alloc | apply pw_below_drewN | apply below_drew1 | refine below_set ?_ GE493.out) | exact HB.out)))); have n2_ := Aside0.mk (blk_below (g := gb493) (o := .cells #[.int .i64 a0_0, .int .i64 a0_1, .int .i64 a0_2] 23 (0, 0)) (by (with_reducible repeat (first | refine blk_drewN ?_ _ | refine blk_drew ?_ | refine blk_alloc ?_ _)); exact BK493.out) hb); have n3_ := Aside0.mk (below_step (by repeat (first | (with_reducible first | exact HB.out | apply below_alloc | apply pw_below_drewN | apply below_drew1 | refine below_set ?_ GE493.out) | exact HB.out)) hb); clear HO_7; clear BK493; clear HB; have HO_7 := n0_; have HO510 := n1_; have BK493 := n2_; have HB := n3_; clear n0_ n1_ n2_ n3_; (try clear hb); (try clear hb2); (try clear hk); (try clear hi); (try clear ho0); obtain ⟨Ao50, co50, eo50⟩ := Kd.R_slice HO_7.out; subst eo50; obtain ⟨Ao51, co51, eo51⟩ := Kd.R_slice HO510.out; subst eo51) | ((with_reducible refine gate_callee (f := 36) rfl ?_); refine goesL_ (some 43) rfl rfl Tryd.func36 (by kernel_rfl) rfl #[.slice Ao50 t498.length co50, .slice Ao51 t508.length co51] rfl (by (try simp only [List.map_toArray, List.map_cons, List.map_nil]); first | done | rfl | (simp only [List.length_drop, List.length_take]; rfl)) ?_; (with_reducible refine (slices_Equal_int_int.calls kj6 _ _ t498 _ _ t508 false _ ?side1 ?side2 ?side3 ?side4 A35.out).mono ?_); (case side1 => repeat (first | exact (Kd.R_reads' HO_7.out).2.2 | (with_reducible refine Kd.C_alloc ?_ _) | (with_reducible refine Kd.C_drewN ?_ _) | (with_reducible refine Kd.C_drew ?_))); (case side2 => exact (Kd.R_reads' HO_7.out).2.1); (case side3 => repeat (first | exact (Kd.R_reads' HO510.out).2.2 | (with_reducible refine Kd.C_alloc ?_ _) | (with_reducible refine Kd.C_drewN ?_ _) | (with_reducible refine Kd.C_drew ?_))); (case side4 => exact (Kd.R_reads' HO510.out).2.1); rintro e w' ⟨rfl, ⟨nd, rfl⟩⟩; refine ⟨_, rfl, ?_⟩))
          go_ret
          exact ⟨by first | rfl | (simp [errW_none, errW_some] <;> rfl) | (simp [*, errW_none, errW_some] <;> rfl), by repeat (first | (with_reducible first | exact HB.out | apply below_alloc | apply pw_below_drewN | apply below_drew1 | refine below_set ?_ GE493.out) | exact HB.out)⟩

end Go.Proofs.YtpaeobpmkdekfaaDoor.P
end

section
namespace Go.Proofs.YtpaeobpmkdekfaaDoor.Base
open Go.RowKit Go.Proofs.YtpaeobpmkdekfaaDoor.P Go.Proofs.YtpaeobpmkdekfaaDoor.Kit Go.Proofs.YtpaeobpmkdekfaaDoorW.PrintWords Go.Proofs.YtpaeobpmkdekfaaDoorW.PrintLast Go.Proofs.YtpaeobpmkdekfaaDoor.Tri
/-- A byte of a string. -/
def at_ (s : ByteArray) (i : Nat) : UInt8 := s.data.toList.getD i 0
theorem bt_at (s : ByteArray) (i : Nat) (h : i < s.size) : bt s (i : Int) = ((at_ s i).toNat : Int) := bt_nat s i (by rw [data_length]; exact h)
theorem bt_eq_iff (s : ByteArray) (i j : Nat) (hi : i < s.size) (hj : j < s.size) : (bt s (i : Int) = bt s (j : Int)) ↔ at_ s i = at_ s j := by
  rw [bt_at s i hi, bt_at s j hj]
  constructor
  · intro h
    exact UInt8.toNat_inj.1 (by omega)
  · intro h
    rw [h]
theorem steps_true (s : ByteArray) (hs : s.size < 9223372036854775808) (hne : ∀ i j, i < s.size → j < i → at_ s i ≠ at_ s j) : ∀ d i : Nat, i + d = s.size → Ev (fun k => sackbutref04_Steps.l0 k s (s.size : Int) (i : Int)) (decide (1 ≤ s.size) && isWalkB s)
  | 0, i, h => by
    by_cases h1 : (s.size : Int) ≥ 1
    · refine Ev.step (f := fun k => (sackbutref04_IsWalk.f k s).bind fun t => some t) (fun k => ?_) (Ev.bind (rIsWalk_f s (by omega)) ?_)
      · simp only [sackbutref04_Steps.l0]
        rw [if_neg (by omega), if_pos h1]
      · rw [decide_eq_true (by omega), Bool.true_and]
        exact Ev.now _
    · refine Ev.done fun k => ?_
      simp only [sackbutref04_Steps.l0]
      rw [if_neg (by omega), if_neg h1, decide_eq_false (by omega), Bool.false_and]
  | d + 1, i, h => by
    have ih := steps_true s hs hne d (i + 1) (by omega)
    have inner : ∀ m j : Nat, j + m = i → Ev (fun k => sackbutref04_Steps.l1 k s (i : Int) (s.size : Int) (i : Int) (i : Int) (j : Int)) (decide (1 ≤ s.size) && isWalkB s) := by
      intro m
      induction m with
      | zero =>
        intro j hj
        refine Ev.step (fun k => ?_) ih
        simp only [sackbutref04_Steps.l1]
        rw [if_neg (by omega), wsucc3 i (by omega)]
      | succ m ihm =>
        intro j hj
        refine Ev.step (fun k => ?_) (ihm (j + 1) (by omega))
        simp only [sackbutref04_Steps.l1]
        rw [if_pos (by omega), if_pos (by omega), if_pos (by omega), if_pos (by omega), if_pos (by omega), if_neg (fun e => hne i j (by omega) (by omega) ((bt_eq_iff s i j (by omega) (by omega)).1 e)), wsucc3 j (by omega)]
    refine Ev.step (fun k => ?_) (inner i 0 (by omega))
    simp only [sackbutref04_Steps.l0]
    rw [if_pos (by omega)]
    rfl
theorem steps_false (s : ByteArray) (hs : s.size < 9223372036854775808) (p q : Nat) (hp : p < s.size) (hq : q < p) (he : at_ s p = at_ s q) : ∀ d i : Nat, i + d = p → Ev (fun k => sackbutref04_Steps.l0 k s (s.size : Int) (i : Int)) false
  | 0, i, h => by
    obtain rfl : i = p := by omega
    have inner : ∀ m j : Nat, j + m = q → Ev (fun k => sackbutref04_Steps.l1 k s (i : Int) (s.size : Int) (i : Int) (i : Int) (j : Int)) false := by
      intro m
      induction m with
      | zero =>
        intro j hj
        obtain rfl : j = q := by omega
        refine Ev.done fun k => ?_
        simp only [sackbutref04_Steps.l1]
        rw [if_pos (by omega), if_pos (by omega), if_pos (by omega), if_pos (by omega), if_pos (by omega), if_pos ((bt_eq_iff s i j (by omega) (by omega)).2 he)]
      | succ m ihm =>
        intro j hj
        by_cases e : bt s (i : Int) = bt s (j : Int)
        · refine Ev.done fun k => ?_
          simp only [sackbutref04_Steps.l1]
          rw [if_pos (by omega), if_pos (by omega), if_pos (by omega), if_pos (by omega), if_pos (by omega), if_pos e]
        · refine Ev.step (fun k => ?_) (ihm (j + 1) (by omega))
          simp only [sackbutref04_Steps.l1]
          rw [if_pos (by omega), if_pos (by omega), if_pos (by omega), if_pos (by omega), if_pos (by omega), if_neg e, wsucc3 j (by omega)]
    refine Ev.step (fun k => ?_) (inner q 0 (by omega))
    simp only [sackbutref04_Steps.l0]
    rw [if_pos (by omega)]
    rfl
  | d + 1, i, h => by
    have ih := steps_false s hs p q hp hq he d (i + 1) (by omega)
    have inner : ∀ m j : Nat, j + m = i → Ev (fun k => sackbutref04_Steps.l1 k s (i : Int) (s.size : Int) (i : Int) (i : Int) (j : Int)) false := by
      intro m
      induction m with
      | zero =>
        intro j hj
        refine Ev.step (fun k => ?_) ih
        simp only [sackbutref04_Steps.l1]
        rw [if_neg (by omega), wsucc3 i (by omega)]
      | succ m ihm =>
        intro j hj
        by_cases e : bt s (i : Int) = bt s (j : Int)
        · refine Ev.done fun k => ?_
          simp only [sackbutref04_Steps.l1]
          rw [if_pos (by omega), if_pos (by omega), if_pos (by omega), if_pos (by omega), if_pos (by omega), if_pos e]
        · refine Ev.step (fun k => ?_) (ihm (j + 1) (by omega))
          simp only [sackbutref04_Steps.l1]
          rw [if_pos (by omega), if_pos (by omega), if_pos (by omega), if_pos (by omega), if_pos (by omega), if_neg e, wsucc3 j (by omega)]
    refine Ev.step (fun k => ?_) (inner i 0 (by omega))
    simp only [sackbutref04_Steps.l0]
    rw [if_pos (by omega)]
    rfl
theorem count_nodup (l : List UInt8) (h : l.Nodup) (c : UInt8) : l.count c ≤ 1 := List.nodup_iff_count.1 h c
theorem nodup_at {s : ByteArray} : s.data.toList.Nodup ↔ ∀ i j, i < s.size → j < i → at_ s i ≠ at_ s j := by
  have hl := data_length s
  unfold at_
  rw [List.Nodup, List.pairwise_iff_getElem]
  constructor
  · intro h i j hi hj e
    have := h j i (by omega) (by omega) hj
    rw [List.getD_eq_getElem?_getD, List.getD_eq_getElem?_getD, List.getElem?_eq_getElem (by omega), List.getElem?_eq_getElem (by omega)] at e
    exact this e.symm
  · intro h i j hi hj hij e
    refine h j i (by omega) hij ?_
    rw [List.getD_eq_getElem?_getD, List.getD_eq_getElem?_getD, List.getElem?_eq_getElem (by omega), List.getElem?_eq_getElem (by omega)]
    exact e.symm
theorem step_mem {c : UInt8} (h : stepByte c = true) : c ∈ ([76, 80, 82] : List UInt8) := by
  revert h
  unfold stepByte
  simp only [Bool.or_eq_true, beq_iff_eq, List.mem_cons, List.not_mem_nil, or_false]
  rintro ((h | h) | h)
  · exact .inr (.inl h)
  · exact .inl h
  · exact .inr (.inr h)
theorem roundOk_iff (l : List UInt8) : roundOk l = true ↔ l.Nodup ∧ l ≠ [] ∧ l.all stepByte = true := by
  unfold roundOk
  simp only [Bool.and_eq_true, decide_eq_true_eq, Bool.not_eq_true', List.isEmpty_eq_false_iff]
  constructor
  · rintro ⟨h1, h2, h3, h4, h5⟩
    refine ⟨List.nodup_iff_count.2 fun c => ?_, h1, h2⟩
    by_cases hc : c ∈ l
    · have := step_mem (List.all_eq_true.1 h2 c hc)
      simp only [List.mem_cons, List.not_mem_nil, or_false] at this
      rcases this with rfl | rfl | rfl <;> assumption
    · rw [List.count_eq_zero_of_not_mem hc]
      omega
  · rintro ⟨h1, h2, h3⟩
    exact ⟨h2, h3, count_nodup l h1 _, count_nodup l h1 _, count_nodup l h1 _⟩
theorem roundOk_short {l : List UInt8} (h : roundOk l = true) : l.length ≤ 3 := by
  obtain ⟨h1, _, h3⟩ := (roundOk_iff l).1 h
  exact Bfs.nodup_length l [76, 80, 82] h1 (fun x hx => step_mem (List.all_eq_true.1 h3 x hx))
theorem rSteps_f (s : ByteArray) (hs : s.size < 9223372036854775808) : Ev (fun k => sackbutref04_Steps.f k s) (roundOk s.data.toList) := by
  have hl := data_length s
  by_cases hn : s.data.toList.Nodup
  · have e : roundOk s.data.toList = (decide (1 ≤ s.size) && isWalkB s) := by
      rw [Bool.eq_iff_iff, roundOk_iff, Bool.and_eq_true, decide_eq_true_eq]
      unfold isWalkB
      rw [Bool.and_eq_true, decide_eq_true_eq]
      constructor
      · rintro ⟨h1, h2, h3⟩
        have := roundOk_short ((roundOk_iff _).2 ⟨h1, h2, h3⟩)
        have := List.length_pos_iff.2 h2
        exact ⟨by omega, by omega, h3⟩
      · rintro ⟨h1, h2, h3⟩
        exact ⟨hn, List.length_pos_iff.1 (by omega), h3⟩
    rw [e]
    exact steps_true s hs (nodup_at.1 hn) s.size 0 (by omega)
  · have e : roundOk s.data.toList = false := by
      cases h : roundOk s.data.toList with
      | false => rfl
      | true => exact absurd ((roundOk_iff _).1 h).1 hn
    rw [e]
    have : ¬ ∀ i j, i < s.size → j < i → at_ s i ≠ at_ s j := fun h => hn (nodup_at.2 h)
    simp only [Classical.not_forall, Classical.not_not] at this
    obtain ⟨p, q, hp, hq, he⟩ := this
    exact steps_false s hs p q hp hq he p 0 (by omega)
end Go.Proofs.YtpaeobpmkdekfaaDoor.Base
end

section
namespace Go.Proofs.YtpaeobpmkdekfaaDoor.Base
open Go.RowKit Go.Proofs.YtpaeobpmkdekfaaDoor.P Go.Proofs.YtpaeobpmkdekfaaDoor.Kit Go.Proofs.YtpaeobpmkdekfaaDoorW.PrintWords Go.Proofs.YtpaeobpmkdekfaaDoorW.PrintLast Go.Proofs.YtpaeobpmkdekfaaDoor.Tri
/-- What some steps lead to, in so many steps at most. -/
def Reach (n a b : Int) (s : List UInt8) (t : Int) (r : Nat) (v : Int) : Prop := ∃ w : List UInt8, w.length ≤ r ∧ (∀ c, c ∈ w → c ∈ s) ∧ walkI n a b w t = v
theorem Reach.range {n a b : Int} (hn : 0 < n) {s : List UInt8} {t : Int} (h0 : 0 ≤ t) (h1 : t < 2 * n) {r : Nat} {v : Int} (h : Reach n a b s t r v) : 0 ≤ v ∧ v < 2 * n := by
  obtain ⟨w, _, _, rfl⟩ := h
  exact walk_range hn a b w t h0 h1
theorem Reach.snoc {n a b : Int} {s : List UInt8} {t : Int} {r : Nat} {v : Int} (h : Reach n a b s t r v) {c : UInt8} (hc : c ∈ s) : Reach n a b s t (r + 1) (stepU n a b v c) := by
  obtain ⟨w, h1, h2, rfl⟩ := h
  refine ⟨w ++ [c], by rw [List.length_append]; simpa using h1, ?_, by rw [walk_append]; rfl⟩
  intro d hd
  rcases List.mem_append.1 hd with hd | hd
  · exact h2 d hd
  · rw [List.mem_singleton.1 hd]; exact hc
theorem Reach.cases {n a b : Int} {s : List UInt8} {t : Int} {r : Nat} {v : Int} (h : Reach n a b s t (r + 1) v) : Reach n a b s t r v ∨ ∃ u c, Reach n a b s t r u ∧ c ∈ s ∧ v = stepU n a b u c := by
  obtain ⟨w, h1, h2, rfl⟩ := h
  by_cases hw : w = []
  · subst hw
    exact .inl ⟨[], by simp, h2, rfl⟩
  · right
    rw [← List.dropLast_concat_getLast hw] at h1 h2 ⊢
    refine ⟨walkI n a b w.dropLast t, w.getLast hw, ⟨w.dropLast, by simp at h1; simp; omega, fun c hc => h2 c (List.mem_append_left _ hc), rfl⟩, h2 _ (List.mem_append_right _ (List.mem_singleton.2 rfl)), ?_⟩
    rw [walk_append]
    rfl
theorem rd_setB (M : List Bool) (u v : Int) (hu : 0 ≤ u) (hv : 0 ≤ v) (hl : u < (M.length : Int)) : rdOf false (M.set u.toNat true) v = if u = v then true else rdOf false M v := by
  show (M.set u.toNat true).getD v.toNat false = if u = v then true else M.getD v.toNat false
  rw [List.getD_eq_getElem?_getD, List.getD_eq_getElem?_getD]
  by_cases h : u = v
  · subst h
    rw [if_pos rfl, List.getElem?_set_self (by omega)]
    rfl
  · rw [if_neg h, List.getElem?_set_ne (by omega)]
structure Met0 (n a b : Int) (s : List UInt8) (t : Int) (r : Nat) (M : List Bool) : Prop where
  len : M.length = (2 * n).toNat
  sound : ∀ v, 0 ≤ v → v < 2 * n → rdOf false M v = true → ∃ r, Reach n a b s t r v
  full : ∀ v, Reach n a b s t r v → rdOf false M v = true
structure Met1 (n a b : Int) (s : List UInt8) (t : Int) (r : Nat) (u : Nat) (M : List Bool) : Prop extends Met0 n a b s t r M where
  done : ∀ v : Int, v < u → Reach n a b s t r v → ∀ c, c ∈ s → rdOf false M (stepU n a b v c) = true
structure Met2 (n a b : Int) (s : List UInt8) (t : Int) (r : Nat) (u i : Nat) (M : List Bool) : Prop extends Met1 n a b s t r u M where
  part : Reach n a b s t r u → ∀ c, c ∈ s.take i → rdOf false M (stepU n a b u c) = true
theorem round_l3 (M : List Bool) (hM : M.length ≤ 32) : ∀ (d i : Nat) (acc : List Int), i + d = M.length → acc.length ≤ i → Ev (fun k => sackbutref04_Round.l3 k acc M (M.length : Int) (i : Int)) (acc ++ ((List.range' i d).map fun (x : Nat) => (x : Int)).filter fun v => rdOf false M v)
  | 0, i, acc, h, _ => by
    refine Ev.done fun k => ?_
    simp only [sackbutref04_Round.l3]
    rw [if_neg (by omega)]
    simp
  | d + 1, i, acc, h, ha => by
    have e : List.range' i (d + 1) = i :: List.range' (i + 1) d := rfl
    rw [e, List.map_cons, List.filter_cons]
    have hi : (i : Int) < (M.length : Int) := by omega
    cases hm : rdOf false M (i : Int) with
    | true =>
      rw [if_pos rfl, show acc ++ (i : Int) :: (((List.range' (i + 1) d).map fun (x : Nat) => (x : Int)).filter fun v => rdOf false M v) = (acc ++ [(i : Int)]) ++ (((List.range' (i + 1) d).map fun (x : Nat) => (x : Int)).filter fun v => rdOf false M v) by simp]
      refine Ev.step (fun k => ?_) (round_l3 M hM d (i + 1) (acc ++ [(i : Int)]) (by omega) (by rw [List.length_append]; simp; omega))
      simp only [sackbutref04_Round.l3]
      rw [if_pos hi, if_pos (by omega), if_pos hi, hm, if_pos rfl, if_pos (by omega), wsucc3 i (by omega)]
    | false =>
      rw [if_neg (by decide)]
      refine Ev.step (fun k => ?_) (round_l3 M hM d (i + 1) acc (by omega) (by omega))
      simp only [sackbutref04_Round.l3]
      rw [if_pos hi, if_pos (by omega), if_pos hi, hm, if_neg (by decide), wsucc3 i (by omega)]
theorem pairwise_all (n : Int) : List.Pairwise (fun x y : Int => x ≤ y) (all n) := by
  unfold all
  refine List.Pairwise.map _ ?_ List.pairwise_lt_range
  intro x y h
  omega
theorem sorted_known {n a b : Int} (hk : isKind n a b = true) (s : List UInt8) (t : Int) (h0 : 0 ≤ t) (h1 : t < 2 * n) : (all n).filter (fun v => Bfs.known (searchL n a b s t) v) = Slices.sorted ((searchL n a b s t).map (·.1)) := by
  have inv := searchL_inv hk s t h0 h1
  have good := searchL_good hk s t h0 h1
  refine List.Perm.eq_of_pairwise (le := fun x y : Int => x ≤ y) (fun x y _ _ h1 h2 => Int.le_antisymm h1 h2) ((pairwise_all n).sublist List.filter_sublist) ?_ ?_
  · have := List.pairwise_mergeSort (le := fun x y : Int => decide (x ≤ y)) (fun x y z h1 h2 => decide_eq_true (Int.le_trans (of_decide_eq_true h1) (of_decide_eq_true h2))) (fun x y => by rw [Bool.or_eq_true, decide_eq_true_eq, decide_eq_true_eq]; omega) ((searchL n a b s t).map (·.1))
    exact this.imp fun h => of_decide_eq_true h
  · refine List.Perm.trans ?_ (List.mergeSort_perm _ _).symm
    rw [List.perm_ext_iff_of_nodup (List.filter_sublist.nodup (all_nodup n)) inv.nodup]
    intro v
    rw [List.mem_filter, mem_all, List.mem_map]
    constructor
    · rintro ⟨_, h⟩
      obtain ⟨w, hw⟩ := Bfs.known_iff.1 h
      exact ⟨_, hw, rfl⟩
    · rintro ⟨q, hq, rfl⟩
      exact ⟨good.range q hq, Bfs.known_iff.2 ⟨q.2, hq⟩⟩
theorem met_known {n a b : Int} (hk : isKind n a b = true) (s : List UInt8) (t : Int) (h0 : 0 ≤ t) (h1 : t < 2 * n) {M : List Bool} (h : Met0 n a b s t (2 * n).toNat M) (v : Int) (hv0 : 0 ≤ v) (hv1 : v < 2 * n) : rdOf false M v = Bfs.known (searchL n a b s t) v := by
  rw [Bool.eq_iff_iff]
  constructor
  · intro hm
    obtain ⟨r, w, _, h2, h3⟩ := h.sound v hv0 hv1 hm
    exact (known_walk hk s t h0 h1 v).2 ⟨w, h2, h3⟩
  · intro hm
    obtain ⟨w, hw⟩ := Bfs.known_iff.1 hm
    have inv := searchL_inv hk s t h0 h1
    have good := searchL_good hk s t h0 h1
    have g1 := good.short _ hw
    obtain ⟨e1, e2⟩ := inv.leads _ hw
    refine h.full v ⟨w, ?_, e2, ?_⟩
    · rcases good.length with g | g
      · have : w.length < (searchL n a b s t).length := g1
        omega
      · have : w.length < (searchL n a b s t).length := g1
        omega
    · rw [← foldl_walk]
      exact e1.symm
theorem round_end {n a b : Int} (hk : isKind n a b = true) (s : List UInt8) (t : Int) (h0 : 0 ≤ t) (h1 : t < 2 * n) {M : List Bool} (h : Met0 n a b s t (2 * n).toNat M) : Ev (fun k => sackbutref04_Round.l3 k [] M (M.length : Int) 0) (Slices.sorted ((searchL n a b s t).map (·.1))) := by
  have h16 := (of_decide_eq_true hk).2.1
  have hl := h.len
  have := round_l3 M (by omega) M.length 0 [] (by omega) (by simp)
  rw [← sorted_known hk s t h0 h1]
  have e : (all n).filter (fun v => Bfs.known (searchL n a b s t) v) = [] ++ ((List.range' 0 M.length).map fun (x : Nat) => (x : Int)).filter fun v => rdOf false M v := by
    rw [List.nil_append, hl, ← List.range_eq_range']
    show (all n).filter _ = (all n).filter _
    refine List.filter_congr ?_
    intro v hv
    obtain ⟨hv0, hv1⟩ := mem_all.1 hv
    exact (met_known hk s t h0 h1 h v hv0 hv1).symm
  rw [e]
  exact this
theorem round_l0 {n a b : Int} (hk : isKind n a b = true) (s : ByteArray) (hs : s.size ≤ 60) (t : Int) (h0 : 0 ≤ t) (h1 : t < 2 * n) : ∀ (d r : Nat) (M : List Bool), r + d = (2 * n).toNat → Met0 n a b s.data.toList t r M → Ev (fun k => sackbutref04_Round.l0 k s M (2 * n) (r : Int) n a b) (Slices.sorted ((searchL n a b s.data.toList t).map (·.1)))
  | 0, r, M, hr, hM => by
    obtain rfl : r = (2 * n).toNat := by omega
    refine Ev.step (fun k => ?_) (round_end hk s.data.toList t h0 h1 hM)
    simp only [sackbutref04_Round.l0]
    rw [if_neg (by omega)]
  | d + 1, r, M, hr, hM => by
    have ih := round_l0 hk s hs t h0 h1 d (r + 1)
    have hn := kind_pos hk
    have h16 := (of_decide_eq_true hk).2.1
    have hdl := data_length s
    have inner1 : ∀ (e u : Nat) (M : List Bool), u + e = (2 * n).toNat → Met1 n a b s.data.toList t r u M → Ev (fun k => sackbutref04_Round.l1 k s M (2 * n) (r : Int) (2 * n) (u : Int) n a b) (Slices.sorted ((searchL n a b s.data.toList t).map (·.1))) := by
      intro e
      induction e with
      | zero =>
        intro u M hu hM
        refine Ev.step (fun k => ?_) (ih M (by omega) ⟨hM.len, hM.sound, ?_⟩)
        · simp only [sackbutref04_Round.l1]
          rw [if_neg (by omega), wsucc3 r (by omega)]
        · intro v hv
          rcases hv.cases with hv | ⟨x, c, hx, hc, rfl⟩
          · exact hM.full v hv
          · have := hx.range hn h0 h1
            exact hM.done x (by omega) hx c hc
      | succ e ihe =>
        intro u M hu hM
        have inner2 : ∀ (f i : Nat) (M : List Bool), i + f = s.size → Met2 n a b s.data.toList t r u i M → Ev (fun k => sackbutref04_Round.l2 k s M (u : Int) (2 * n) (r : Int) (2 * n) (u : Int) (s.size : Int) (i : Int) n a b) (Slices.sorted ((searchL n a b s.data.toList t).map (·.1))) := by
          intro f
          induction f with
          | zero =>
            intro i M hi hM
            refine Ev.step (fun k => ?_) (ihe (u + 1) M (by omega) ⟨hM.toMet0, ?_⟩)
            · simp only [sackbutref04_Round.l2]
              rw [if_neg (by omega), wsucc3 u (by omega)]
            · intro v hv hvr c hc
              by_cases hvu : v < (u : Int)
              · exact hM.done v hvu hvr c hc
              · obtain rfl : v = (u : Int) := by omega
                exact hM.part hvr c (by rw [List.take_of_length_le (by omega)]; exact hc)
          | succ f ihf =>
            intro i M hi hM
            have hl := hM.len
            have hil : i < s.data.toList.length := by omega
            have hb := bt_nat s i hil
            have hu0 : (0 : Int) ≤ (u : Int) := by omega
            have hu1 : (u : Int) < (M.length : Int) := by omega
            have hi0 : (0 : Int) ≤ (i : Int) := by omega
            have hi1 : (i : Int) < (s.size : Int) := by omega
            cases hm : rdOf false M (u : Int) with
            | true =>
              have hst := stepU_range hk (u : Int) (s.data.toList.getD i 0)
              have hst1 : stepI n a b (u : Int) ((s.data.toList.getD i 0).toNat : Int) = stepU n a b (u : Int) (s.data.toList.getD i 0) := rfl
              have hst0 : 0 ≤ stepU n a b (u : Int) (s.data.toList.getD i 0) := hst.1
              have hst2 : stepU n a b (u : Int) (s.data.toList.getD i 0) < (M.length : Int) := by omega
              have hmem : s.data.toList.getD i 0 ∈ s.data.toList := by
                rw [List.getD_eq_getElem?_getD, List.getElem?_eq_getElem hil]
                exact List.getElem_mem hil
              have mono : ∀ v, 0 ≤ v → rdOf false M v = true → rdOf false (M.set (stepU n a b (u : Int) (s.data.toList.getD i 0)).toNat true) v = true := by
                intro v hv h
                rw [rd_setB M _ v hst0 hv hst2, h]
                split <;> rfl
              refine Ev.step (fun k => ?_) (ihf (i + 1) (M.set (stepU n a b (u : Int) (s.data.toList.getD i 0)).toNat true) (by omega) ⟨⟨⟨by rw [List.length_set]; exact hl, ?_, ?_⟩, ?_⟩, ?_⟩)
              · simp only [sackbutref04_Round.l2]
                rw [if_pos hi1]
                simp only [hu0, hu1, hm, hi0, hi1, if_true, hb, rStep_f hk (u : Int) _ hu0 (by omega), Option.bind_some, hst1, hst0, hst2]
                rw [wsucc3 i (by omega)]
              · intro v hv0 hv1 h
                rw [rd_setB M _ v hst0 hv0 hst2] at h
                split at h
                · rename_i e
                  subst e
                  obtain ⟨r', hr'⟩ := hM.sound u hu0 (by omega) hm
                  exact ⟨_, hr'.snoc hmem⟩
                · exact hM.sound v hv0 hv1 h
              · intro v hv
                exact mono v (hv.range hn h0 h1).1 (hM.full v hv)
              · intro v hvu hv c hc
                exact mono _ (stepU_range hk v c).1 (hM.done v hvu hv c hc)
              · intro hur c hc
                rw [List.take_succ_eq_append_getElem hil] at hc
                rcases List.mem_append.1 hc with hc | hc
                · exact mono _ (stepU_range hk _ c).1 (hM.part hur c hc)
                · have e : c = s.data.toList.getD i 0 := by
                    rw [List.getD_eq_getElem?_getD, List.getElem?_eq_getElem hil]
                    exact List.mem_singleton.1 hc
                  rw [e, rd_setB M _ _ hst0 hst0 hst2, if_pos rfl]
            | false =>
              refine Ev.step (fun k => ?_) (ihf (i + 1) M (by omega) ⟨hM.toMet1, ?_⟩)
              · simp only [sackbutref04_Round.l2]
                rw [if_pos hi1]
                simp only [hu0, hu1, hm, if_true, Bool.false_eq_true, if_false]
                rw [wsucc3 i (by omega)]
              · intro hur c hc
                have := hM.full _ hur
                rw [hm] at this
                cases this
        refine Ev.step (fun k => ?_) (inner2 s.size 0 M (by omega) ⟨hM, ?_⟩)
        · simp only [sackbutref04_Round.l1]
          rw [if_pos (by omega)]
          rfl
        · intro _ c hc
          simp at hc
    have hl := hM.len
    refine Ev.step (fun k => ?_) (inner1 (2 * n).toNat 0 M (by omega) ⟨hM, ?_⟩)
    · simp only [sackbutref04_Round.l0]
      rw [if_pos (by omega), show (M.length : Int) = 2 * n by omega]
      rfl
    · intro v hv hvr
      have := hvr.range hn h0 h1
      omega
theorem rRound_f {n a b : Int} (hk : isKind n a b = true) (s : ByteArray) (hs : s.size ≤ 60) (t : Int) (h0 : 0 ≤ t) (h1 : t < 2 * n) : Ev (fun k => sackbutref04_Round.f k n a b t s) (Slices.sorted ((searchL n a b s.data.toList t).map (·.1))) := by
  have hn := kind_pos hk
  have h16 := (of_decide_eq_true hk).2.1
  unfold sackbutref04_Round.f
  have e : wrap64 (2 * n) = 2 * n := w64 (by omega) (by omega)
  have hl : (List.replicate (2 * n).toNat false).length = (2 * n).toNat := List.length_replicate
  have g1 : 0 ≤ 2 * n := by omega
  have g2 : (2 * n).toNat ≤ 281474976710656 := by omega
  have g3 : t < (((2 * n).toNat : Nat) : Int) := by omega
  have g4 : (((2 * n).toNat : Nat) : Int) = 2 * n := by omega
  simp only [e, g1, g2, hl, h0, g3, if_true, Option.bind_some]
  rw [g4]
  refine round_l0 hk s hs t h0 h1 (2 * n).toNat 0 _ (by omega) ⟨by rw [List.length_set, hl], ?_, ?_⟩
  · intro v hv0 hv1 h
    rw [rd_setB _ t v h0 hv0 (by rw [hl]; exact g3)] at h
    split at h
    · rename_i e'
      exact ⟨0, [], by simp, (by intro c hc; cases hc), e'⟩
    · have : rdOf false (List.replicate (2 * n).toNat false) v = false := by
        show (List.replicate (2 * n).toNat false).getD v.toNat false = false
        rw [List.getD_eq_getElem?_getD, List.getElem?_replicate]
        split <;> rfl
      rw [this] at h
      cases h
  · rintro v ⟨w, hw, _, rfl⟩
    obtain rfl : w = [] := List.eq_nil_of_length_eq_zero (by omega)
    have : walkI n a b [] t = t := rfl
    rw [this, rd_setB _ t t h0 h0 (by rw [hl]; exact g3), if_pos rfl]
end Go.Proofs.YtpaeobpmkdekfaaDoor.Base
end

section
namespace Go.Proofs.YtpaeobpmkdekfaaDoor.Base
open Go.RowKit Go.Proofs.YtpaeobpmkdekfaaDoor.P Go.Proofs.YtpaeobpmkdekfaaDoor.Kit Go.Proofs.YtpaeobpmkdekfaaDoorW.PrintWords Go.Proofs.YtpaeobpmkdekfaaDoorW.PrintLast
theorem round_f (n a b t : Int) (s : ByteArray) (hs : s.size ≤ 1000) (hn : Int64 n) (ha : Int64 a) (hb : Int64 b) : triads_Round.f n a b t s = some (if (isKind n a b && isTri n t && roundOk s.data.toList) = true then (Slices.sorted ((searchL n a b s.data.toList t).map (·.1)), 0) else ([], 2)) := by
  unfold triads_Round.f
  rw [isTriad_f n a b t hn ha hb]
  simp only [Option.bind_some]
  cases hk : (isKind n a b && isTri n t) with
  | false =>
    simp [hs]
  | true =>
    obtain ⟨hk1, hk2⟩ := Bool.and_eq_true_iff.1 hk
    have h2 := of_decide_eq_true hk2
    cases hr : roundOk s.data.toList with
    | false => simp [hs]
    | true =>
      have h3 := roundOk_short hr
      have hl := data_length s
      have h60 : s.size ≤ 60 := by omega
      simp [hk1, h2.1, h2.2, h60]
/-- A text that is cut is a text of steps just where it was one before. -/
theorem text_steps (s : ByteArray) : ∃ tx, sackbutlaw04_text.f s = some tx ∧ tx.size ≤ 1000 ∧ (roundOk s.data.toList = true → tx = s) ∧ roundOk tx.data.toList = roundOk s.data.toList := by
  have hl := data_length s
  by_cases h70 : s.size ≤ 70
  · exact ⟨s, text_short s h70, by omega, fun _ => rfl, rfl⟩
  · obtain ⟨x, h1, h2⟩ := text_long s (by omega)
    have hx := data_length x
    have f1 : roundOk s.data.toList = false := by
      cases h : roundOk s.data.toList with
      | false => rfl
      | true => have := roundOk_short h; omega
    have f2 : roundOk x.data.toList = false := by
      cases h : roundOk x.data.toList with
      | false => rfl
      | true => have := roundOk_short h; omega
    exact ⟨x, h1, by omega, (fun h => by rw [f1] at h; cases h), by rw [f1, f2]⟩
theorem round_size {n a b : Int} (hk : isKind n a b = true) (s : List UInt8) (t : Int) (h0 : 0 ≤ t) (h1 : t < 2 * n) : (Slices.sorted ((searchL n a b s t).map (·.1))).length = (searchL n a b s t).length ∧ (searchL n a b s t).length ≤ 32 := by
  have h16 := (of_decide_eq_true hk).2.1
  have good := searchL_good hk s t h0 h1
  refine ⟨by unfold Slices.sorted; rw [List.length_mergeSort, List.length_map], ?_⟩
  rcases good.length with h | h <;> omega
end Go.Proofs.YtpaeobpmkdekfaaDoor.Base
namespace Go.Proofs.YtpaeobpmkdekfaaDoor.Pure
open Go.RowKit Go.Proofs.YtpaeobpmkdekfaaDoor.P Go.Proofs.YtpaeobpmkdekfaaDoor.Kit Go.Proofs.YtpaeobpmkdekfaaDoor.Base Go.Proofs.YtpaeobpmkdekfaaDoorW.PrintWords Go.Proofs.YtpaeobpmkdekfaaDoorW.PrintLast
theorem TriadsRounds (a0 a1 a2 b1 : Int) (b2 : ByteArray) (w0 : (Lit.int .i64 a0).wf = true) (w1 : (Lit.int .i64 a1).wf = true) (w2 : (Lit.int .i64 a2).wf = true) (_wb1 : (Lit.int .i64 b1).wf = true) (wb2 : b2.size ≤ maxLen) : ∃ k, P.sackbutlaw04_TriadsRounds.f k a0 a1 a2 b1 b2 = some true := by
  have hn := int64_of w0
  have ha := int64_of w1
  have hb := int64_of w2
  have hs : b2.size < 9223372036854775808 := by unfold maxLen at wb2; omega
  obtain ⟨tx, htx, hts, hsame, hsw⟩ := text_steps b2
  refine Ev.rounds ?_
  unfold P.sackbutlaw04_TriadsRounds.f
  simp only [sackbutlaw04_Of.f, Option.bind_some, htx, round_f _ _ _ _ tx hts hn ha hb, hsw]
  refine Ev.bind (fine_f a0 a1 a2 b1 hn ha hb) ?_
  cases hk : (isKind a0 a1 a2 && isTri a0 b1) with
  | false =>
    simp only [Bool.false_and, Bool.false_eq_true, if_false]
    refine Ev.done fun k => ?_
    simp [P.sackbutlaw04_TriadsRounds.j0, awake_f]
  | true =>
    obtain ⟨hk1, hk2⟩ := Bool.and_eq_true_iff.1 hk
    have h2 := of_decide_eq_true hk2
    simp only [if_true, Bool.true_and]
    refine Ev.bind (rSteps_f b2 hs) ?_
    cases hr : roundOk b2.data.toList with
    | false =>
      refine Ev.done fun k => ?_
      simp [P.sackbutlaw04_TriadsRounds.j0, awake_f]
    | true =>
      obtain rfl := hsame hr
      have h3 := roundOk_short hr
      have hl := data_length tx
      have hz := round_size hk1 tx.data.toList b1 h2.1 h2.2
      refine Ev.step (f := fun k => (sackbutref04_Round.f k a0 a1 a2 b1 tx).bind fun t508 => ((slices_Equal_int_int.f k (Slices.sorted ((searchL a0 a1 a2 tx.data.toList b1).map (·.1))) t508).bind fun t511 => (if t511 = true then some true else some false))) (fun k => ?_) (Ev.bind (rRound_f hk1 tx (by omega) b1 h2.1 h2.2) (Ev.bind (equal_self _ (by rw [hz.1]; omega)) (by simp only [if_true]; exact Ev.now _)))
      simp [P.sackbutlaw04_TriadsRounds.j0, awake_f]
end Go.Proofs.YtpaeobpmkdekfaaDoor.Pure
end
