/- Texts that the proof of TriadsPairs needs, put together in build order by this session's program (wip/tools/claimtrim.py). -/
import Derived.Test.YtpaeobpmkdekfaaDoorTriadsPairsM5
import Derived.Test.YtpaeobpmkdekfaaDoorTriadsPairsM7
import Derived.Test.YtpaeobpmkdekfaaDoorTriadsPairsM10
import Derived.Test.YtpaeobpmkdekfaaDoorTriadsPairsM6
import Derived.Test.YtpaeobpmkdekfaaDoorTriadsPairsM13
import Derived.Test.YtpaeobpmkdekfaaDoorTriadsPairsM14
import Derived.Laws.RangeString
section
namespace Go.Proofs.YtpaeobpmkdekfaaDoor.P
open Go.RowKit Go.Proofs.YtpaeobpmkdekfaaDoorW.PrintWords Go.Proofs.YtpaeobpmkdekfaaDoorW.PrintLast Go.Proofs.YtpaeobpmkdekfaaDoorW.PrintMore
set_option linter.unusedVariables false
set_option linter.unusedSimpArgs false
section
open Go.Shelf Go.Proofs.YtpaeobpmkdekfaaDoor.MapLaws Go.Proofs.YtpaeobpmkdekfaaDoor.Base
/-- Steps of a round, each at most once. -/
def roundOk (s : List UInt8) : Bool := !s.isEmpty && (s.all stepByte && (decide (s.count 76 ≤ 1) && (decide (s.count 80 ≤ 1) && decide (s.count 82 ≤ 1))))
def triads_Round.f (a0_0 a0_1 a0_2 a1 : Int) (a2 : ByteArray) : Option (List Int × Int) := (triads_Kind_isTriad.f a0_0 a0_1 a0_2 [a1]).bind fun v => if v = true ∧ roundOk a2.data.toList = true then (if isKind a0_0 a0_1 a0_2 = true ∧ 0 ≤ a1 ∧ a1 < 2 * a0_0 ∧ a2.size ≤ 60 then some (Slices.sorted ((searchL a0_0 a0_1 a0_2 a2.data.toList a1).map (·.1)), 0) else none) else if a2.size ≤ 1000 then some ([], 2) else none
theorem sorted_of_perm {l l' : List Int} (h : l.Perm l') : Slices.sorted l = Slices.sorted l' := by
  unfold Slices.sorted
  have ht : ∀ a b c : Int, decide (a ≤ b) = true → decide (b ≤ c) = true → decide (a ≤ c) = true := by
    intro a b c h1 h2
    simp only [decide_eq_true_eq] at *
    omega
  have hc : ∀ a b : Int, (decide (a ≤ b) || decide (b ≤ a)) = true := by
    intro a b
    simp only [Bool.or_eq_true, decide_eq_true_eq]
    omega
  refine List.Perm.eq_of_pairwise (le := fun a b : Int => a ≤ b) (fun a b _ _ h1 h2 => by omega) ?_ ?_ (((List.mergeSort_perm l _).trans h).trans (List.mergeSort_perm l' _).symm)
  · exact (List.pairwise_mergeSort ht hc l).imp (fun h => of_decide_eq_true h)
  · exact (List.pairwise_mergeSort ht hc l').imp (fun h => of_decide_eq_true h)
set_option maxHeartbeats 4000000 in
set_option maxRecDepth 100000 in
theorem triads_Round.calls (a0_0 : Int) (a0_1 : Int) (a0_2 : Int) (a1 : Int) (a2 : ByteArray) (r1 : List Int) (r2 : Int) (w : World) (h : triads_Round.f a0_0 a0_1 a0_2 a1 a2 = some (r1, r2)) :
    Calls Tryd.prog 47 #[.agg #[.int .i64 a0_0, .int .i64 a0_1, .int .i64 a0_2], .int .i64 a1, .string a2] w fun e w' => ∃ v0_ : Value, e = .returned (.tuple #[v0_, .int .i64 r2]) ∧ Kd.R (Kd.int .i64) 3 w' w.heap.size (fun _ => True) v0_ r1 ∧ Below w.heap.size w w' := by
  obtain ⟨v, hv, h2⟩ := Option.bind_eq_some_iff.1 h
  have HV := Aside0.mk hv
  have H2 := Aside0.mk h2
  clear h h2 hv
  have HB0 := Aside0.mk (show Below w.heap.size w ((w.alloc (.cells #[.int .i64 a0_0, .int .i64 a0_1, .int .i64 a0_2] 27)).alloc (.cells #[.int .i64 a1] 3)) from ((Below.refl _ w).alloc (Nat.le_refl _) _).alloc (by simp) _)
  have HX0 := Aside0.mk (show ((w.alloc (.cells #[.int .i64 a0_0, .int .i64 a0_1, .int .i64 a0_2] 27)).alloc (.cells #[.int .i64 a1] 3)).heap[w.heap.size]? = some (.cells #[.int .i64 a0_0, .int .i64 a0_1, .int .i64 a0_2] 27 (0, 0)) from blk_alloc (World.alloc_heap_new w _) _)
  have hC0 := lit1_C (w.alloc (.cells #[.int .i64 a0_0, .int .i64 a0_1, .int .i64 a0_2] 27)) a1
  rw [World.size_alloc] at hC0
  have HC0 := Aside0.mk hC0
  have law := Maps.int_keyed (P := Tryd.prog) Tryd.underlying3
  clear hC0
  have hsz : a2.size ≤ 1000 := by
    have h2 := H2.out
    by_cases c1 : v = true ∧ roundOk a2.data.toList = true
    · rw [if_pos c1] at h2
      by_cases c2 : isKind a0_0 a0_1 a0_2 = true ∧ 0 ≤ a1 ∧ a1 < 2 * a0_0 ∧ a2.size ≤ 60
      · omega
      · rw [if_neg c2] at h2; cases h2
    · rw [if_neg c1] at h2
      by_cases c2 : a2.size ≤ 1000
      · exact c2
      · rw [if_neg c2] at h2; cases h2
  go_enter Tryd.func47, Tryd.ntmps47
  go_wp2_with fail
  refine (triads_Kind_isTriad.calls a0_0 a0_1 a0_2 _ 1 [a1] v _ HC0.out (by simp) HV.out).mono ?_
  rintro e W1 ⟨rfl, hb⟩
  have HB1 := Aside0.mk (HB0.out.trans (hb.mono HB0.out.size))
  have HX1 := Aside0.mk ((hb.block _ (blk_lt HX0.out)).trans HX0.out)
  clear hb
  have q0 : W1.cell? ⟨w.heap.size, 0, none⟩ = some (.int .i64 a0_0) := (blk_cell HX1.out 0).trans rfl
  have q1 : W1.cell? ⟨w.heap.size, 1, none⟩ = some (.int .i64 a0_1) := (blk_cell HX1.out 1).trans rfl
  have q2 : W1.cell? ⟨w.heap.size, 2, none⟩ = some (.int .i64 a0_2) := (blk_cell HX1.out 2).trans rfl
  cases v with
  | false =>
    have h3 := H2.out
    rw [if_neg (by simp), if_pos hsz] at h3
    obtain ⟨rfl, rfl⟩ : ([] : List Int) = r1 ∧ (2 : Int) = r2 := by simpa using h3
    clear h3
    go_wp2_with fail
    go_ret2
    exact ⟨_, rfl, Kd.R_nil _ _ _ _ _, HB1.out⟩
  | true =>
    by_cases he : a2.data.toList = []
    · have h3 := H2.out
      rw [if_neg (by rw [he]; simp [roundOk]), if_pos hsz] at h3
      obtain ⟨rfl, rfl⟩ : ([] : List Int) = r1 ∧ (2 : Int) = r2 := by simpa using h3
      have he2 : a2.toList.isEmpty = true := by rw [ByteArray.toList_eq, he]; rfl
      have he3 : a2.toList = [] := by rw [ByteArray.toList_eq, he]
      clear h3
      go_wp2_with fail
      go_ret2
      exact ⟨_, rfl, Kd.R_nil _ _ _ _ _, HB1.out⟩
    · have he2 : (!a2.toList.isEmpty) = true := by rw [ByteArray.toList_eq]; simpa using he
      have he3 : a2.toList.isEmpty = false := by rw [ByteArray.toList_eq]; simpa using he
      have hne : a2.data.toList.isEmpty = false := by simpa using he
      have HNe := Aside0.mk hne
      clear hne he
      go_wp2_with fail
      refine (Any.strings_Trim_laid Tryd.lays160 (by kernel_rfl) a2 ⟨#[80, 76, 82]⟩ W1 (by omega) (by decide) (ascii_of_all (by decide))).mono ?_
      rintro e W2 ⟨rfl, hb⟩
      have HB2 := Aside0.mk (HB1.out.trans (hb.mono HB1.out.size))
      have HX2 := Aside0.mk ((hb.block _ (blk_lt HX1.out)).trans HX1.out)
      clear hb q0 q1 q2
      have q0 : W2.cell? ⟨w.heap.size, 0, none⟩ = some (.int .i64 a0_0) := (blk_cell HX2.out 0).trans rfl
      have q1 : W2.cell? ⟨w.heap.size, 1, none⟩ = some (.int .i64 a0_1) := (blk_cell HX2.out 1).trans rfl
      have q2 : W2.cell? ⟨w.heap.size, 2, none⟩ = some (.int .i64 a0_2) := (blk_cell HX2.out 2).trans rfl
      by_cases htr : Lib.trimS a2.data.toList [80, 76, 82] = []
      case neg =>
        have htr2 : (!(Lib.trimS a2.data.toList [80, 76, 82]).isEmpty) = true := by simpa using htr
        have htr3 : (Lib.trimS a2.data.toList [80, 76, 82]).isEmpty = false := by simpa using htr
        have h3 := H2.out
        rw [if_neg (fun h => htr ((trim_empty _).2 (by have := h.2; unfold roundOk at this; simp only [Bool.and_eq_true] at this; exact this.2.1))), if_pos hsz] at h3
        obtain ⟨rfl, rfl⟩ : ([] : List Int) = r1 ∧ (2 : Int) = r2 := by simpa using h3
        clear h3 htr
        go_wp2_with fail
        go_ret2
        exact ⟨_, rfl, Kd.R_nil _ _ _ _ _, HB2.out⟩
      have htr3 : (Lib.trimS a2.data.toList [80, 76, 82]).isEmpty = true := by rw [htr]; rfl
      have hall := (trim_empty _).1 htr
      have HAll := Aside0.mk hall
      clear htr hall
      go_wp2_with fail
      go_loopg [9] 3 (fun gk v wr => ∃ i : Nat, gk + i = 3 ∧ wr = W2.iter ⟨#[76, 80, 82]⟩ i ∧ Aside0 ((1 ≤ i → List.count 76 a2.data.toList ≤ 1) ∧ (2 ≤ i → List.count 80 a2.data.toList ≤ 1) ∧ (3 ≤ i → List.count 82 a2.data.toList ≤ 1)))
      case atStart => exact ⟨0, rfl, rfl, ⟨by omega, by omega, by omega⟩⟩
      case round =>
        obtain ⟨i, hgi, rfl, hk⟩ := hrel
        have hi : i = 0 ∨ i = 1 ∨ i = 2 ∨ i = 3 := by omega
        rcases hi with hi0 | hi1 | hi2 | hi3
        · subst hi0
          have hn : ∀ ty, (Instr.next (.pointer (some ⟨W2.heap.size, 0, none⟩)) true ty).run Tryd.prog (W2.iter ⟨#[76, 80, 82]⟩ 0) = .ok (.tuple #[.bool true, .int .i64 0, .int .i32 76]) (W2.iter ⟨#[76, 80, 82]⟩ 1) := fun ty => run_next_ascii (P := Tryd.prog) W2 ⟨#[76, 80, 82]⟩ 0 ty (by decide) (by decide)
          have kc : ∀ W : World, (convert 21 9 (.int .i32 76)).run Tryd.prog W = .ok (.string ⟨#[76]⟩) W := fun W => (run_convert_int_string (P := Tryd.prog) W 21 9 .i32 76 rfl Tryd.underlying9).trans (by rfl)
          obtain ⟨n, hn2⟩ : ∃ n : Nat, n = Lib.countByte a2.data.toList 76 := ⟨_, rfl⟩
          have HN := Aside0.mk hn2
          by_cases hc : 1 < n
          · have hc2 : (1 : Int) < (n : Int) := by omega
            have h3 := H2.out
            rw [if_neg (fun h => by have h4 := h.2; unfold roundOk at h4; simp only [Bool.and_eq_true, decide_eq_true_eq] at h4; have h5 : n = List.count 76 a2.data.toList := hn2; omega), if_pos hsz] at h3
            obtain ⟨rfl, rfl⟩ : ([] : List Int) = r1 ∧ (2 : Int) = r2 := by simpa using h3
            clear h3 hn2
            go_wp2_with (go_at_call 74; refine (Tryd.strings_Count_one a2 76 _).mono ?_; rintro e w' ⟨rfl, rfl⟩; rw [← HN.out])
            go_ret2
            exact ⟨_, rfl, Kd.R_nil _ _ _ _ _, HB2.out.alloc HB2.out.size _⟩
          · have hc2 : ¬ (1 : Int) < (n : Int) := by omega
            have HN2 := Aside0.mk (show List.count 76 a2.data.toList ≤ 1 by have h5 : n = List.count 76 a2.data.toList := hn2; omega)
            clear hn2
            go_wp2_with (go_at_call 74; refine (Tryd.strings_Count_one a2 76 _).mono ?_; rintro e w' ⟨rfl, rfl⟩; rw [← HN.out])
            go_roundg 2
            case measure => omega
            case rel => exact ⟨1, by omega, rfl, ⟨⟨fun _ => HN2.out, fun h => by omega, fun h => by omega⟩⟩⟩
        · subst hi1
          have hn : ∀ ty, (Instr.next (.pointer (some ⟨W2.heap.size, 0, none⟩)) true ty).run Tryd.prog (W2.iter ⟨#[76, 80, 82]⟩ 1) = .ok (.tuple #[.bool true, .int .i64 1, .int .i32 80]) (W2.iter ⟨#[76, 80, 82]⟩ 2) := fun ty => run_next_ascii (P := Tryd.prog) W2 ⟨#[76, 80, 82]⟩ 1 ty (by decide) (by decide)
          have kc : ∀ W : World, (convert 21 9 (.int .i32 80)).run Tryd.prog W = .ok (.string ⟨#[80]⟩) W := fun W => (run_convert_int_string (P := Tryd.prog) W 21 9 .i32 80 rfl Tryd.underlying9).trans (by rfl)
          obtain ⟨n, hn2⟩ : ∃ n : Nat, n = Lib.countByte a2.data.toList 80 := ⟨_, rfl⟩
          have HN := Aside0.mk hn2
          by_cases hc : 1 < n
          · have hc2 : (1 : Int) < (n : Int) := by omega
            have h3 := H2.out
            rw [if_neg (fun h => by have h4 := h.2; unfold roundOk at h4; simp only [Bool.and_eq_true, decide_eq_true_eq] at h4; have h5 : n = List.count 80 a2.data.toList := hn2; omega), if_pos hsz] at h3
            obtain ⟨rfl, rfl⟩ : ([] : List Int) = r1 ∧ (2 : Int) = r2 := by simpa using h3
            clear h3 hn2
            go_wp2_with (go_at_call 74; refine (Tryd.strings_Count_one a2 80 _).mono ?_; rintro e w' ⟨rfl, rfl⟩; rw [← HN.out])
            go_ret2
            exact ⟨_, rfl, Kd.R_nil _ _ _ _ _, HB2.out.alloc HB2.out.size _⟩
          · have hc2 : ¬ (1 : Int) < (n : Int) := by omega
            have HN2 := Aside0.mk (show List.count 80 a2.data.toList ≤ 1 by have h5 : n = List.count 80 a2.data.toList := hn2; omega)
            clear hn2
            go_wp2_with (go_at_call 74; refine (Tryd.strings_Count_one a2 80 _).mono ?_; rintro e w' ⟨rfl, rfl⟩; rw [← HN.out])
            go_roundg 1
            case measure => omega
            case rel => exact ⟨2, by omega, rfl, ⟨⟨fun _ => hk.out.1 (by omega), fun _ => HN2.out, fun h => by omega⟩⟩⟩
        · subst hi2
          have hn : ∀ ty, (Instr.next (.pointer (some ⟨W2.heap.size, 0, none⟩)) true ty).run Tryd.prog (W2.iter ⟨#[76, 80, 82]⟩ 2) = .ok (.tuple #[.bool true, .int .i64 2, .int .i32 82]) (W2.iter ⟨#[76, 80, 82]⟩ 3) := fun ty => run_next_ascii (P := Tryd.prog) W2 ⟨#[76, 80, 82]⟩ 2 ty (by decide) (by decide)
          have kc : ∀ W : World, (convert 21 9 (.int .i32 82)).run Tryd.prog W = .ok (.string ⟨#[82]⟩) W := fun W => (run_convert_int_string (P := Tryd.prog) W 21 9 .i32 82 rfl Tryd.underlying9).trans (by rfl)
          obtain ⟨n, hn2⟩ : ∃ n : Nat, n = Lib.countByte a2.data.toList 82 := ⟨_, rfl⟩
          have HN := Aside0.mk hn2
          by_cases hc : 1 < n
          · have hc2 : (1 : Int) < (n : Int) := by omega
            have h3 := H2.out
            rw [if_neg (fun h => by have h4 := h.2; unfold roundOk at h4; simp only [Bool.and_eq_true, decide_eq_true_eq] at h4; have h5 : n = List.count 82 a2.data.toList := hn2; omega), if_pos hsz] at h3
            obtain ⟨rfl, rfl⟩ : ([] : List Int) = r1 ∧ (2 : Int) = r2 := by simpa using h3
            clear h3 hn2
            go_wp2_with (go_at_call 74; refine (Tryd.strings_Count_one a2 82 _).mono ?_; rintro e w' ⟨rfl, rfl⟩; rw [← HN.out])
            go_ret2
            exact ⟨_, rfl, Kd.R_nil _ _ _ _ _, HB2.out.alloc HB2.out.size _⟩
          · have hc2 : ¬ (1 : Int) < (n : Int) := by omega
            have HN2 := Aside0.mk (show List.count 82 a2.data.toList ≤ 1 by have h5 : n = List.count 82 a2.data.toList := hn2; omega)
            clear hn2
            go_wp2_with (go_at_call 74; refine (Tryd.strings_Count_one a2 82 _).mono ?_; rintro e w' ⟨rfl, rfl⟩; rw [← HN.out])
            go_roundg 0
            case measure => omega
            case rel => exact ⟨3, by omega, rfl, ⟨⟨fun _ => hk.out.1 (by omega), fun _ => hk.out.2.1 (by omega), fun _ => HN2.out⟩⟩⟩
        · subst hi3
          have hn : ∀ ty, (Instr.next (.pointer (some ⟨W2.heap.size, 0, none⟩)) true ty).run Tryd.prog (W2.iter ⟨#[76, 80, 82]⟩ 3) = .ok (.tuple #[.bool false]) (W2.iter ⟨#[76, 80, 82]⟩ 3) := fun ty => run_next_end (P := Tryd.prog) W2 ⟨#[76, 80, 82]⟩ 3 ty (by decide)
          have hok : roundOk a2.data.toList = true := by
            unfold roundOk
            rw [HNe.out, HAll.out, decide_eq_true (hk.out.1 (by omega)), decide_eq_true (hk.out.2.1 (by omega)), decide_eq_true (hk.out.2.2 (by omega))]
            rfl
          have h3 := H2.out
          rw [if_pos ⟨trivial, hok⟩] at h3
          by_cases hr : isKind a0_0 a0_1 a0_2 = true ∧ 0 ≤ a1 ∧ a1 < 2 * a0_0 ∧ a2.size ≤ 60
          case neg => rw [if_neg hr] at h3; cases h3
          rw [if_pos hr] at h3
          obtain ⟨hki, p1, p2, p3⟩ := hr
          have hn16 : a0_0 ≤ 16 := (of_decide_eq_true hki).2.1
          obtain ⟨hr1, rfl⟩ : Slices.sorted ((searchL a0_0 a0_1 a0_2 a2.data.toList a1).map (·.1)) = r1 ∧ (0 : Int) = r2 := by simpa using h3
          have hgood := searchL_good hki a2.data.toList a1 p1 p2
          have HK := Aside0.mk hki
          obtain ⟨L, hL⟩ : ∃ L, L = searchL a0_0 a0_1 a0_2 a2.data.toList a1 := ⟨_, rfl⟩
          rw [← hL] at hr1 hgood
          have HR := Aside0.mk hr1
          have HG := Aside0.mk hgood
          have HL := Aside0.mk hL
          have hL32 : L.length ≤ 32 := by rcases hgood.length with h | h <;> omega
          have hasc : ∀ c, c ∈ a2.data.toList → c.toNat < 128 := by
            intro c hc
            have h1 := List.all_eq_true.1 HAll.out c hc
            unfold stepByte at h1
            simp only [Bool.or_eq_true, beq_iff_eq] at h1
            rcases h1 with (rfl | rfl) | rfl <;> decide
          have HAsc := Aside0.mk hasc
          have HB3 := Aside0.mk (show Below w.heap.size w (W2.iter ⟨#[76, 80, 82]⟩ 3) from HB2.out.alloc HB2.out.size _)
          have HX3 : (W2.iter ⟨#[76, 80, 82]⟩ 3).heap[w.heap.size]? = some (.cells #[.int .i64 a0_0, .int .i64 a0_1, .int .i64 a0_2] 27 (0, 0)) := blk_alloc HX2.out _
          have z0 : (W2.iter ⟨#[76, 80, 82]⟩ 3).cell? ⟨w.heap.size, 0, none⟩ = some (.int .i64 a0_0) := (blk_cell HX3 0).trans rfl
          have z1 : (W2.iter ⟨#[76, 80, 82]⟩ 3).cell? ⟨w.heap.size, 1, none⟩ = some (.int .i64 a0_1) := (blk_cell HX3 1).trans rfl
          have z2 : (W2.iter ⟨#[76, 80, 82]⟩ 3).cell? ⟨w.heap.size, 2, none⟩ = some (.int .i64 a0_2) := (blk_cell HX3 2).trans rfl
          clear HX3 h3 hki hgood hL hr1 hasc hok
          go_wp2_with fail
          refine (search_calls HK.out a1 p1 p2 a2 p3 HAsc.out _).mono ?_
          rintro e W4 ⟨B, rfl, hB, hown, hb⟩
          have HB4 := Aside0.mk (HB3.out.trans (hb.mono HB3.out.size))
          have hown' : W4.ownsMap (H := Unit) Tryd.prog 3 (plainElem Tryd.prog 9) B L.length (mapD L) := by rw [HL.out]; exact hown
          have HO := Aside0.mk hown'
          have hBw : w.heap.size ≤ B := Nat.le_trans HB3.out.size hB
          clear hb hown hown' hB z0 z1 z2 hn
          go_wp2_with (at_range; refine wpList_range_own _ rfl _ 85 rfl 3 9 law Tryd.underlying85 _ B _ _ rfl HO.out ?_; intro W5 hrg hg3 hs3)
          go_frame
          obtain ⟨r, hr⟩ : ∃ r, r = W4.heap.size := ⟨_, rfl⟩
          rw [← hr] at hrg hs3 ⊢
          have hBr : B < r := by rw [hr]; exact HO.out.lt
          have hwr : w.heap.size ≤ r := by omega
          rw [mapD_size _ HG.out.nodup] at hrg
          have HRg := Aside0.mk hrg
          have HB5 := Aside0.mk (HB4.out.grown hg3 HB4.out.size (fun k e => by cases e))
          have info3 : (Tryd.prog.info? 3).map (fun i => (i.zero, i.size, i.bytes)) = some (some (.int .i64 0), 1, 8) := by kernel_rfl
          clear hrg hg3 hs3 hr
          go_loopg [10] L.length (fun gk v wr => ∃ (dn : Bfs.Met Int) (left : Lit → Bool), Aside0 (wr.ranges (H := Unit) Tryd.prog 3 (plainElem Tryd.prog 9) B r L.length (mapD L) left gk) ∧ Aside0 (Coll L dn left) ∧ Aside0 (Kd.R (Kd.int .i64) 3 wr w.heap.size (fun k => k ≠ B ∧ k ≠ r) v (dn.map (·.1))) ∧ Aside0 (Below w.heap.size w wr))
          case atStart => exact ⟨[], _, HRg, ⟨Coll.start L⟩, ⟨Kd.R_nil _ _ _ _ _⟩, HB5⟩
          case round =>
            obtain ⟨dn, left, hrg, hcol, hR, hbel⟩ := hrel
            obtain ⟨A, cc, hv, hlc, _⟩ := Kd.R_reads hR.out
            obtain ⟨m, hm⟩ : ∃ m, m = (dn.map (·.1)).length := ⟨_, rfl⟩
            rw [← hm] at hv hlc
            have hml : m = dn.length := by rw [hm]; simp
            have hdn := hcol.out.length
            have hm32 : m ≤ 32 := by omega
            have HM := Aside0.mk hm
            clear hm hml
            subst hv
            go_wp2_with (at_next; refine wpList_next_ranges_is _ rfl _ rfl 3 9 .i64 law Tryd.underlying3 Tryd.underlying9 B r _ _ _ _ rfl hrg.out ?_ ?_)
            · intro h0 hl0
              have hp := hcol.out.all HG.out.nodup hl0
              have e : Slices.sorted (dn.map (·.1)) = r1 := by
                rw [← HR.out]
                exact sorted_of_perm (hp.map _)
              have HE := Aside0.mk e
              clear e hp h0 hl0
              have hR7 : (Kd.int .i64).R 3 wr w.heap.size (fun k => k ≠ B ∧ k ≠ r) (.slice A m cc) (dn.map (·.1)) := hR.out
              go_wp2_with fail
              refine (Slices.sort_own Tryd.lays189 3 (fun k => k ≠ B ∧ k ≠ r) (.slice A m cc) (dn.map (·.1)) w wr hbel.out hR7 (by rw [← HM.out]; omega)).mono ?_
              rintro e W7 ⟨rfl, hR8, hb8, _⟩
              have HR8 := Aside0.mk hR8
              have HB8 := Aside0.mk hb8
              clear hR7 hR8 hb8
              go_wp2_with fail
              go_ret2
              exact ⟨_, rfl, by rw [← HE.out]; exact Kd.R_mono HR8.out (fun _ _ => trivial), HB8.out⟩
            · intro x c W6 cnt2 hwx hcs hlx hat hrg4 hlt hg4 hs4 hen
              have hkn := hcol.out.left x
              rw [hlx] at hkn
              have hkL : Bfs.known L x = true := by
                cases hc : Bfs.known L x with
                | true => rfl
                | false => rw [hc] at hkn; simp at hkn
              obtain ⟨u, hu⟩ := Bfs.known_iff.1 hkL
              have HC4 := Aside0.mk (hcol.out.step hlx hu)
              have HRg4 := Aside0.mk hrg4
              have HR4 := Aside0.mk (Kd.R_mono (Kd.R_grown hR.out hg4 (fun k hk e => hk.2 (Option.some.inj e))) (ok' := fun k => k ≠ B ∧ k ≠ r) (fun _ h => h))
              have HB6 := Aside0.mk (hbel.out.grown hg4 hbel.out.size (fun k e => by cases e; omega))
              have hBlt := hrg4.owns.lt
              have hrlt := hrg4.lt
              clear hkn hkL hu hat hrg4 hg4 hs4 hwx hcs hlx
              go_wp2_with (at_builtin; refine Kd.R_append (Kd.int .i64) (w0 := w) w.heap.size rfl (.tmp 44) (.tmp 46) 54 3 (.int .i64 0) 8 rfl Tryd.underlying54 info3 rfl (by decide) (by omega) (.slice A m cc) (dn.map (·.1)) x [.int .i64 x] (fun k => k ≠ B ∧ k ≠ r) (fun _ => False) rfl rfl rfl (fun _ hk => hk.elim) (fun k hk => by omega) HR4.out HB6.out HB6.out.size (by rw [← HM.out]; omega) ?_; intro v7 w7 hq7 hb7 hg7 hat7)
              have hne := HR4.out.1
              have HR5 := Aside0.mk hq7
              have HRg5 := Aside0.mk (HRg4.out.kept hg7 (fun e => (hne B e.symm).1 rfl) (fun e => (hne r e.symm).2 rfl))
              go_roundg cnt2
              case measure => omega
              case rel =>
                refine ⟨dn ++ [(x, u)], _, HRg5, HC4, ⟨?_⟩, ⟨hb7⟩⟩
                rw [List.map_append]
                exact HR5.out
end
end Go.Proofs.YtpaeobpmkdekfaaDoor.P
end

section
namespace Go.Proofs.YtpaeobpmkdekfaaDoor.P
open Go.RowKit Go.Proofs.YtpaeobpmkdekfaaDoorW.PrintWords Go.Proofs.YtpaeobpmkdekfaaDoorW.PrintLast Go.Proofs.YtpaeobpmkdekfaaDoorW.PrintMore
attribute [local go_sem] max2_int min2_int max_two min_two max_three min_three max_four min_four   -- for this text's walks alone
set_option linter.unusedVariables false
set_option linter.unusedSimpArgs false
end Go.Proofs.YtpaeobpmkdekfaaDoor.P
end

section
namespace Go.Proofs.YtpaeobpmkdekfaaDoor.P
open Go.RowKit Go.Proofs.YtpaeobpmkdekfaaDoorW.PrintWords Go.Proofs.YtpaeobpmkdekfaaDoorW.PrintLast Go.Proofs.YtpaeobpmkdekfaaDoorW.PrintMore
attribute [local go_sem] max2_int min2_int max_two min_two max_three min_three max_four min_four   -- for this text's walks alone
set_option linter.unusedVariables false
set_option linter.unusedSimpArgs false
end Go.Proofs.YtpaeobpmkdekfaaDoor.P
end

section
namespace Go.Proofs.YtpaeobpmkdekfaaDoor.Base
open Go.RowKit Go.Proofs.YtpaeobpmkdekfaaDoor.P Go.Proofs.YtpaeobpmkdekfaaDoor.Kit Go.Proofs.YtpaeobpmkdekfaaDoorW.PrintWords Go.Proofs.YtpaeobpmkdekfaaDoorW.PrintLast Go.Proofs.YtpaeobpmkdekfaaDoor.Tri
/-- A byte of a string. -/
def at_ (s : ByteArray) (i : Nat) : UInt8 := s.data.toList.getD i 0
theorem count_nodup (l : List UInt8) (h : l.Nodup) (c : UInt8) : l.count c ≤ 1 := List.nodup_iff_count.1 h c
theorem step_mem {c : UInt8} (h : stepByte c = true) : c ∈ ([76, 80, 82] : List UInt8) := by
  revert h
  unfold stepByte
  simp only [Bool.or_eq_true, beq_iff_eq, List.mem_cons, List.not_mem_nil, or_false]
  rintro ((h | h) | h)
  · exact .inr (.inl h)
  · exact .inl h
  · exact .inr (.inr h)
theorem roundOk_iff (l : List UInt8) : roundOk l = true ↔ l.Nodup ∧ l ≠ [] ∧ l.all stepByte = true := by
  unfold roundOk
  simp only [Bool.and_eq_true, decide_eq_true_eq, Bool.not_eq_true', List.isEmpty_eq_false_iff]
  constructor
  · rintro ⟨h1, h2, h3, h4, h5⟩
    refine ⟨List.nodup_iff_count.2 fun c => ?_, h1, h2⟩
    by_cases hc : c ∈ l
    · have := step_mem (List.all_eq_true.1 h2 c hc)
      simp only [List.mem_cons, List.not_mem_nil, or_false] at this
      rcases this with rfl | rfl | rfl <;> assumption
    · rw [List.count_eq_zero_of_not_mem hc]
      omega
  · rintro ⟨h1, h2, h3⟩
    exact ⟨h2, h3, count_nodup l h1 _, count_nodup l h1 _, count_nodup l h1 _⟩
theorem roundOk_short {l : List UInt8} (h : roundOk l = true) : l.length ≤ 3 := by
  obtain ⟨h1, _, h3⟩ := (roundOk_iff l).1 h
  exact Bfs.nodup_length l [76, 80, 82] h1 (fun x hx => step_mem (List.all_eq_true.1 h3 x hx))
end Go.Proofs.YtpaeobpmkdekfaaDoor.Base
end

section
namespace Go.Proofs.YtpaeobpmkdekfaaDoor.Base
open Go.RowKit Go.Proofs.YtpaeobpmkdekfaaDoor.P Go.Proofs.YtpaeobpmkdekfaaDoor.Kit Go.Proofs.YtpaeobpmkdekfaaDoorW.PrintWords Go.Proofs.YtpaeobpmkdekfaaDoorW.PrintLast Go.Proofs.YtpaeobpmkdekfaaDoor.Tri
/-- What some steps lead to, in so many steps at most. -/
def Reach (n a b : Int) (s : List UInt8) (t : Int) (r : Nat) (v : Int) : Prop := ∃ w : List UInt8, w.length ≤ r ∧ (∀ c, c ∈ w → c ∈ s) ∧ walkI n a b w t = v
theorem Reach.range {n a b : Int} (hn : 0 < n) {s : List UInt8} {t : Int} (h0 : 0 ≤ t) (h1 : t < 2 * n) {r : Nat} {v : Int} (h : Reach n a b s t r v) : 0 ≤ v ∧ v < 2 * n := by
  obtain ⟨w, _, _, rfl⟩ := h
  exact walk_range hn a b w t h0 h1
theorem Reach.snoc {n a b : Int} {s : List UInt8} {t : Int} {r : Nat} {v : Int} (h : Reach n a b s t r v) {c : UInt8} (hc : c ∈ s) : Reach n a b s t (r + 1) (stepU n a b v c) := by
  obtain ⟨w, h1, h2, rfl⟩ := h
  refine ⟨w ++ [c], by rw [List.length_append]; simpa using h1, ?_, by rw [walk_append]; rfl⟩
  intro d hd
  rcases List.mem_append.1 hd with hd | hd
  · exact h2 d hd
  · rw [List.mem_singleton.1 hd]; exact hc
theorem Reach.cases {n a b : Int} {s : List UInt8} {t : Int} {r : Nat} {v : Int} (h : Reach n a b s t (r + 1) v) : Reach n a b s t r v ∨ ∃ u c, Reach n a b s t r u ∧ c ∈ s ∧ v = stepU n a b u c := by
  obtain ⟨w, h1, h2, rfl⟩ := h
  by_cases hw : w = []
  · subst hw
    exact .inl ⟨[], by simp, h2, rfl⟩
  · right
    rw [← List.dropLast_concat_getLast hw] at h1 h2 ⊢
    refine ⟨walkI n a b w.dropLast t, w.getLast hw, ⟨w.dropLast, by simp at h1; simp; omega, fun c hc => h2 c (List.mem_append_left _ hc), rfl⟩, h2 _ (List.mem_append_right _ (List.mem_singleton.2 rfl)), ?_⟩
    rw [walk_append]
    rfl
end Go.Proofs.YtpaeobpmkdekfaaDoor.Base
end

section
namespace Go.Proofs.YtpaeobpmkdekfaaDoor.Base
open Go.RowKit Go.Proofs.YtpaeobpmkdekfaaDoor.P Go.Proofs.YtpaeobpmkdekfaaDoor.Kit Go.Proofs.YtpaeobpmkdekfaaDoorW.PrintWords Go.Proofs.YtpaeobpmkdekfaaDoorW.PrintLast
theorem round_f (n a b t : Int) (s : ByteArray) (hs : s.size ≤ 1000) (hn : Int64 n) (ha : Int64 a) (hb : Int64 b) : triads_Round.f n a b t s = some (if (isKind n a b && isTri n t && roundOk s.data.toList) = true then (Slices.sorted ((searchL n a b s.data.toList t).map (·.1)), 0) else ([], 2)) := by
  unfold triads_Round.f
  rw [isTriad_f n a b t hn ha hb]
  simp only [Option.bind_some]
  cases hk : (isKind n a b && isTri n t) with
  | false =>
    simp [hs]
  | true =>
    obtain ⟨hk1, hk2⟩ := Bool.and_eq_true_iff.1 hk
    have h2 := of_decide_eq_true hk2
    cases hr : roundOk s.data.toList with
    | false => simp [hs]
    | true =>
      have h3 := roundOk_short hr
      have hl := data_length s
      have h60 : s.size ≤ 60 := by omega
      simp [hk1, h2.1, h2.2, h60]
theorem round_size {n a b : Int} (hk : isKind n a b = true) (s : List UInt8) (t : Int) (h0 : 0 ≤ t) (h1 : t < 2 * n) : (Slices.sorted ((searchL n a b s t).map (·.1))).length = (searchL n a b s t).length ∧ (searchL n a b s t).length ≤ 32 := by
  have h16 := (of_decide_eq_true hk).2.1
  have good := searchL_good hk s t h0 h1
  refine ⟨by unfold Slices.sorted; rw [List.length_mergeSort, List.length_map], ?_⟩
  rcases good.length with h | h <;> omega
end Go.Proofs.YtpaeobpmkdekfaaDoor.Base
namespace Go.Proofs.YtpaeobpmkdekfaaDoor.Pure
open Go.RowKit Go.Proofs.YtpaeobpmkdekfaaDoor.P Go.Proofs.YtpaeobpmkdekfaaDoor.Kit Go.Proofs.YtpaeobpmkdekfaaDoor.Base Go.Proofs.YtpaeobpmkdekfaaDoorW.PrintWords Go.Proofs.YtpaeobpmkdekfaaDoorW.PrintLast
end Go.Proofs.YtpaeobpmkdekfaaDoor.Pure
end
