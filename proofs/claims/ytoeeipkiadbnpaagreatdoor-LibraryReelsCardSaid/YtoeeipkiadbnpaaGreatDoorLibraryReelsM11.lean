/- Texts that the proof of LibraryReels needs, put together in build order by this session's program (wip/tools/claimtrim.py). -/
import Derived.Test.YtoeeipkiadbnpaaGreatDoorLibraryReelsM9
import Derived.Test.YtoeeipkiadbnpaaGreatDoorLibraryReelsM10
import Derived.Lib.ConvBytes
import Derived.Laws.BytesArg
import Derived.Outline
section
namespace Go.Proofs.YtoeeipkiadbnpaaGreatDoor.Lib10
open Go.RowKit Go.Proofs.YtoeeipkiadbnpaaGreatDoorW.PrintWords Go.Proofs.YtoeeipkiadbnpaaGreatDoorW.PrintLast Go.Proofs.YtoeeipkiadbnpaaGreatDoorW.PrintMore
set_option linter.unusedVariables false
/-- The library's variables hold what is asked of them. -/
structure Tabs (W : World) : Prop where
  maxLen : ∃ m, W.cell? ⟨0, 0, none⟩ = some (.int .i64 m)
  syn : ∃ tp p, W.cell? ⟨1, 0, none⟩ = some (.iface tp p)
  rng : ∃ tp p, W.cell? ⟨2, 0, none⟩ = some (.iface tp p)
  pow10 : Lib.TabIs Tryz.prog W "internal/strconv.uint64pow10" .u64 Lib.pow10Tab
  low : 9 ≤ W.heap.size
theorem Tabs.same {W W' : World} (h : Tabs W) (hs : ∀ k, k < 9 → W'.heap[k]? = W.heap[k]?) (hl : W.heap.size ≤ W'.heap.size) : Tabs W' where
  maxLen := by obtain ⟨m, hm⟩ := h.maxLen; exact ⟨m, (World.cell?_of_block (hs 0 (by omega))).trans hm⟩
  syn := by obtain ⟨t, p, hm⟩ := h.syn; exact ⟨t, p, (World.cell?_of_block (hs 1 (by omega))).trans hm⟩
  rng := by obtain ⟨t, p, hm⟩ := h.rng; exact ⟨t, p, (World.cell?_of_block (hs 2 (by omega))).trans hm⟩
  pow10 := by
    have hg : Tryz.prog.globalNamed "internal/strconv.uint64pow10" = some 3 := by kernel_rfl
    have h1 := h.pow10
    unfold Lib.TabIs World.var? at h1 ⊢
    rw [hg] at h1 ⊢
    simp only [Option.bind_some] at h1 ⊢
    rw [hs 3 (by omega)]
    exact h1
  low := Nat.le_trans h.low hl
theorem Tabs.below {W W' : World} {B : Nat} (h : Tabs W) (hb : Below B W W') (hB : 9 ≤ B) : Tabs W' := h.same (fun k hk => hb.block k (by omega)) hb.size
theorem Tabs.kept {W W' : World} {F : Nat → Prop} (h : Tabs W) (hk : Kept W W' F) (hF : ∀ k, F k → 9 ≤ k) : Tabs W' := h.same (fun k hk2 => hk.2 k (by have := h.low; omega) (fun h2 => by have := hF k h2; omega)) hk.1
def blank : ByteArray := ⟨#[32]⟩
/-- A text's words. -/
def wordsB (s : ByteArray) : List ByteArray := Lib.splitB blank 0 (Lib.countB s blank) s
theorem wordsB_data (s : ByteArray) : (wordsB s).map (·.data.toList) = splitL 32 s.data.toList := by
  unfold wordsB
  rw [Lib.splitB_data]
  exact split_eq 32 s.data.toList
theorem wordsB_length (s : ByteArray) : (wordsB s).length = Lib.countB s blank + 1 := by
  have h := congrArg List.length (wordsB_data s)
  rw [List.length_map, splitL_length] at h
  rw [h]
  unfold Lib.countB
  rw [show blank.data.toList = [32] from rfl, Lib.count_one]
theorem wordsB_le (s : ByteArray) : (wordsB s).length ≤ s.size + 1 := by
  have h := congrArg List.length (wordsB_data s)
  rw [List.length_map, splitL_length] at h
  have := List.count_le_length (a := (32 : UInt8)) (l := s.data.toList)
  rw [h]
  simpa using this
def isLineB (s : ByteArray) : Bool := decide (s.size ≤ 60) && (!Lib.containsS (wordsB s) ByteArray.empty && !((bytesOf s).any badB))
section
set_option maxRecDepth 100000
set_option maxHeartbeats 1000000
theorem split_calls (s : ByteArray) (W : World) (hT : Tabs W) (hs : s.size < 4294967281) : Calls Tryz.prog 36 #[.string s, .string blank] W fun e w' =>
    e = .returned (.slice (some ⟨W.heap.size, 0, none⟩) (wordsB s).length (wordsB s).length) ∧ w' = W.alloc (.cells ((wordsB s).map Value.string).toArray 9) := by
  obtain ⟨m, hm⟩ := hT.maxLen
  have hl := wordsB_length s
  rw [hl]
  exact Tryz.strings_Split s blank m W hs hm (by decide)
theorem contains_calls (ws : List ByteArray) (x : ByteArray) (W : World) (hl : ws.length ≤ 9223372036854775807) : Calls Tryz.prog 39 #[.slice (some ⟨W.heap.size, 0, none⟩) ws.length ws.length, .string x] (W.alloc (.cells (ws.map Value.string).toArray 9)) fun e w' =>
    e = .returned (.bool (Lib.containsS ws x)) ∧ w' = W.alloc (.cells (ws.map Value.string).toArray 9) := by
  have h := Tryz.slices_Contains_string W.heap.size 0 ws.length ws.length ws x (W.alloc (.cells (ws.map Value.string).toArray 9)) (Nat.le_refl _) hl (fun j hj => by
    rw [blk_cell (World.alloc_heap_new W (.cells (ws.map Value.string).toArray 9)) (0 + j)]
    simp [hj])
  rw [List.take_length] at h
  exact h
theorem bytes_C (W : World) (s : ByteArray) (hs : s.size ≤ 9223372036854775807) : (Kd.int .u8).C (Lib.bytesWorld W 5 s) (some ⟨W.heap.size, 0, none⟩) s.size (bytesOf s) := Kd.C_of_reads (enc := Value.int .u8) (d := (0 : Int)) (h1 := fun _ => rfl) (bytes_reads W 5 s hs)
theorem isLine_calls (s : ByteArray) (W : World) (hT : Tabs W) (hs : s.size < 4294967281) : Calls Tryz.prog 115 #[.string s] W fun e w' => e = .returned (.bool (isLineB s)) ∧ Below W.heap.size W w' := by
  by_cases h60 : s.size ≤ 60
  · have HS := Aside0.mk (split_calls s W hT hs)
    have d0 : decide ((s.size : Int) ≤ 60) = true := decide_eq_true (by omega)
    have hlw := wordsB_le s
    have HC := Aside0.mk (contains_calls (wordsB s) ByteArray.empty W (by omega))
    clear hT hlw
    cases hc : Lib.containsS (wordsB s) ByteArray.empty with
    | true =>
      rw [hc] at HC
      have HV := Aside0.mk (show isLineB s = false by unfold isLineB; rw [hc]; simp)
      clear hc
      go_enter Tryz.func115, Tryz.ntmps115
      go_wp2_with (first | (go_at_call 36; refine HS.out.mono ?_; rintro e w' ⟨rfl, rfl⟩) | (go_at_call 39; refine HC.out.mono ?_; rintro e w' ⟨rfl, rfl⟩))
      go_ret
      exact ⟨by rw [HV.out]; rfl, below_alloc (Below.refl _ _) _⟩
    | false =>
      rw [hc] at HC
      have HV := Aside0.mk (show isLineB s = !((bytesOf s).any badB) by unfold isLineB; rw [hc, decide_eq_true h60]; simp)
      clear hc
      have kb := fun W => print_bytes (P := Tryz.prog) 9 45 5 Tryz.underlying9 Tryz.underlying45 Tryz.underlying5 s W
      have hC0 := bytes_C (W.alloc (.cells ((wordsB s).map Value.string).toArray 9)) s (by omega)
      rw [World.size_alloc] at hC0
      have HA := Aside0.mk (fun c => anyBad_calls (c := c) hC0)
      clear hC0
      go_enter Tryz.func115, Tryz.ntmps115
      go_wp2_with (first | (go_at_call 36; refine HS.out.mono ?_; rintro e w' ⟨rfl, rfl⟩) | (go_at_call 39; refine HC.out.mono ?_; rintro e w' ⟨rfl, rfl⟩) | (go_at_call 169; refine (HA.out _).mono ?_; rintro e w' ⟨rfl, rfl⟩))
      go_ret
      exact ⟨by rw [HV.out]; rfl, bytes_below (below_alloc (Below.refl _ _) _) (by simp) _ _⟩
  · have HV := Aside0.mk (show isLineB s = false by unfold isLineB; rw [decide_eq_false h60]; rfl)
    have d0 : decide ((s.size : Int) ≤ 60) = false := decide_eq_false (by omega)
    clear hT
    go_enter Tryz.func115, Tryz.ntmps115
    go_wp2
    go_ret
    exact ⟨by rw [HV.out]; rfl, Below.refl _ _⟩
end
end Go.Proofs.YtoeeipkiadbnpaaGreatDoor.Lib10
end

section
namespace Go.Proofs.YtoeeipkiadbnpaaGreatDoor.Lib10
open Go.RowKit Go.Proofs.YtoeeipkiadbnpaaGreatDoorW.PrintWords Go.Proofs.YtoeeipkiadbnpaaGreatDoorW.PrintLast Go.Proofs.YtoeeipkiadbnpaaGreatDoorW.PrintMore
set_option linter.unusedVariables false
/-- A number: from one to four digits, as the program reads it. -/
def numberV (l : List UInt8) : Option Int := match Lib.atoiAll l with
  | .ok v => if 0 ≤ v ∧ l.length ≤ 4 ∧ Lib.itoa v = l then some v else none
  | _ => none
section
set_option maxRecDepth 100000
set_option maxHeartbeats 1000000
theorem atoiAll_le {l : List UInt8} {v : Int} (h : Lib.atoiAll l = .ok v) : v ≤ 9223372036854775807 := by
  unfold Lib.atoiAll at h
  split at h
  · cases h
  · simp only at h
    split at h
    · cases h
    · cases h
    · split at h
      · cases h
      · split at h
        · cases h
        · injection h with h
          split at h
          · omega
          · omega
theorem atoi_ok (s : ByteArray) (v : Int) (W : World) (hs : s.size ≤ 140737488355328) (h : Lib.atoiAll s.data.toList = .ok v) : Calls Tryz.prog 38 #[.string s] W fun e w' => e = .returned (.tuple #[.int .i64 v, .nilIface]) ∧ Below W.heap.size W w' :=
  (Tryz.strconv_Atoi_ok s (by omega) v h W).mono fun e w' hw => ⟨hw.1, by
    rcases hw.2 with rfl | ⟨t, rfl⟩
    · exact Below.refl _ _
    · exact bytes_below (Below.refl _ _) (Nat.le_refl _) 5 t⟩
theorem atoi_bad (s : ByteArray) (W : World) (hT : Tabs W) (hs : s.size ≤ 140737488355328) (h : ∀ v, Lib.atoiAll s.data.toList ≠ .ok v) : Calls Tryz.prog 38 #[.string s] W fun e w' => (∃ (n : Int) (N : Nat), e = .returned (.tuple #[.int .i64 n, .iface 142 (ptr N)])) ∧ Below W.heap.size W w' := by
  rcases ha : Lib.atoiAll s.data.toList with v | _ | _
  · exact absurd ha (h v)
  · obtain ⟨tp, p, hv⟩ := hT.syn
    have hh : Calls Tryz.prog 38 #[.string s] W fun e w' => ∃ N, e = .returned (.tuple #[.int .i64 (0), .iface 142 (.pointer (some ⟨N, 0, none⟩))]) ∧ W.heap.size ≤ N ∧ w'.heap[N]? = some (.cells #[.string ⟨#[65, 116, 111, 105]⟩, .string s, .iface tp p] 204 (0, 0)) ∧ Below W.heap.size W w' :=
      Any.strconv_Atoi_syntax Tryz.laysC172 s (by omega) ha (.iface tp p) W hv (.inr ⟨_, _, rfl⟩)
    exact hh.mono fun e w' ⟨N, he, _, _, hb⟩ => ⟨⟨_, N, he⟩, hb⟩
  · obtain ⟨tp, p, hv⟩ := hT.rng
    exact (Tryz.strconv_Atoi_range s (by omega) ha (.iface tp p) W hv (.inr ⟨_, _, rfl⟩)).mono fun e w' ⟨N, he, _, _, hb⟩ => ⟨⟨_, N, he⟩, hb⟩
theorem below_grow (w : World) (q : Nat) (os : Array Obj) : Below w.heap.size w (Sort.grow (w.drewN q) os) :=
  ⟨rfl, rfl, rfl, by show w.heap.size ≤ (w.heap ++ os).size; simp, fun i hi => by show (w.heap ++ os)[i]? = _; rw [Array.getElem?_append_left hi]⟩
theorem itoa_calls (n : Int) (W : World) (hT : Tabs W) (h0 : -9223372036854775808 ≤ n) (h1 : n ≤ 9223372036854775807) : Calls Tryz.prog 16 #[.int .i64 n] W fun e w' => e = .returned (.string ⟨(Lib.itoa n).toArray⟩) ∧ Below W.heap.size W w' :=
  (Tryz.strconv_Itoa n h0 h1 W hT.pow10).mono fun e w' ⟨he, k, os, hw⟩ => ⟨he, by subst hw; exact below_grow W k os⟩
theorem number_ok (s : ByteArray) (v : Int) (W : World) (hT : Tabs W) (hs : s.size ≤ 140737488355328) (h : numberV s.data.toList = some v) : Calls Tryz.prog 117 #[.string s] W fun e w' => e = .returned (.tuple #[.int .i64 v, .bool true]) ∧ Below W.heap.size W w' := by
  obtain ⟨ha, h0, h4, hi⟩ : Lib.atoiAll s.data.toList = .ok v ∧ 0 ≤ v ∧ s.size ≤ 4 ∧ Lib.itoa v = s.data.toList := by
    unfold numberV at h
    split at h
    · rename_i u hu
      by_cases c : 0 ≤ u ∧ s.data.toList.length ≤ 4 ∧ Lib.itoa u = s.data.toList
      · rw [if_pos c] at h
        obtain rfl := Option.some.inj h
        exact ⟨hu, c.1, by simpa using c.2.1, c.2.2⟩
      · rw [if_neg c] at h; cases h
    · cases h
  have HA := Aside0.mk (atoi_ok s v W hs ha)
  have HT := Aside0.mk hT
  have hv1 := atoiAll_le ha
  have d0 : decide (0 ≤ v) = true := decide_eq_true h0
  have d1 : decide ((s.size : Int) ≤ 4) = true := decide_eq_true (by omega)
  have HI := Aside0.mk hi
  have HL := Aside0.mk hT.low
  clear hT ha hi h
  go_enter Tryz.func117, Tryz.ntmps117
  go_wp2_with (first | (go_at_call 38; refine HA.out.mono ?_; rintro e w1 ⟨rfl, hb⟩; have HB1 := Aside0.mk hb; clear hb) | (go_at_call 16; refine (itoa_calls v _ (HT.out.below HB1.out HL.out) (by omega) hv1).mono ?_; rintro e w2 ⟨rfl, hb⟩; have HB2 := Aside0.mk hb; clear hb))
  go_ret2
  exact ⟨by rw [ByteArray.toList_eq, HI.out]; simp, HB1.out.trans (HB2.out.mono HB1.out.size)⟩
theorem number_bad (s : ByteArray) (W : World) (hT : Tabs W) (hs : s.size ≤ 140737488355328) (h : numberV s.data.toList = none) : Calls Tryz.prog 117 #[.string s] W fun e w' => (∃ n : Int, e = .returned (.tuple #[.int .i64 n, .bool false])) ∧ Below W.heap.size W w' := by
  have HT := Aside0.mk hT
  have HL := Aside0.mk hT.low
  by_cases hok : ∃ v, Lib.atoiAll s.data.toList = .ok v
  · obtain ⟨v, ha⟩ := hok
    have HA := Aside0.mk (atoi_ok s v W hs ha)
    have hv1 := atoiAll_le ha
    have hno : ¬ (0 ≤ v ∧ s.data.toList.length ≤ 4 ∧ Lib.itoa v = s.data.toList) := fun c => by
      unfold numberV at h
      rw [ha] at h
      simp only at h
      rw [if_pos c] at h
      cases h
    by_cases h0 : 0 ≤ v
    · have d0 : decide (0 ≤ v) = true := decide_eq_true h0
      by_cases h4 : s.size ≤ 4
      · have d1 : decide ((s.size : Int) ≤ 4) = true := decide_eq_true (by omega)
        have HN := Aside0.mk (show (Lib.itoa v == s.toList) = false from beq_eq_false_iff_ne.2 (fun e => hno ⟨h0, by simpa using h4, by rw [e, ByteArray.toList_eq]⟩))
        clear hT ha h hno
        go_enter Tryz.func117, Tryz.ntmps117
        go_wp2_with (first | (go_at_call 38; refine HA.out.mono ?_; rintro e w1 ⟨rfl, hb⟩; have HB1 := Aside0.mk hb; clear hb) | (go_at_call 16; refine (itoa_calls v _ (HT.out.below HB1.out HL.out) (by omega) hv1).mono ?_; rintro e w2 ⟨rfl, hb⟩; have HB2 := Aside0.mk hb; clear hb))
        go_ret2
        exact ⟨⟨v, by rw [HN.out]; rfl⟩, HB1.out.trans (HB2.out.mono HB1.out.size)⟩
      · have d1 : decide ((s.size : Int) ≤ 4) = false := decide_eq_false (by omega)
        clear hT ha h hno
        go_enter Tryz.func117, Tryz.ntmps117
        go_wp2_with (first | (go_at_call 38; refine HA.out.mono ?_; rintro e w1 ⟨rfl, hb⟩; have HB1 := Aside0.mk hb; clear hb))
        go_ret2
        exact ⟨⟨v, rfl⟩, HB1.out⟩
    · have d0 : decide (0 ≤ v) = false := decide_eq_false h0
      clear hT ha h hno
      go_enter Tryz.func117, Tryz.ntmps117
      go_wp2_with (first | (go_at_call 38; refine HA.out.mono ?_; rintro e w1 ⟨rfl, hb⟩; have HB1 := Aside0.mk hb; clear hb))
      go_ret2
      exact ⟨⟨v, rfl⟩, HB1.out⟩
  · have HA := Aside0.mk (atoi_bad s W hT hs (fun v hv => hok ⟨v, hv⟩))
    clear hT h hok
    go_enter Tryz.func117, Tryz.ntmps117
    go_wp2_with (first | (go_at_call 38; refine HA.out.mono ?_; rintro e w1 ⟨⟨n, M, rfl⟩, hb⟩; have HB1 := Aside0.mk hb; clear hb))
    go_ret2
    exact ⟨⟨n, rfl⟩, HB1.out⟩
end
end Go.Proofs.YtoeeipkiadbnpaaGreatDoor.Lib10
end

section
namespace Go.Proofs.YtoeeipkiadbnpaaGreatDoor.Lib10
open Go.RowKit Go.Proofs.YtoeeipkiadbnpaaGreatDoorW.PrintWords Go.Proofs.YtoeeipkiadbnpaaGreatDoorW.PrintLast Go.Proofs.YtoeeipkiadbnpaaGreatDoorW.PrintMore
set_option linter.unusedVariables false
/-- The words behind the first one, by their sorts. -/
def sortV : List UInt8 → List ByteArray → Option (List ByteArray × List Int)
  | c :: f, w :: ws => if c = 110 then (if isNameB w.data.toList = true then (sortV f ws).map fun r => (w :: r.1, r.2) else none)
      else (match numberV w.data.toList with | some n => (sortV f ws).map fun r => (r.1, n :: r.2) | none => none)
  | _, _ => some ([], [])
section
set_option maxRecDepth 100000
set_option maxHeartbeats 2000000
theorem cutPlus (x : ByteArray) (w : World) (hx : Lib.hasSuffix x.data.toList [43] = false) (hxs : x.size ≤ 100) : Calls Tryz.prog 113 #[.string x, .string ⟨#[43]⟩] w fun e w' => e = .returned (.tuple #[.string x, .bool false]) ∧ w = w' := by
  refine (Tryz.strings_CutSuffix x ⟨#[43]⟩ w (by omega)).mono ?_
  rintro e w' ⟨rfl, rfl⟩
  have h1 : Lib.hasSuffix x.data.toList (ByteArray.data ⟨#[43]⟩).toList = false := hx
  have h2 : Lib.trimSuffix x.data.toList (ByteArray.data ⟨#[43]⟩).toList = x.data.toList := by unfold Lib.trimSuffix; rw [h1]; rfl
  rw [h1, h2]
  exact ⟨by simp, rfl⟩
/-- What stands at the beginning of a reading. -/
structure Begun (x text : ByteArray) (W : World) (m : Nat) : Prop where
  split : Calls Tryz.prog 36 #[.string text, .string blank] (W.alloc (.cells #[.slice none 0 0, .slice none 0 0] 110)) fun e w' =>
    e = .returned (.slice (some ⟨W.heap.size + 1, 0, none⟩) (m + 1) (m + 1)) ∧ w' = (W.alloc (.cells #[.slice none 0 0, .slice none 0 0] 110)).alloc (.cells ((wordsB text).map Value.string).toArray 9)
  bel : Below W.heap.size W ((W.alloc (.cells #[.slice none 0 0, .slice none 0 0] 110)).alloc (.cells ((wordsB text).map Value.string).toArray 9))
  tabs : Tabs ((W.alloc (.cells #[.slice none 0 0, .slice none 0 0] 110)).alloc (.cells ((wordsB text).map Value.string).toArray 9))
theorem begun (x text : ByteArray) (W : World) (hT : Tabs W) (hs : text.size < 4294967281) (m : Nat) (hm : (wordsB text).length = m + 1) : Begun x text W m := by
  have hb : Below W.heap.size W (W.alloc (.cells #[.slice none 0 0, .slice none 0 0] 110)) := below_alloc (Below.refl _ _) _
  have hS := split_calls text (W.alloc (.cells #[.slice none 0 0, .slice none 0 0] 110)) (hT.below hb hT.low) hs
  rw [hm, World.size_alloc] at hS
  exact ⟨hS, below_alloc hb _, hT.below (below_alloc hb _) hT.low⟩
theorem read_ok0 (x text : ByteArray) (W : World) (hT : Tabs W) (hs : text.size < 4294967281) (hx0 : x.size = 0) (hw : (wordsB text).length = 1) (hline : isLineB text = true) :
    Calls Tryz.prog 72 #[.string x, .string text] W fun e w' => e = .returned (.tuple #[.agg #[.slice none 0 0, .slice none 0 0], .bool true]) ∧ Below W.heap.size W w' := by
  have hx : Lib.hasSuffix x.data.toList [43] = false := by
    have : x.data.toList = [] := by
      have h1 : x.data.toList.length = 0 := by simpa using hx0
      exact List.length_eq_zero_iff.1 h1
    rw [this]; rfl
  have HG := Aside0.mk (begun x text W hT hs 0 hw)
  have HX := Aside0.mk (fun w => cutPlus x w hx (by omega))
  have HLine := Aside0.mk (isLine_calls text _ HG.out.tabs hs)
  rw [hline] at HLine
  have d1 : ((0 : Int) != (x.size : Int)) = false := bne_eq_false_iff_eq.2 (by omega)
  have hc := World.alloc_heap_new W (.cells #[.slice none 0 0, .slice none 0 0] 110)
  have HC := Aside0.mk (show ((W.alloc (.cells #[.slice none 0 0, .slice none 0 0] 110)).alloc (.cells ((wordsB text).map Value.string).toArray 9)).heap[W.heap.size]? = some (.cells #[.slice none 0 0, .slice none 0 0] 110 (0, 0)) from (Below.heap_alloc _ _ _ (by simp)).trans hc)
  clear hT hx hw hline hc
  go_enter Tryz.func72, Tryz.ntmps72
  go_wp2_with (first | (go_at_call 36; refine HG.out.split.mono ?_; rintro e w' ⟨rfl, rfl⟩) | (go_at_call 113; refine (HX.out _).mono ?_; rintro e w' ⟨rfl, rfl⟩) | (go_at_call 115; refine HLine.out.mono ?_; rintro e w2 ⟨rfl, hb⟩; have hc2 := (hb.block W.heap.size (blk_lt HC.out)).trans HC.out; have k0 := (blk_cell hc2 0).trans rfl; have k1 := (blk_cell hc2 1).trans rfl; have z0 := blk_frozen hc2 0; have z1 := blk_frozen hc2 1; have HB2 := Aside0.mk hb; have HC2 := Aside0.mk hc2; clear hb hc2))
  refine wp_loop_rounds 1 ?_
  rw [rounds_succ]
  go_wp2
  have hd := HC2.out
  have p1 := blk_put (cs := #[.slice none 0 0, .slice none 0 0]) hd 0 (.slice none 0 0) rfl
  have p2 := blk_put (cs := #[.slice none 0 0, .slice none 0 0]) p1 1 (.slice none 0 0) rfl
  have e0 := (blk_cell p2 0).trans rfl
  have e1 := (blk_cell p2 1).trans rfl
  refine bodyPost_ret (v := .tuple #[.agg #[.slice none 0 0, .slice none 0 0], .bool true]) (by simp [results, Tryz.results72, go_sem, e0, e1]) rfl ⟨rfl, ?_⟩
  exact below_set (below_set (HG.out.bel.trans (HB2.out.mono HG.out.bel.size)) (Nat.le_refl _)) (Nat.le_refl _)
end
end Go.Proofs.YtoeeipkiadbnpaaGreatDoor.Lib10
end

section
namespace Go.Proofs.YtoeeipkiadbnpaaGreatDoor.Lib10
open Go.RowKit Go.Proofs.YtoeeipkiadbnpaaGreatDoorW.PrintWords Go.Proofs.YtoeeipkiadbnpaaGreatDoorW.PrintLast Go.Proofs.YtoeeipkiadbnpaaGreatDoorW.PrintMore
set_option linter.unusedVariables false
theorem info9 : (Tryz.prog.info? 9).map (fun i => (i.zero, i.size, i.bytes)) = some (some (.string ByteArray.empty), 1, 16) := by kernel_rfl
theorem info3 : (Tryz.prog.info? 3).map (fun i => (i.zero, i.size, i.bytes)) = some (some (.int .i64 0), 1, 8) := by kernel_rfl
abbrev boxO (v1 v2 : Value) : Obj := .cells #[v1, v2] 110 (0, 0)
/-- The reading under way. -/
structure Under (W : World) (o : Nat) (ws : Array Value) (wr : World) (v1 v2 : Value) (ns : List ByteArray) (is : List Int) : Prop where
  box : wr.heap[o]? = some (boxO v1 v2)
  words : wr.heap[o + 1]? = some (.cells ws 9 (0, 0))
  r1 : Kd.string.R 9 wr W.heap.size (fun j => W.heap.size ≤ j ∧ j ≠ o + 1) v1 ns
  r2 : (Kd.int .i64).R 3 wr W.heap.size (fun j => W.heap.size ≤ j) v2 is
  bel : Below W.heap.size W wr
theorem R_apart {α : Type} {d : Kd α} {e base : Nat} {ok : Nat → Prop} {w w1 : World} {v : Value} {xs : List α} (h : d.R e w base ok v xs) (hE : d.E = []) (hm : ∀ (k : Nat) (cells : Array Value), w.heap[k]? = some (Obj.cells cells e (0, 0)) → w1.heap[k]? = w.heap[k]?) : d.R e w1 base ok v xs :=
  Kd.R_mono (Kd.R_step (Kd.R_bound h) (fun k hk _ => by
    obtain ⟨_, _, _, q, hq, cells, hc⟩ := hk
    rw [hE] at hq
    have h1 : q = e := by simpa using hq
    rw [h1] at hc
    exact hm k cells hc)) (fun _ hk => hk.1)
theorem own_type {α : Type} {d : Kd α} {e base : Nat} {ok : Nat → Prop} {w : World} {v : Value} {xs : List α} (h : d.R e w base ok v xs) (k : Nat) (hk : some k = v.ownBlock) : ∃ cells, w.heap[k]? = some (.cells cells e (0, 0)) := by
  obtain ⟨_, inner, ho, _⟩ := h
  exact own_typed ho k hk.symm
theorem type_ne {w : World} {k j t u : Nat} {c1 c2 : Array Value} (h1 : w.heap[k]? = some (.cells c1 t (0, 0))) (h2 : w.heap[j]? = some (.cells c2 u (0, 0))) (ht : t ≠ u) : k ≠ j := fun e => by
  subst e
  rw [h1] at h2
  injection h2 with h2
  injection h2 with _ h3
  exact ht h3
theorem named {W : World} {o : Nat} {ws : Array Value} {wr w7 : World} {v1 v2 v7 : Value} {ns ns' : List ByteArray} {is : List Int} (h : Under W o ws wr v1 v2 ns is) (hq : Kd.string.R 9 w7 W.heap.size (fun j => W.heap.size ≤ j ∧ j ≠ o + 1) v7 ns') (hb : Below W.heap.size W w7) (hg : wr.grownBy w7 v1.ownBlock) (ho : W.heap.size ≤ o) : w7.heap[o]? = some (boxO v1 v2) ∧ Under W o ws (w7.setCell ⟨o, 0, none⟩ v7) v7 v2 ns' is := by
  have box : w7.heap[o]? = some (boxO v1 v2) := (hg.block o (blk_lt h.box) (fun e => by
    obtain ⟨cells, hc⟩ := own_type h.r1 o e
    exact type_ne hc h.box (show (9 : Nat) ≠ 110 by decide) rfl)).trans h.box
  have words : w7.heap[o + 1]? = some (.cells ws 9 (0, 0)) := (hg.block (o + 1) (blk_lt h.words) (fun e => (h.r1.1 _ e.symm).2 rfl)).trans h.words
  have r2 : (Kd.int .i64).R 3 w7 W.heap.size (fun j => W.heap.size ≤ j) v2 is := R_apart h.r2 rfl (fun k cells hk => hg.block k (blk_lt hk) (fun e => by
    obtain ⟨cells2, hc⟩ := own_type h.r1 k e
    exact type_ne hc hk (show (9 : Nat) ≠ 3 by decide) rfl))
  exact ⟨box, blk_put (cs := #[v1, v2]) box 0 v7 rfl, (Below.heap_setCell w7 ⟨o, 0, none⟩ v7 (o + 1) (Nat.succ_ne_self o)).trans words, R_apart hq rfl (fun k cells hk => Below.heap_setCell w7 ⟨o, 0, none⟩ v7 k (type_ne hk box (show (9 : Nat) ≠ 110 by decide))), R_apart r2 rfl (fun k cells hk => Below.heap_setCell w7 ⟨o, 0, none⟩ v7 k (type_ne hk box (show (3 : Nat) ≠ 110 by decide))), below_set hb ho⟩
theorem numbered {W : World} {o : Nat} {ws : Array Value} {wr w7 : World} {v1 v2 v7 : Value} {ns : List ByteArray} {is is' : List Int} (h : Under W o ws wr v1 v2 ns is) (hq : (Kd.int .i64).R 3 w7 W.heap.size (fun j => W.heap.size ≤ j) v7 is') (hb : Below W.heap.size W w7) (hg : wr.grownBy w7 v2.ownBlock) (ho : W.heap.size ≤ o) : w7.heap[o]? = some (boxO v1 v2) ∧ Under W o ws (w7.setCell ⟨o, 1, none⟩ v7) v1 v7 ns is' := by
  have box : w7.heap[o]? = some (boxO v1 v2) := (hg.block o (blk_lt h.box) (fun e => by
    obtain ⟨cells, hc⟩ := own_type h.r2 o e
    exact type_ne hc h.box (show (3 : Nat) ≠ 110 by decide) rfl)).trans h.box
  have words : w7.heap[o + 1]? = some (.cells ws 9 (0, 0)) := (hg.block (o + 1) (blk_lt h.words) (fun e => by
    obtain ⟨cells, hc⟩ := own_type h.r2 _ e
    exact type_ne hc h.words (show (3 : Nat) ≠ 9 by decide) rfl)).trans h.words
  have r1 : Kd.string.R 9 w7 W.heap.size (fun j => W.heap.size ≤ j ∧ j ≠ o + 1) v1 ns := R_apart h.r1 rfl (fun k cells hk => hg.block k (blk_lt hk) (fun e => by
    obtain ⟨cells2, hc⟩ := own_type h.r2 k e
    exact type_ne hc hk (show (3 : Nat) ≠ 9 by decide) rfl))
  exact ⟨box, blk_put (cs := #[v1, v2]) box 1 v7 rfl, (Below.heap_setCell w7 ⟨o, 1, none⟩ v7 (o + 1) (Nat.succ_ne_self o)).trans words, R_apart r1 rfl (fun k cells hk => Below.heap_setCell w7 ⟨o, 1, none⟩ v7 k (type_ne hk box (show (9 : Nat) ≠ 110 by decide))), R_apart hq rfl (fun k cells hk => Below.heap_setCell w7 ⟨o, 1, none⟩ v7 k (type_ne hk box (show (3 : Nat) ≠ 110 by decide))), below_set hb ho⟩
theorem Under.below {W : World} {o : Nat} {ws : Array Value} {wr w1 : World} {v1 v2 : Value} {ns : List ByteArray} {is : List Int} (h : Under W o ws wr v1 v2 ns is) (hb : Below wr.heap.size wr w1) : Under W o ws w1 v1 v2 ns is :=
  ⟨(hb.block o (blk_lt h.box)).trans h.box, (hb.block (o + 1) (blk_lt h.words)).trans h.words, Kd.R_below h.r1 hb, Kd.R_below h.r2 hb, h.bel.trans (hb.mono h.bel.size)⟩
/-- The words of a text are short. -/
theorem splitL_size (c : UInt8) : ∀ (l x : List UInt8), x ∈ splitL c l → x.length ≤ l.length
  | [], x, h => by
    rw [splitL] at h
    simp at h
    simp [h]
  | b :: l, x, h => by
    rw [splitL] at h
    have ih := splitL_size c l
    split at h
    · rcases List.mem_cons.1 h with rfl | h
      · simp
      · have := ih x h; simp; omega
    · split at h
      · simp at h; simp [h]
      · next hd tl he =>
        rcases List.mem_cons.1 h with rfl | h
        · have := ih hd (by rw [he]; exact List.mem_cons_self); simp; omega
        · have := ih x (by rw [he]; exact List.mem_cons_of_mem _ h); simp; omega
theorem word_size (text s : ByteArray) (h : s ∈ wordsB text) : s.size ≤ text.size := by
  have h1 : s.data.toList ∈ splitL 32 text.data.toList := by
    rw [← wordsB_data]
    exact List.mem_map_of_mem h
  simpa using splitL_size 32 _ _ h1
section
set_option maxRecDepth 100000
set_option maxHeartbeats 2000000
theorem read_ok (x text : ByteArray) (W : World) (hT : Tabs W) (hs : text.size < 4294967281) (hx : Lib.hasSuffix x.data.toList [43] = false) (m : Nat) (hm0 : m ≠ 0) (hxm : x.size = m) (hm100 : m ≤ 100) (hw : (wordsB text).length = m + 1) (hline : isLineB text = true) (names : List ByteArray) (nums : List Int) (hsort : sortV x.data.toList (wordsB text).tail = some (names, nums)) :
    Calls Tryz.prog 72 #[.string x, .string text] W fun e w' => (∃ v1 v2, e = .returned (.tuple #[.agg #[v1, v2], .bool true]) ∧ Kd.string.R 9 w' W.heap.size (fun j => W.heap.size ≤ j) v1 names ∧ (Kd.int .i64).R 3 w' W.heap.size (fun j => W.heap.size ≤ j) v2 nums) ∧ Below W.heap.size W w' := by
  have HG := Aside0.mk (begun x text W hT hs m hw)
  have HX := Aside0.mk (fun w => cutPlus x w hx (by omega))
  have HLine := Aside0.mk (isLine_calls text _ HG.out.tabs hs)
  rw [hline] at HLine
  have d1 : ((m : Int) != (x.size : Int)) = false := bne_eq_false_iff_eq.2 (by omega)
  have hc := World.alloc_heap_new W (.cells #[.slice none 0 0, .slice none 0 0] 110)
  have HC := Aside0.mk (show ((W.alloc (.cells #[.slice none 0 0, .slice none 0 0] 110)).alloc (.cells ((wordsB text).map Value.string).toArray 9)).heap[W.heap.size]? = some (boxO (.slice none 0 0) (.slice none 0 0)) from (Below.heap_alloc _ _ _ (by simp)).trans hc)
  have hwd : ((W.alloc (.cells #[.slice none 0 0, .slice none 0 0] 110)).alloc (.cells ((wordsB text).map Value.string).toArray 9)).heap[W.heap.size + 1]? = some (.cells ((wordsB text).map Value.string).toArray 9 (0, 0)) := by
    have hn := World.alloc_heap_new (W.alloc (.cells #[.slice none 0 0, .slice none 0 0] 110)) (.cells ((wordsB text).map Value.string).toArray 9)
    rw [World.size_alloc] at hn
    exact hn
  have HWd := Aside0.mk hwd
  have HTW := Aside0.mk hT
  have HSort := Aside0.mk hsort
  have HLen := Aside0.mk (And.intro hw hxm)
  clear hT hx hw hline hc hsort hxm hwd
  go_enter Tryz.func72, Tryz.ntmps72
  go_wp2_with (first | (go_at_call 36; refine HG.out.split.mono ?_; rintro e w' ⟨rfl, rfl⟩) | (go_at_call 113; refine (HX.out _).mono ?_; rintro e w' ⟨rfl, rfl⟩) | (go_at_call 115; refine HLine.out.mono ?_; rintro e w2 ⟨rfl, hb⟩; have HB2 := Aside0.mk hb; clear hb))
  have HU := Aside0.mk (show Under W W.heap.size ((wordsB text).map Value.string).toArray w2 (.slice none 0 0) (.slice none 0 0) [] [] from ⟨(HB2.out.block W.heap.size (blk_lt HC.out)).trans HC.out, (HB2.out.block _ (blk_lt HWd.out)).trans HWd.out, Kd.R_nil _ _ _ _ _, Kd.R_nil _ _ _ _ _, HG.out.bel.trans (HB2.out.mono HG.out.bel.size)⟩)
  go_loopw [62] (fun v62 wr => ∃ (k : Nat) (ns : List ByteArray) (is : List Int) (v1 v2 : Value), k ≤ m ∧ v62 = .int .i64 k ∧
      Aside0 (ns.length ≤ k ∧ is.length ≤ k) ∧ Aside0 (∃ r, sortV (x.data.toList.drop k) ((wordsB text).tail.drop k) = some r ∧ names = ns ++ r.1 ∧ nums = is ++ r.2) ∧ Aside0 (Under W W.heap.size ((wordsB text).map Value.string).toArray wr v1 v2 ns is)) (fun v62 _ => m - (intOf v62).toNat)
  case atStart => exact ⟨0, [], [], _, _, Nat.zero_le _, rfl, ⟨⟨Nat.le_refl _, Nat.le_refl _⟩⟩, ⟨⟨(names, nums), HSort.out, rfl, rfl⟩⟩, HU⟩
  case round =>
    obtain ⟨k, ns, is, v1, v2, hk, rfl, hl, hr, hu⟩ := hrel
    by_cases hlt : k < m
    · have i0 : (0 : Int) ≤ (k : Int) := by omega
      have i1 : (k : Int) < (m : Int) := by omega
      have i2 : (k : Int) < (x.size : Int) := by have := HLen.out.2; omega
      have hkx : k < x.data.toList.length := by have := HLen.out.2; simp; omega
      have hkw : k < (wordsB text).tail.length := by have := HLen.out.1; simp; omega
      obtain ⟨r, hr1, hr2, hr3⟩ := hr.out
      rw [List.drop_eq_getElem_cons hkx, List.drop_eq_getElem_cons hkw] at hr1
      obtain ⟨s, hs'⟩ : ∃ s, (wordsB text).tail[k] = s := ⟨_, rfl⟩
      obtain ⟨cb, hcb⟩ : ∃ cb, x.data.toList[k] = cb := ⟨_, rfl⟩
      rw [hs', hcb] at hr1
      have hkx2 : k < x.size := by simpa using hkx
      have hbt : x[k]'hkx2 = cb := hcb
      have hsz : s.size ≤ 140737488355328 := by
        have := word_size text s (by rw [← hs']; exact List.mem_of_mem_tail (List.getElem_mem _))
        omega
      have hx1 : wr.cell? ⟨W.heap.size + 1, 1 + k, none⟩ = some (.string s) := by
        rw [blk_cell hu.out.words (1 + k)]
        have hj2 : (wordsB text)[k + 1]? = some s := by
          rw [← hs', List.getElem_tail, List.getElem?_eq_getElem]
        simp [Nat.add_comm 1 k, hj2]
      have q0 := (blk_cell hu.out.box 0).trans rfl
      have q1 := (blk_cell hu.out.box 1).trans rfl
      have HR2 := Aside0.mk hr2
      have HR3 := Aside0.mk hr3
      have HHs := Aside0.mk hs'
      have HHc := Aside0.mk hcb
      clear hr2 hr3 hs' hcb
      replace i0 := eq_true i0
      replace i1 := eq_true i1
      by_cases hc : cb = 110
      · rw [sortV, if_pos hc] at hr1
        by_cases hn : isNameB s.data.toList = true
        · rw [if_pos hn] at hr1
          obtain ⟨r', hr', rfl⟩ := Option.map_eq_some_iff.1 hr1
          have HR1 := Aside0.mk hr'
          have hcn : (((x[k]'hkx2).toNat : Int) == 110) = true := by rw [hbt, hc]; rfl
          have HN := Aside0.mk (fun w => isName_calls s w hsz)
          rw [hn] at HN
          clear hr1 hr' hn
          obtain ⟨A1, c1, hv1⟩ := Kd.R_slice hu.out.r1
          subst hv1
          have HBig := Aside0.mk hu.out.bel.size
          have HM := Aside0.mk hm100
          have HLt := Aside0.mk (blk_lt hu.out.words)
          have HLn := Aside0.mk hl.out.1
          clear hbt hc
          go_wp2_with (first | (go_at_call 116; refine (HN.out _).mono ?_; rintro e w8 ⟨rfl, hb8⟩; have HB8 := Aside0.mk hb8; clear hb8) | (at_builtin; go_loud (refine Kd.R_append Kd.string (w0 := W) W.heap.size rfl (.tmp 72) (.tmp 74) 22 9 (.string ByteArray.empty) 16 rfl Tryz.underlying22 info9 rfl (by decide) (by omega) (.slice A1 ns.length c1) ns s [.string s] (fun j => W.heap.size ≤ j ∧ j ≠ W.heap.size + 1) (fun _ => False) rfl rfl rfl (fun _ hk => hk.elim) (fun j hj => ⟨Nat.le_trans HBig.out hj, by have := HLt.out; omega⟩) hu.out.r1 hu.out.bel HBig.out (by have := HM.out; have := HLn.out; omega) ?_); intro v7 w7 hq7 hb7 hg7 hat7; obtain ⟨A7, c7, rfl⟩ := Kd.R_slice hq7; have HN7 := Aside0.mk (named hu.out hq7 hb7 hg7 (Nat.le_refl _)); have p7 := blk_cell HN7.out.1 0; have z7 := blk_frozen HN7.out.1 0; clear hq7 hb7 hg7 hat7))
          have hl7 : (ns ++ [s]).length = ns.length + 1 := by simp
          rw [hl7] at HN7
          refine ⟨⟨k + 1, ns ++ [s], is, .slice A7 (ns.length + 1) c7, v2, by omega, rfl, ⟨by simp; have := hl.out; omega⟩, ⟨⟨r', HR1.out, ?_, HR3.out⟩⟩, ⟨HN7.out.2.below HB8.out⟩⟩, by simp [intOf]; omega⟩
          rw [HR2.out]; simp
        · rw [if_neg hn] at hr1; cases hr1
      · rw [sortV, if_neg hc] at hr1
        cases hv : numberV s.data.toList with
        | none => rw [hv] at hr1; cases hr1
        | some n =>
          rw [hv] at hr1
          obtain ⟨r', hr', rfl⟩ := Option.map_eq_some_iff.1 hr1
          have HR1 := Aside0.mk hr'
          have hcn : (((x[k]'hkx2).toNat : Int) == 110) = false := by
            rw [hbt]
            refine beq_eq_false_iff_ne.2 (fun h => hc ?_)
            have h1 : cb.toNat = 110 := by omega
            exact UInt8.toNat_inj.1 h1
          have HN := Aside0.mk (number_ok s n wr (HTW.out.below hu.out.bel HTW.out.low) hsz hv)
          clear hr1 hr' hv
          obtain ⟨A1, c1, hv1⟩ := Kd.R_slice hu.out.r2
          subst hv1
          have HM := Aside0.mk hm100
          have HLn := Aside0.mk hl.out.2
          clear hbt hc q0 q1
          go_wp2_with (first | (go_at_call 117; refine HN.out.mono ?_; rintro e w6 ⟨rfl, hb6⟩; have HU6 := Aside0.mk (hu.out.below hb6); have q0 := (blk_cell HU6.out.box 0).trans rfl; have q1 := (blk_cell HU6.out.box 1).trans rfl; have HBig := Aside0.mk HU6.out.bel.size; have HB6 := Aside0.mk hb6; clear hb6) | (at_builtin; go_loud (refine Kd.R_append (Kd.int .i64) (w0 := W) W.heap.size rfl (.tmp 85) (.tmp 87) 64 3 (.int .i64 0) 8 rfl Tryz.underlying64 info3 rfl (by decide) (by omega) (.slice A1 is.length c1) is n [.int .i64 n] (fun j => W.heap.size ≤ j) (fun _ => False) rfl rfl rfl (fun _ hk => hk.elim) (fun j hj => Nat.le_trans HBig.out hj) HU6.out.r2 HU6.out.bel HBig.out (by have := HM.out; have := HLn.out; omega) ?_); intro v7 w7 hq7 hb7 hg7 hat7; obtain ⟨A7, c7, rfl⟩ := Kd.R_slice hq7; have HN7 := Aside0.mk (numbered HU6.out hq7 hb7 hg7 (Nat.le_refl _)); have p7 := blk_cell HN7.out.1 1; have z7 := blk_frozen HN7.out.1 1; clear hq7 hb7 hg7 hat7))
          have hl7 : (is ++ [n]).length = is.length + 1 := by simp
          rw [hl7] at HN7
          refine ⟨⟨k + 1, ns, is ++ [n], v1, .slice A7 (is.length + 1) c7, by omega, rfl, ⟨by simp; have := hl.out; omega⟩, ⟨⟨r', HR1.out, HR2.out, ?_⟩⟩, ⟨HN7.out.2⟩⟩, by simp [intOf]; omega⟩
          rw [HR3.out]; simp
    · have i1 : ¬ (k : Int) < (m : Int) := by omega
      obtain ⟨r, hr1, hr2, hr3⟩ := hr.out
      rw [List.drop_of_length_le (by have := HLen.out.2; simp; omega)] at hr1
      simp only [sortV, Option.some.injEq] at hr1
      subst hr1
      rw [List.append_nil] at hr2 hr3
      obtain ⟨A1, c1, hv1⟩ := Kd.R_slice hu.out.r1
      obtain ⟨A2, c2, hv2⟩ := Kd.R_slice hu.out.r2
      subst hv1 hv2
      have HR2 := Aside0.mk hr2
      have HR3 := Aside0.mk hr3
      have q0 := (blk_cell hu.out.box 0).trans rfl
      have q1 := (blk_cell hu.out.box 1).trans rfl
      have z0 := blk_frozen hu.out.box 0
      have z1 := blk_frozen hu.out.box 1
      clear hr2 hr3
      go_wp2_with fail
      have p1 := blk_put (cs := #[.slice A1 ns.length c1, .slice A2 is.length c2]) hu.out.box 0 (.slice A1 ns.length c1) rfl
      have p2 := blk_put (cs := #[.slice A1 ns.length c1, .slice A2 is.length c2]) p1 1 (.slice A2 is.length c2) rfl
      have e0 := (blk_cell p2 0).trans rfl
      have e1 := (blk_cell p2 1).trans rfl
      refine bodyPost_ret (v := .tuple #[.agg #[.slice A1 ns.length c1, .slice A2 is.length c2], .bool true]) (by simp [results, Tryz.results72, go_sem, e0, e1]) rfl ⟨⟨_, _, rfl, ?_, ?_⟩, below_set (below_set hu.out.bel (Nat.le_refl _)) (Nat.le_refl _)⟩
      · rw [HR2.out]
        exact Kd.R_mono (R_apart (R_apart hu.out.r1 rfl (fun k cells hk => Below.heap_setCell _ _ _ k (type_ne hk hu.out.box (show (9 : Nat) ≠ 110 by decide)))) rfl (fun k cells hk => Below.heap_setCell _ _ _ k (type_ne hk p1 (show (9 : Nat) ≠ 110 by decide)))) (fun _ hj => hj.1)
      · rw [HR3.out]
        exact R_apart (R_apart hu.out.r2 rfl (fun k cells hk => Below.heap_setCell _ _ _ k (type_ne hk hu.out.box (show (3 : Nat) ≠ 110 by decide)))) rfl (fun k cells hk => Below.heap_setCell _ _ _ k (type_ne hk p1 (show (3 : Nat) ≠ 110 by decide)))
end
end Go.Proofs.YtoeeipkiadbnpaaGreatDoor.Lib10
end
