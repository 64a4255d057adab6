/- Texts that the proof of LibraryChairs needs, put together in build order by this session's program (wip/tools/claimtrim.py). -/
import Derived.Test.YtoeeipkiadbnpaaGreatDoorLibraryChairsM22
import Derived.Test.YtoeeipkiadbnpaaGreatDoorLibraryChairsM23
import Derived.Test.YtoeeipkiadbnpaaGreatDoorLibraryChairsM20
import Derived.Test.YtoeeipkiadbnpaaGreatDoorLibraryChairsM24
section
namespace Go.Proofs.YtoeeipkiadbnpaaGreatDoor.Lib10
open Go.RowKit Go.Proofs.YtoeeipkiadbnpaaGreatDoorW.PrintWords Go.Proofs.YtoeeipkiadbnpaaGreatDoorW.PrintLast Go.Proofs.YtoeeipkiadbnpaaGreatDoorW.PrintMore
set_option linter.unusedVariables false
section
set_option maxRecDepth 100000
set_option maxHeartbeats 2000000
theorem ask_chairs2 {W : World} {g : Nat} {st : St} {S : Nat → Prop} (h0 : StAt S W g st) (hg : Good st) (hT : Tabs W) :
    Calls Tryz.prog 59 #[ptr g, .string wChairs] W fun e w' => e = .returned (.tuple #[.string (seatedAll st.chairs), .int .i64 0]) ∧ Below W.heap.size W w' := by
  obtain ⟨m1, h, _⟩ := h0
  have hs : (wChairs).size < 4294967281 := by decide
  have hword : headW wChairs = wChairs := by decide +kernel
  have hw : (wordsB wChairs).length = 1 := by decide +kernel
  have hline : isLineB wChairs = true := by decide +kernel
  obtain ⟨b1, b2, b3, _, _, _, _, _, _, _, hr⟩ := h
  have HSt := Aside0.mk hr
  have HT := Aside0.mk hT
  have HC := Aside0.mk (fun w (hT : Tabs w) => cut_calls wChairs w hT hs)
  rw [hword] at HC
  have HR := Aside0.mk (fun w (hT : Tabs w) => read_ok0 ByteArray.empty wChairs w hT hs rfl hw hline)
  have HS := Aside0.mk (fun w (hst : StRec w g b1 b2 b3 m1 (ints st.chairs) (strs st.loans)) (hT : Tabs w) v1 v2 => seated_good hg hst v1 v2 hT)
  have HB0 := Aside0.mk (below_alloc (Below.refl W.heap.size W) (.cells #[ptr g] 75))
  have HC0 := Aside0.mk (HC.out _ (HT.out.below HB0.out HT.out.low))
  clear hr hT hword hw hline hg
  go_enter Tryz.func59, Tryz.ntmps59
  go_wp2_with (first | (go_at_call 37; refine HC0.out.mono ?_; rintro e w1 ⟨⟨s1, s2, rfl⟩, hb⟩; have HB1 := Aside0.mk (HB0.out.trans (hb.mono HB0.out.size)); have q0 := cell_below ((blk_cell (World.alloc_heap_new W (.cells #[ptr g] 75)) 0).trans rfl) hb; have HB2 := Aside0.mk (fun o => below_alloc HB1.out o); have q0a := fun o => cell_below q0 (below_alloc (Below.refl w1.heap.size w1) o); clear hb) | (go_at_call 72; refine (HR.out _ (HT.out.below (HB2.out _) HT.out.low)).mono ?_; rintro e w3 ⟨rfl, hb⟩; have HB3 := Aside0.mk ((HB2.out _).trans (hb.mono (HB2.out _).size)); have HB4 := Aside0.mk (fun o => below_alloc HB3.out o); have HS4 := Aside0.mk (fun o v1 v2 => HS.out _ (HSt.out.below (HB4.out o)) (HT.out.below (HB4.out o) HT.out.low) v1 v2); clear hb) | (go_at_call 83; refine (HS4.out _ _ _).mono ?_; rintro e w5 ⟨rfl, hb⟩; have HB5 := Aside0.mk ((HB4.out _).trans (hb.mono (HB4.out _).size)); clear hb))
  go_ret2
  exact ⟨rfl, HB5.out⟩
end
end Go.Proofs.YtoeeipkiadbnpaaGreatDoor.Lib10
end

section
namespace Go.Proofs.YtoeeipkiadbnpaaGreatDoor.Lib10
open Go.RowKit Go.Proofs.YtoeeipkiadbnpaaGreatDoorW.PrintWords Go.Proofs.YtoeeipkiadbnpaaGreatDoorW.PrintLast Go.Proofs.YtoeeipkiadbnpaaGreatDoorW.PrintMore
set_option linter.unusedVariables false
variable {B : Nat}
abbrev nl : ByteArray := ⟨#[10]⟩
theorem fold_size (f : ByteArray → ByteArray) (K : Nat) : ∀ (l : List ByteArray) (o : ByteArray), (∀ x ∈ l, (f x).size ≤ K) → (l.foldl (fun o n => o ++ f n) o).size ≤ o.size + K * l.length
  | [], o, _ => by simp
  | x :: l, o, h => by
    have ih := fold_size f K l (o ++ f x) (fun y hy => h y (List.mem_cons_of_mem _ hy))
    have h1 := h x List.mem_cons_self
    rw [List.foldl_cons]
    rw [ByteArray.size_append] at ih
    have e : K * (x :: l).length = K * l.length + K := by rw [List.length_cons, Nat.mul_succ]
    omega
theorem itoaB_size (n : Int) (h0 : -9223372036854775808 ≤ n) (h1 : n ≤ 9223372036854775807) : (itoaB n).size ≤ 21 := by
  have := Lib.itoa_length_le n h0 h1
  show (Lib.itoa n).toArray.size ≤ 21
  simpa using this
theorem seats_mem {ch : List (Str × Int)} {x : ByteArray} (h : x ∈ seatsOf ch) : x.data.toList ∈ keysOf ch := by
  obtain ⟨k, hk, rfl⟩ := List.mem_map.1 (List.mem_mergeSort.1 h)
  simpa using hk
theorem seated_size {st : St} (h : Good st) : (seatedAll st.chairs).size ≤ 1000 := by
  have h1 := fold_size (pieceV st.chairs) 40 (seatsOf st.chairs) ⟨#[99, 104, 97, 105, 114, 115]⟩ (fun x hx => by
    have hx8 := name_size (h.k2 _ (seats_mem hx))
    have hr := chair_r8 h x
    have hi := itoaB_size (chairOf st.chairs x) (by omega) (by omega)
    unfold pieceV
    simp only [ByteArray.size_append]
    have h32 : (⟨#[32]⟩ : ByteArray).size = 1 := rfl
    have h58 : (⟨#[58]⟩ : ByteArray).size = 1 := rfl
    omega)
  have hl : (seatsOf st.chairs).length ≤ 8 := by
    have := h.c8
    simpa [seatsOf, keysOf] using this
  have h6 : (⟨#[99, 104, 97, 105, 114, 115]⟩ : ByteArray).size = 6 := rfl
  show (seatedV st.chairs (seatsOf st.chairs)).size ≤ 1000
  unfold seatedV
  omega
section
set_option maxRecDepth 100000
set_option maxHeartbeats 2000000
end
end Go.Proofs.YtoeeipkiadbnpaaGreatDoor.Lib10
end

section
namespace Go.Proofs.YtoeeipkiadbnpaaGreatDoor.Lib10
open Go.RowKit Go.Proofs.YtoeeipkiadbnpaaGreatDoorW.PrintWords Go.Proofs.YtoeeipkiadbnpaaGreatDoorW.PrintLast Go.Proofs.YtoeeipkiadbnpaaGreatDoorW.PrintMore
set_option linter.unusedVariables false
variable {B : Nat}
def runS (p : List ByteArray × St) (line : ByteArray) : List ByteArray × St := ((libDoV (mkReel 20000 p.1) p.1 p.2 line).lines, (libDoV (mkReel 20000 p.1) p.1 p.2 line).st)
/-- What doing lines leaves. -/
def runs (l : List ByteArray) : List ByteArray × St := l.foldl runS ([], St.begin)
theorem runs_take {l : List ByteArray} {k : Nat} {y : ByteArray} (h : l[k]? = some y) : runs (l.take (k + 1)) = runS (runs (l.take k)) y := by
  unfold runs
  rw [List.take_add_one, h, Option.toList_some, List.foldl_append]
  rfl
theorem runS_cases (p : List ByteArray × St) (y : ByteArray) : (∃ er, er ≠ 0 ∧ libDoV (mkReel 20000 p.1) p.1 p.2 y = ⟨ByteArray.empty, er, mkReel 20000 p.1, p.1, p.2⟩ ∧ runS p y = p) ∨
    ((doS p.2 y).1 = 0 ∧ ((booksV p.1).length : Int) + ((writtenV y).length : Int) ≤ 20000 ∧ libDoV (mkReel 20000 p.1) p.1 p.2 y = ⟨headW y, 0, mkReel 20000 (p.1 ++ [y]), p.1 ++ [y], (doS p.2 y).2⟩ ∧ runS p y = (p.1 ++ [y], (doS p.2 y).2)) := by
  unfold runS
  rw [libDo_run]
  by_cases h1 : (doS p.2 y).1 ≠ 0
  · rw [if_pos h1]; exact .inl ⟨_, h1, rfl, rfl⟩
  · rw [if_neg h1]
    by_cases h2 : (20000 : Int) < ((booksV p.1).length : Int) + ((writtenV y).length : Int)
    · rw [if_pos h2]; exact .inl ⟨7, by decide, rfl, rfl⟩
    · rw [if_neg h2]; exact .inr ⟨by simpa using h1, by omega, rfl, rfl⟩
theorem runs_inv : ∀ (l : List ByteArray), Reach (runs l).1 (runs l).2 ∧ (booksV (runs l).1).length ≤ 20000 ∧ (runs l).1.length ≤ l.length := by
  suffices h : ∀ (r : List ByteArray), Reach (runs r.reverse).1 (runs r.reverse).2 ∧ (booksV (runs r.reverse).1).length ≤ 20000 ∧ (runs r.reverse).1.length ≤ r.reverse.length by
    intro l
    have := h l.reverse
    rwa [List.reverse_reverse] at this
  intro r
  induction r with
  | nil => exact ⟨Reach.nil, by decide, Nat.le_refl _⟩
  | cons y r ih =>
    obtain ⟨h1, h2, h3⟩ := ih
    have e : runs (y :: r).reverse = runS (runs r.reverse) y := by unfold runs; rw [List.reverse_cons, List.foldl_append]; rfl
    rw [e]
    rcases runS_cases (runs r.reverse) y with ⟨er, _, _, e2⟩ | ⟨h4, h5, _, e2⟩
    · rw [e2]; exact ⟨h1, h2, by simp at h3 ⊢; omega⟩
    · rw [e2]
      refine ⟨h1.snoc h4, ?_, by simp at h3 ⊢; omega⟩
      show (booksV ((runs r.reverse).1 ++ [y])).length ≤ 20000
      rw [booksV_snoc, List.length_append]
      omega
theorem take_min60 (l : List ByteArray) : l.take 60 = l.take (min l.length 60) := by
  rcases Nat.le_total l.length 60 with h | h
  · rw [Nat.min_eq_left h, List.take_of_length_le h, List.take_of_length_le (Nat.le_refl _)]
  · rw [Nat.min_eq_right h]
/-- What opened answers. -/
def OpenedEnd2 (W : World) (l : List ByteArray) (e : Ending) (w' : World) : Prop := ∃ lg, e = .returned (.tuple #[ptr lg, ptr W.heap.size, .bool true]) ∧ Ran W.heap.size w' lg W.heap.size (runs (l.take 60)).1 (runs (l.take 60)).2 ∧ Below W.heap.size W w'
section
set_option maxRecDepth 100000
set_option maxHeartbeats 2000000
theorem opened_runs {W : World} {A : Option Addr} {c : Nat} {l : List ByteArray} (hC : Kd.string.C W A l.length l) (hc : l.length ≤ c) (hs : ∀ x ∈ l, x.size < 4294967281) (hT : Tabs W) : Calls Tryz.prog 11 #[.slice A l.length c] W (OpenedEnd2 W l) := by
  have HN := Aside0.mk (new_ran hT)
  have HC := Aside0.mk hC
  have HS := Aside0.mk hs
  have HT := Aside0.mk hT
  obtain ⟨n, hn⟩ : ∃ n, n = min l.length 60 := ⟨_, rfl⟩
  have hmin : min (l.length : Int) 60 = (n : Int) := by omega
  have HNl := Aside0.mk (show n ≤ l.length by omega)
  have h60 : n ≤ 60 := by omega
  have HTk := Aside0.mk (show l.take 60 = l.take n by rw [hn]; exact take_min60 l)
  clear hC hs hT hn
  go_enter Tryz.func11, Tryz.ntmps11
  go_wp2_with (first | (go_at_call 17; refine HN.out.mono ?_; rintro e w1 ⟨rfl, hb1, hlt1, hop⟩; have HB1 := Aside0.mk hb1; have HOp := Aside0.mk hop; clear hb1 hlt1 hop) | (go_at_call 18; refine HOp.out.mono ?_; rintro e w2 ⟨lg, rfl, hrn, hb2⟩; have HRn := Aside0.mk hrn; have HB2 := Aside0.mk hb2; clear hrn hb2))
  clear hmin
  go_loopw [30] (fun v30 wr => ∃ (k : Nat) (lines : List ByteArray) (st : St), k ≤ n ∧ v30 = .int .i64 k ∧ Aside0 (Ran W.heap.size wr lg W.heap.size lines st) ∧ Aside0 (Below W.heap.size W wr) ∧ Aside0 (runs (l.take k) = (lines, st))) (fun v30 _ => n - (intOf v30).toNat)
  case atStart => exact ⟨0, [], St.begin, Nat.zero_le _, rfl, HRn, HB2, ⟨rfl⟩⟩
  case round =>
    obtain ⟨k, lines, st, hk, rfl, hrn, hbl, hrr⟩ := hrel
    by_cases hlt : k < n
    · have i0 : (0 : Int) ≤ (k : Int) := by omega
      have i1 : (k : Int) < (n : Int) := by omega
      have hkl : k < l.length := by have := HNl.out; omega
      obtain ⟨y, hy⟩ : ∃ y, l[k]? = some y := ⟨_, List.getElem?_eq_getElem hkl⟩
      have HSy := Aside0.mk (HS.out y (List.mem_of_getElem? hy))
      obtain ⟨ad, he, hc⟩ := Kd.at_string (Kd.C_below HC.out hbl.out) k i0 (by omega)
      cases he
      have h1 : rdOf ByteArray.empty l (k : Int) = y := by
        unfold rdOf
        rw [Int.toNat_natCast, List.getD_eq_getElem?_getD, hy]
        rfl
      rw [h1, Int.toNat_natCast] at hc
      have HDo := Aside0.mk (hrn.out.do (HT.out.below hbl.out HT.out.low) HSy.out)
      have HY := Aside0.mk hy
      clear h1 hy
      replace i0 := eq_true i0
      replace i1 := eq_true i1
      go_wp2_with (go_at_call 15; refine HDo.out.mono ?_; rintro e w6 ⟨rfl, hr6, hb6⟩; have HR6 := Aside0.mk hr6; have HB6 := Aside0.mk (hbl.out.trans hb6); clear hr6 hb6)
      exact ⟨⟨k + 1, _, _, by omega, by first | rfl | simp, HR6, HB6, ⟨by rw [runs_take HY.out, hrr.out]; rfl⟩⟩, by simp [intOf]; omega⟩
    · have i1 : ¬ (k : Int) < (n : Int) := by omega
      go_wp2_with fail
      go_ret3
      obtain rfl : k = n := by omega
      refine ⟨lg, rfl, ?_, hbl.out⟩
      rw [HTk.out, hrr.out]
      exact hrn.out
theorem ran_journal {w : World} {lg rg : Nat} {lines : List ByteArray} {st : St} (h : Ran B w lg rg lines st) : Calls Tryz.prog 12 #[ptr lg] w fun e w' => (∃ A c, e = .returned (.slice A lines.length c) ∧ Kd.string.R 9 w' w.heap.size (fun j => w.heap.size ≤ j) (.slice A lines.length c) lines) ∧ Below w.heap.size w w' := by
  obtain ⟨sg, vj, A, m, c, h1, h2⟩ := h.at_
  refine (journal_calls h1).mono ?_
  rintro e w' ⟨⟨v, rfl, hr⟩, hb⟩
  obtain ⟨A, c, rfl⟩ := Kd.R_slice hr
  exact ⟨⟨A, c, rfl, hr⟩, hb⟩
theorem Ran.few {w : World} {lg rg : Nat} {lines : List ByteArray} {st : St} (h : Ran B w lg rg lines st) : lines.length ≤ 1000000 := by
  obtain ⟨sg, vj, A, m, c, h1, h2⟩ := h.at_
  exact h1.few
theorem Ran.short {w : World} {lg rg : Nat} {lines : List ByteArray} {st : St} (h : Ran B w lg rg lines st) : ∀ x ∈ lines, x.size < 4294967281 := by
  obtain ⟨sg, vj, A, m, c, h1, h2⟩ := h.at_
  exact fun x hx => by have := h1.short x hx; omega
end
end Go.Proofs.YtoeeipkiadbnpaaGreatDoor.Lib10
end

section
namespace Go.Proofs.YtoeeipkiadbnpaaGreatDoor.Lib10
open Go.RowKit Go.Proofs.YtoeeipkiadbnpaaGreatDoorW.PrintWords Go.Proofs.YtoeeipkiadbnpaaGreatDoorW.PrintLast Go.Proofs.YtoeeipkiadbnpaaGreatDoorW.PrintMore
set_option linter.unusedVariables false
theorem splitL_app (c : UInt8) (b : List UInt8) : ∀ a : List UInt8, splitL c (a ++ c :: b) = splitL c a ++ splitL c b
  | [] => by
    have e : splitL c (c :: b) = [] :: splitL c b := by rw [splitL, if_pos rfl]
    rw [List.nil_append, e]
    rfl
  | x :: a => by
    have ih := splitL_app c b a
    rw [List.cons_append, splitL, splitL]
    by_cases h : x = c
    · rw [if_pos h, if_pos h, ih]; rfl
    · rw [if_neg h, if_neg h, ih]
      have hl := splitL_length c a
      cases hs : splitL c a with
      | nil => rw [hs] at hl; simp at hl
      | cons w ws => rfl
theorem cut_at (c : UInt8) (pre post : List UInt8) (h : c ∉ pre) : Lib.cut (pre ++ c :: post) [c] = (pre, post, true) := by
  unfold Lib.cut
  rw [Lib.index_one, indexByte_append c post pre h, if_pos (by omega), Int.toNat_natCast, List.take_left]
  have hd : (pre ++ c :: post).drop (pre.length + [c].length) = post := by
    rw [List.drop_append]
    simp
  rw [hd]
theorem data_inj {x y : ByteArray} (h : x.data.toList = y.data.toList) : x = y := by
  cases x; cases y
  simp at h
  simp [h]
theorem map_data_inj : ∀ {l m : List ByteArray}, l.map (·.data.toList) = m.map (·.data.toList) → l = m
  | [], [], _ => rfl
  | [], _ :: _, h => by cases h
  | _ :: _, [], h => by cases h
  | x :: l, y :: m, h => by
    simp only [List.map_cons, List.cons.injEq] at h
    rw [data_inj h.1, map_data_inj h.2]
theorem name_chars {n : List UInt8} (h : isNameB n = true) : ∀ c ∈ n, 97 ≤ c ∧ c ≤ 122 := by
  unfold isNameB at h
  simp only [Bool.and_eq_true] at h
  intro c hc
  have h1 := List.all_eq_true.1 h.1 c hc
  unfold letterB at h1
  have h2 := of_decide_eq_true h1
  exact ⟨UInt8.le_iff_toNat_le.2 h2.1, UInt8.le_iff_toNat_le.2 h2.2⟩
theorem digit_c {c : Int} (h0 : 0 ≤ c) (h8 : c ≤ 8) : ∃ d : UInt8, Lib.itoa c = [d] ∧ 48 ≤ d ∧ d ≤ 56 ∧ Lib.atoiAll [d] = .ok c := by
  rcases (show c = 0 ∨ c = 1 ∨ c = 2 ∨ c = 3 ∨ c = 4 ∨ c = 5 ∨ c = 6 ∨ c = 7 ∨ c = 8 by omega) with rfl | rfl | rfl | rfl | rfl | rfl | rfl | rfl | rfl
  · exact ⟨48, by decide +kernel, by decide, by decide, by decide +kernel⟩
  · exact ⟨49, by decide +kernel, by decide, by decide, by decide +kernel⟩
  · exact ⟨50, by decide +kernel, by decide, by decide, by decide +kernel⟩
  · exact ⟨51, by decide +kernel, by decide, by decide, by decide +kernel⟩
  · exact ⟨52, by decide +kernel, by decide, by decide, by decide +kernel⟩
  · exact ⟨53, by decide +kernel, by decide, by decide, by decide +kernel⟩
  · exact ⟨54, by decide +kernel, by decide, by decide, by decide +kernel⟩
  · exact ⟨55, by decide +kernel, by decide, by decide, by decide +kernel⟩
  · exact ⟨56, by decide +kernel, by decide, by decide, by decide +kernel⟩
/-- One word of the reply. -/
def segB (ch : List (Str × Int)) (n : ByteArray) : ByteArray := (itoaB (chairOf ch n) ++ ⟨#[58]⟩) ++ n
theorem seg_data {ch : List (Str × Int)} {n : ByteArray} : (segB ch n).data.toList = Lib.itoa (chairOf ch n) ++ 58 :: n.data.toList := by
  unfold segB itoaB
  simp [ByteArray.data_append]
theorem piece_data {ch : List (Str × Int)} {n : ByteArray} : (pieceV ch n).data.toList = 32 :: (segB ch n).data.toList := by
  rw [seg_data]
  unfold pieceV itoaB
  simp [ByteArray.data_append]
theorem seg_blank {st : St} (hg : Good st) {n : ByteArray} (hn : isNameB n.data.toList = true) : (32 : UInt8) ∉ (segB st.chairs n).data.toList := by
  have hr := chair_r8 hg n
  obtain ⟨d, hd, d0, d1, _⟩ := digit_c hr.1 hr.2
  rw [seg_data, hd]
  intro h
  rcases List.mem_append.1 h with h | h
  · rw [List.mem_singleton] at h; rw [← h] at d0; exact absurd d0 (by decide)
  · rcases List.mem_cons.1 h with h | h
    · exact absurd h (by decide)
    · exact absurd (name_chars hn _ h).1 (by decide)
theorem seg_cut {st : St} (hg : Good st) (n : ByteArray) : Lib.cut (segB st.chairs n).data.toList [58] = (Lib.itoa (chairOf st.chairs n), n.data.toList, true) := by
  have hr := chair_r8 hg n
  obtain ⟨d, hd, d0, d1, _⟩ := digit_c hr.1 hr.2
  rw [seg_data]
  refine cut_at 58 _ _ (fun h => ?_)
  rw [hd, List.mem_singleton] at h
  rw [← h] at d1
  exact absurd d1 (by decide)
theorem seated_words {st : St} (hg : Good st) : wordsB (seatedAll st.chairs) = wChairs :: (seatsOf st.chairs).map (segB st.chairs) := by
  apply map_data_inj
  rw [wordsB_data]
  have hm : ∀ n ∈ seatsOf st.chairs, isNameB n.data.toList = true := fun n hn => hg.k2 _ (seats_mem hn)
  unfold seatedAll
  suffices h : ∀ r : List ByteArray, (∀ n ∈ r.reverse, isNameB n.data.toList = true) → splitL 32 (seatedV st.chairs r.reverse).data.toList = (wChairs :: r.reverse.map (segB st.chairs)).map (·.data.toList) by
    have := h (seatsOf st.chairs).reverse (by rw [List.reverse_reverse]; exact hm)
    rwa [List.reverse_reverse] at this
  intro r
  induction r with
  | nil =>
    intro _
    show splitL 32 wChairs.data.toList = [wChairs.data.toList]
    decide +kernel
  | cons n r ih =>
    intro h
    rw [List.reverse_cons] at h ⊢
    have h1 := ih (fun x hx => h x (List.mem_append_left _ hx))
    have h2 := seg_blank hg (h n (List.mem_append_right _ (List.mem_singleton.2 rfl)))
    rw [seatedV_snoc, ByteArray.data_append, Array.toList_append, piece_data, splitL_app, h1, splitL_none 32 _ h2]
    simp
def emp : ByteArray := ByteArray.empty
/-- The chairs that some players fill. -/
def fillA (ch : List (Str × Int)) (l : List ByteArray) : List ByteArray := l.foldl (fun a n => a.set (chairOf ch n).toNat n) (List.replicate 9 emp)
theorem fillA_snoc (ch : List (Str × Int)) (l : List ByteArray) (n : ByteArray) : fillA ch (l ++ [n]) = (fillA ch l).set (chairOf ch n).toNat n := by unfold fillA; rw [List.foldl_append]; rfl
def arrA (st : St) : List ByteArray := fillA st.chairs (seatsOf st.chairs)
theorem fillA_length (ch : List (Str × Int)) : ∀ l : List ByteArray, (fillA ch l).length = 9 := by
  suffices h : ∀ r : List ByteArray, (fillA ch r.reverse).length = 9 by intro l; have := h l.reverse; rwa [List.reverse_reverse] at this
  intro r
  induction r with
  | nil => rfl
  | cons n r ih => rw [List.reverse_cons, fillA_snoc, List.length_set, ih]
theorem get_chairOf {ch : List (Str × Int)} {n : ByteArray} (h : n.data.toList ∈ keysOf ch) : get ch n.data.toList = some (chairOf ch n) := by
  unfold chairOf
  cases hg : get ch n.data.toList with
  | none => exact absurd h (get_none_iff.1 hg)
  | some v => rfl
theorem fillA_at {st : St} (hg : Good st) : ∀ l : List ByteArray, (∀ n ∈ l, n.data.toList ∈ keysOf st.chairs) → ∀ i : Nat, i < 9 →
    ((fillA st.chairs l).getD i emp = emp ∧ (∀ n ∈ l, get st.chairs n.data.toList ≠ some (i : Int))) ∨ (∃ n ∈ l, get st.chairs n.data.toList = some (i : Int) ∧ (fillA st.chairs l).getD i emp = n) := by
  suffices h : ∀ r : List ByteArray, (∀ n ∈ r.reverse, n.data.toList ∈ keysOf st.chairs) → ∀ i : Nat, i < 9 →
    ((fillA st.chairs r.reverse).getD i emp = emp ∧ (∀ n ∈ r.reverse, get st.chairs n.data.toList ≠ some (i : Int))) ∨ (∃ n ∈ r.reverse, get st.chairs n.data.toList = some (i : Int) ∧ (fillA st.chairs r.reverse).getD i emp = n) by
    intro l hl
    have := h l.reverse (by rw [List.reverse_reverse]; exact hl)
    rwa [List.reverse_reverse] at this
  intro r
  induction r with
  | nil =>
    intro _ i hi
    left
    refine ⟨?_, fun n hn => by cases hn⟩
    show (List.replicate 9 emp).getD i emp = emp
    rw [List.getD_eq_getElem?_getD, List.getElem?_replicate]
    split <;> rfl
  | cons n r ih =>
    intro h i hi
    rw [List.reverse_cons] at h ⊢
    have h1 := ih (fun x hx => h x (List.mem_append_left _ hx)) i hi
    have hgn := get_chairOf (h n (List.mem_append_right _ (List.mem_singleton.2 rfl)))
    have hc := hg.seat _ _ hgn
    rw [fillA_snoc, getD_set _ _ _ _ _ (by rw [fillA_length]; omega)]
    by_cases e : i = (chairOf st.chairs n).toNat
    · rw [if_pos e]
      right
      exact ⟨n, List.mem_append_right _ (List.mem_singleton.2 rfl), by rw [hgn, e]; congr 1; omega, rfl⟩
    · rw [if_neg e]
      have hne : get st.chairs n.data.toList ≠ some (i : Int) := fun h2 => by
        rw [hgn] at h2
        have := Option.some.inj h2
        exact e (by omega)
      rcases h1 with ⟨h2, h3⟩ | ⟨m, hm, h2, h3⟩
      · left
        refine ⟨h2, fun x hx => ?_⟩
        rcases List.mem_append.1 hx with hx | hx
        · exact h3 x hx
        · rw [List.mem_singleton] at hx; subst hx; exact hne
      · right
        exact ⟨m, List.mem_append_left _ hm, h2, h3⟩
theorem seats_all {ch : List (Str × Int)} {n : ByteArray} (h : n.data.toList ∈ keysOf ch) : n ∈ seatsOf ch := by
  unfold seatsOf
  rw [List.mem_mergeSort]
  exact List.mem_map.2 ⟨_, h, toArr n⟩
theorem arr_get {st : St} (hg : Good st) {n : ByteArray} {i : Nat} (h : get st.chairs n.data.toList = some (i : Int)) : (arrA st).getD i emp = n := by
  have hc := hg.seat _ _ h
  have hk : n.data.toList ∈ keysOf st.chairs := List.mem_map.2 ⟨_, get_some_mem h, rfl⟩
  rcases fillA_at hg (seatsOf st.chairs) (fun x hx => seats_mem hx) i (by omega) with ⟨_, h2⟩ | ⟨m, hm, h2, h3⟩
  · exact absurd h (h2 n (seats_all hk))
  · rw [show (arrA st).getD i emp = m from h3]
    exact data_inj (hg.apart _ _ _ h2 h)
theorem arr_none {st : St} (hg : Good st) {i : Nat} (hi : i < 9) (h : ∀ n : ByteArray, get st.chairs n.data.toList ≠ some (i : Int)) : (arrA st).getD i emp = emp := by
  rcases fillA_at hg (seatsOf st.chairs) (fun x hx => seats_mem hx) i hi with ⟨h1, _⟩ | ⟨m, hm, h2, h3⟩
  · exact h1
  · exact absurd h2 (h m)
theorem name_ne {n : ByteArray} (h : isNameB n.data.toList = true) : n ≠ emp := fun e => by
  subst e
  exact absurd h (by decide)
theorem arr_some {st : St} (hg : Good st) {n : ByteArray} {i : Nat} (hi : i < 9) (hn : n ≠ emp) (h : (arrA st).getD i emp = n) : get st.chairs n.data.toList = some (i : Int) := by
  rcases fillA_at hg (seatsOf st.chairs) (fun x hx => seats_mem hx) i hi with ⟨h1, _⟩ | ⟨m, hm, h2, h3⟩
  · exact absurd (h.symm.trans h1) hn
  · rw [show m = n from h3.symm.trans h]  at h2
    exact h2
end Go.Proofs.YtoeeipkiadbnpaaGreatDoor.Lib10
end

section
namespace Go.Proofs.YtoeeipkiadbnpaaGreatDoor.Lib10
open Go.RowKit Go.Proofs.YtoeeipkiadbnpaaGreatDoorW.PrintWords Go.Proofs.YtoeeipkiadbnpaaGreatDoorW.PrintLast Go.Proofs.YtoeeipkiadbnpaaGreatDoorW.PrintMore
set_option linter.unusedVariables false
variable {B : Nat}
def boxS (l : List ByteArray) : Obj := .cells (l.map Value.string).toArray 29 (0, 0)
theorem boxS_cell {w : World} {g : Nat} {l : List ByteArray} (h : w.heap[g]? = some (boxS l)) (hl : l.length = 9) {i : Nat} (hi : i < 9) : w.cell? ⟨g, i, none⟩ = some (.string (l.getD i emp)) := by
  refine (blk_cell h i).trans ?_
  have hl : i < l.length := by rw [hl]; exact hi
  simp [hl, List.getD_eq_getElem?_getD]
theorem boxS_set {w : World} {g : Nat} {l : List ByteArray} (h : w.heap[g]? = some (boxS l)) (i : Nat) (x : ByteArray) : (w.setCell ⟨g, i, none⟩ (.string x)).heap[g]? = some (boxS (l.set i x)) := blk_put h i _ (by simp [List.map_set])
theorem boxS_below {w w' : World} {g : Nat} {l : List ByteArray} (h : w.heap[g]? = some (boxS l)) (hb : Below w.heap.size w w') : w'.heap[g]? = some (boxS l) := (hb.block g (blk_lt h)).trans h
theorem box_all {w : World} {g : Nat} {l : List ByteArray} (h : w.heap[g]? = some (boxS l)) (hl : l.length = 9) (a0 a1 a2 a3 a4 a5 a6 a7 a8 : ByteArray) : (((((((((w.setCell ⟨g, 0, none⟩ (.string a0)).setCell ⟨g, 1, none⟩ (.string a1)).setCell ⟨g, 2, none⟩ (.string a2)).setCell ⟨g, 3, none⟩ (.string a3)).setCell ⟨g, 4, none⟩ (.string a4)).setCell ⟨g, 5, none⟩ (.string a5)).setCell ⟨g, 6, none⟩ (.string a6)).setCell ⟨g, 7, none⟩ (.string a7)).setCell ⟨g, 8, none⟩ (.string a8)).heap[g]? = some (boxS [a0, a1, a2, a3, a4, a5, a6, a7, a8]) ∧ Below g w (((((((((w.setCell ⟨g, 0, none⟩ (.string a0)).setCell ⟨g, 1, none⟩ (.string a1)).setCell ⟨g, 2, none⟩ (.string a2)).setCell ⟨g, 3, none⟩ (.string a3)).setCell ⟨g, 4, none⟩ (.string a4)).setCell ⟨g, 5, none⟩ (.string a5)).setCell ⟨g, 6, none⟩ (.string a6)).setCell ⟨g, 7, none⟩ (.string a7)).setCell ⟨g, 8, none⟩ (.string a8)) := by
  have e : ((((((((l.set 0 a0).set 1 a1).set 2 a2).set 3 a3).set 4 a4).set 5 a5).set 6 a6).set 7 a7).set 8 a8 = [a0, a1, a2, a3, a4, a5, a6, a7, a8] := by
    match l, hl with
    | [b0, b1, b2, b3, b4, b5, b6, b7, b8], _ => rfl
  rw [← e]
  refine ⟨boxS_set (boxS_set (boxS_set (boxS_set (boxS_set (boxS_set (boxS_set (boxS_set (boxS_set (h) 0 a0) 1 a1) 2 a2) 3 a3) 4 a4) 5 a5) 6 a6) 7 a7) 8 a8, ?_⟩
  exact (Below.setCell (p := ⟨g, 8, none⟩) (Below.setCell (p := ⟨g, 7, none⟩) (Below.setCell (p := ⟨g, 6, none⟩) (Below.setCell (p := ⟨g, 5, none⟩) (Below.setCell (p := ⟨g, 4, none⟩) (Below.setCell (p := ⟨g, 3, none⟩) (Below.setCell (p := ⟨g, 2, none⟩) (Below.setCell (p := ⟨g, 1, none⟩) (Below.setCell (p := ⟨g, 0, none⟩) (Below.refl g w) (Nat.le_refl g) _) (Nat.le_refl g) _) (Nat.le_refl g) _) (Nat.le_refl g) _) (Nat.le_refl g) _) (Nat.le_refl g) _) (Nat.le_refl g) _) (Nat.le_refl g) _) (Nat.le_refl g) _)
theorem slice9 (g : Nat) (w : World) : (Instr.sliceAt 29 (.pointer (some ⟨g, 0, none⟩)) none none none).run Tryz.prog w = .ok (.slice (some ⟨g, 0, none⟩) 9 9) w := by kernel_rfl
def lastC (ch : List (Str × Int)) (l : List ByteArray) : Int := match l.getLast? with
  | none => 0
  | some n => chairOf ch n
theorem lastC_snoc (ch : List (Str × Int)) (l : List ByteArray) (n : ByteArray) : lastC ch (l ++ [n]) = chairOf ch n := by simp [lastC]
theorem fillA_mem {ch : List (Str × Int)} : ∀ (r : List ByteArray) (x : ByteArray), x ∈ fillA ch r.reverse → x = emp ∨ x ∈ r.reverse := by
  intro r
  induction r with
  | nil =>
    intro x hx
    left
    exact (List.mem_replicate.1 hx).2
  | cons n r ih =>
    intro x hx
    rw [List.reverse_cons, fillA_snoc] at hx
    rw [List.reverse_cons]
    rcases List.mem_or_eq_of_mem_set hx with h | h
    · rcases ih x h with h | h
      · exact .inl h
      · exact .inr (List.mem_append_left _ h)
    · exact .inr (List.mem_append_right _ (List.mem_singleton.2 h))
theorem fillA_mem' {ch : List (Str × Int)} {l : List ByteArray} {x : ByteArray} (h : x ∈ fillA ch l) : x = emp ∨ x ∈ l := by
  have := fillA_mem (ch := ch) l.reverse x (by rw [List.reverse_reverse]; exact h)
  rwa [List.reverse_reverse] at this
theorem seats_perm (ch : List (Str × Int)) : (seatsOf ch).Perm ((keysOf ch).map fun k => (⟨k.toArray⟩ : ByteArray)) := List.mergeSort_perm _ _
theorem seats_nodup {st : St} (hg : Good st) : (seatsOf st.chairs).Nodup := by
  rw [(seats_perm st.chairs).nodup_iff]
  exact List.Pairwise.map _ (fun a b hab e => hab (by simpa using congrArg (·.data.toList) e)) hg.nd2
theorem seats_sorted (ch : List (Str × Int)) : (seatsOf ch).Pairwise fun a b => chairOf ch a ≤ chairOf ch b := by
  have h := List.pairwise_mergeSort (le := fun a b => decide (chairOf ch a ≤ chairOf ch b)) (by intro a b c; simp; omega) (by intro a b; simp; omega) ((keysOf ch).map fun k => (⟨k.toArray⟩ : ByteArray))
  exact h.imp (fun h => by simpa using h)
/-- What is read next. -/
theorem seat_step {st : St} (hg : Good st) {k : Nat} (hk : k < (seatsOf st.chairs).length) {x : ByteArray} (hx : x = (seatsOf st.chairs)[k]) :
    ∃ c : Nat, chairOf st.chairs x = (c : Int) ∧ 1 ≤ c ∧ c ≤ 8 ∧ lastC st.chairs ((seatsOf st.chairs).take k) < (c : Int) ∧ isNameB x.data.toList = true ∧ x ∉ fillA st.chairs ((seatsOf st.chairs).take k) := by
  have hm : x ∈ seatsOf st.chairs := by rw [hx]; exact List.getElem_mem hk
  have hkx := seats_mem hm
  have hgx := get_chairOf hkx
  have hc := hg.seat _ _ hgx
  have hnm := hg.k2 _ hkx
  have hnd := seats_nodup hg
  refine ⟨(chairOf st.chairs x).toNat, by omega, by omega, by omega, ?_, hnm, fun h => ?_⟩
  · rw [show (((chairOf st.chairs x).toNat : Nat) : Int) = chairOf st.chairs x by omega]
    cases k with
    | zero => rw [List.take_zero]; show (0 : Int) < _; omega
    | succ j =>
      have hj : j < (seatsOf st.chairs).length := by omega
      rw [List.take_add_one, List.getElem?_eq_getElem hj, Option.toList_some, lastC_snoc]
      have h1 := (List.pairwise_iff_getElem.1 (seats_sorted st.chairs)) j (j + 1) hj hk (by omega)
      rw [← hx] at h1
      have hkj := seats_mem (List.getElem_mem hj)
      have hgj := get_chairOf hkj
      have hne : chairOf st.chairs (seatsOf st.chairs)[j] ≠ chairOf st.chairs x := fun e => by
        rw [e] at hgj
        have h2 := data_inj (hg.apart _ _ _ hgj hgx)
        rw [hx] at h2
        have h3 := (List.pairwise_iff_getElem.1 hnd) j (j + 1) hj hk (by omega)
        exact h3 h2
      omega
  · rcases fillA_mem' h with h | h
    · exact name_ne hnm h
    · obtain ⟨j, hj, e⟩ := List.mem_iff_getElem.1 h
      rw [List.length_take] at hj
      rw [List.getElem_take] at e
      have h3 := (List.pairwise_iff_getElem.1 hnd) j k (by omega) hk (by omega)
      exact h3 (e.trans hx)
theorem seat_step' {st : St} (hg : Good st) {nm : List ByteArray} (hn : nm = seatsOf st.chairs) {k : Nat} (hk : k < nm.length) {x : ByteArray} (hx : x = nm[k]) :
    ∃ c : Nat, chairOf st.chairs x = (c : Int) ∧ 1 ≤ c ∧ c ≤ 8 ∧ lastC st.chairs (nm.take k) < (c : Int) ∧ isNameB x.data.toList = true ∧ x ∉ fillA st.chairs (nm.take k) := by
  subst hn
  exact seat_step hg hk hx
theorem itoaB_data (c : Int) : (itoaB c).data.toList = Lib.itoa c := by unfold itoaB; simp
theorem cut_seg {st : St} (hg : Good st) (x : ByteArray) (W : World) (hT : Tabs W) (hx : isNameB x.data.toList = true) : Calls Tryz.prog 37 #[.string (segB st.chairs x), .string ⟨#[58]⟩] W fun e w' => e = .returned (.tuple #[.string (itoaB (chairOf st.chairs x)), .string x, .bool true]) ∧ Below W.heap.size W w' := by
  obtain ⟨m, hm⟩ := hT.maxLen
  have hr := chair_r8 hg x
  have hi := itoaB_size (chairOf st.chairs x) (by omega) (by omega)
  have hs : (segB st.chairs x).size < 4294967281 := by
    have := name_size hx
    unfold segB
    simp only [ByteArray.size_append]
    have h58 : (⟨#[58]⟩ : ByteArray).size = 1 := rfl
    omega
  refine (Tryz.strings_Cut (segB st.chairs x) ⟨#[58]⟩ m W hs hm).mono ?_
  rintro e w' ⟨rfl, q, rfl⟩
  have hc : Lib.cut (segB st.chairs x).data.toList (⟨#[58]⟩ : ByteArray).data.toList = _ := seg_cut hg x
  rw [hc]
  refine ⟨?_, drew_below W q⟩
  show Ending.returned (.tuple #[.string ⟨(Lib.itoa (chairOf st.chairs x)).toArray⟩, .string ⟨x.data.toList.toArray⟩, .bool true]) = _
  rw [toArr x]
  rfl
theorem atoi_seg {st : St} (hg : Good st) (x : ByteArray) (W : World) : Calls Tryz.prog 38 #[.string (itoaB (chairOf st.chairs x))] W fun e w' => e = .returned (.tuple #[.int .i64 (chairOf st.chairs x), .nilIface]) ∧ Below W.heap.size W w' := by
  have hr := chair_r8 hg x
  obtain ⟨d, hd, _, _, ha⟩ := digit_c hr.1 hr.2
  have hi := itoaB_size (chairOf st.chairs x) (by omega) (by omega)
  exact atoi_ok _ _ W (by omega) (by rw [itoaB_data, hd]; exact ha)
theorem isEmpty_no {l : List UInt8} (h : ¬ l = []) : l.isEmpty = false := by
  cases l with
  | nil => exact absurd rfl h
  | cons a l => rfl
theorem loop_len (x : ByteArray) : ∀ (n i : Nat) (r : List UInt8), x.size - i = n → (ByteArray.toList.loop x i r).length = r.length + (x.size - i)
  | 0, i, r, h => by
    rw [ByteArray.toList.loop, if_neg (by omega), List.length_reverse]
    omega
  | n + 1, i, r, h => by
    rw [ByteArray.toList.loop, if_pos (by omega), loop_len x n (i + 1) _ (by omega), List.length_cons]
    omega
theorem name_toList {x : ByteArray} (h : isNameB x.data.toList = true) : ¬ x.toList = [] := fun e => by
  have h1 := loop_len x x.size 0 [] (by omega)
  have h2 : x.toList.length = x.size := by show (ByteArray.toList.loop x 0 []).length = x.size; rw [h1]; simp
  rw [e] at h2
  have h3 : x.data.toList.length = 0 := by rw [Array.length_toList]; exact h2.symm
  have h4 := List.eq_nil_of_length_eq_zero h3
  rw [h4] at h
  exact absurd h (by decide)
theorem contains_box {w : World} {g : Nat} {l : List ByteArray} (h : w.heap[g]? = some (boxS l)) (hl : l.length = 9) (x : ByteArray) : Calls Tryz.prog 39 #[.slice (some ⟨g, 0, none⟩) 9 9, .string x] w fun e w' => e = .returned (.bool (Lib.containsS (l.take 9) x)) ∧ w' = w :=
  Tryz.slices_Contains_string g 0 9 9 l x w (by omega) (by decide) (fun j hj => by rw [Nat.zero_add]; exact boxS_cell h hl (by omega))
theorem not_contains {l : List ByteArray} {x : ByteArray} (h : x ∉ l) : Lib.containsS (l.take 9) x = false := by
  cases hc : Lib.containsS (l.take 9) x with
  | false => rfl
  | true => exact absurd (List.mem_of_mem_take ((Lib.containsS_iff _ _).1 hc)) h
section
set_option maxRecDepth 100000
set_option maxHeartbeats 2000000
theorem libask {W : World} {lg sg rg : Nat} {vj : Value} {lines : List ByteArray} {st : St} (h : LibS B W lg sg rg vj lines st) (hT : Tabs W) :
    Calls Tryz.prog 34 #[ptr lg, .string wChairs] W fun e w' => e = .returned (.tuple #[.string (seatedAll st.chairs), .int .i64 0]) ∧ Below W.heap.size W w' := by
  have HU := Aside0.mk (unmade_calls h.cells)
  have HA := Aside0.mk (ask_chairs2 h.sat h.good hT)
  have q0 : W.cell? ⟨lg, 0, none⟩ = some (ptr sg) := (blk_cell h.cells 0).trans rfl
  clear h hT
  go_enter Tryz.func34, Tryz.ntmps34
  go_wp2_with (first | (go_at_call 35; refine HU.out.mono ?_; rintro e w' ⟨rfl, rfl⟩) | (go_at_call 59; refine HA.out.mono ?_; rintro e w5 ⟨rfl, hb⟩; have HB5 := Aside0.mk hb; clear hb))
  go_ret2
  exact ⟨rfl, HB5.out⟩
theorem split_row (s : ByteArray) (W : World) (hT : Tabs W) (hs : s.size < 4294967281) {ws : List ByteArray} (hw : wordsB s = ws) : Calls Tryz.prog 36 #[.string s, .string ⟨#[32]⟩] W fun e w' =>
    ∃ g, e = .returned (.slice (some ⟨g, 0, none⟩) ws.length ws.length) ∧ w'.heap[g]? = some (.cells (ws.map Value.string).toArray 9 (0, 0)) ∧ W.heap.size ≤ g ∧ Below W.heap.size W w' := by
  refine (split_calls s W hT hs).mono ?_
  rintro e w' ⟨rfl, rfl⟩
  rw [hw]
  exact ⟨_, rfl, World.alloc_heap_new _ _, Nat.le_refl _, below_alloc (Below.refl _ _) _⟩
theorem chairs_calls {W : World} {lg sg rg : Nat} {vj : Value} {lines : List ByteArray} {st : St} (h : LibS B W lg sg rg vj lines st) (hT : Tabs W) :
    Calls Tryz.prog 14 #[ptr lg] W fun e w' => e = .returned (.tuple #[.agg #[.string ((arrA st).getD 0 emp), .string ((arrA st).getD 1 emp), .string ((arrA st).getD 2 emp), .string ((arrA st).getD 3 emp), .string ((arrA st).getD 4 emp), .string ((arrA st).getD 5 emp), .string ((arrA st).getD 6 emp), .string ((arrA st).getD 7 emp), .string ((arrA st).getD 8 emp)], .bool true]) ∧ Below W.heap.size W w' := by
  have HA := Aside0.mk (fun w (hb : Below W.heap.size W w) => libask (h.below hb) (hT.below hb hT.low))
  have HT := Aside0.mk hT
  have HG := Aside0.mk h.good
  have HWd := Aside0.mk (seated_words h.good)
  have HSz := Aside0.mk (show (seatedAll st.chairs).size < 4294967281 by have := seated_size h.good; omega)
  obtain ⟨nm, hnm⟩ : ∃ nm, nm = seatsOf st.chairs := ⟨_, rfl⟩
  obtain ⟨T, hT2⟩ : ∃ T, T = seatedAll st.chairs := ⟨_, rfl⟩
  rw [← hT2] at HA HWd HSz
  rw [← hnm] at HWd
  obtain ⟨n, hn⟩ : ∃ n, n = nm.length := ⟨_, rfl⟩
  have HN := Aside0.mk (And.intro hn hnm)
  have h8 : n ≤ 8 := by rw [hn, hnm]; have := h.good.c8; simpa [seatsOf, keysOf] using this
  obtain ⟨o, ho⟩ : ∃ o : Obj, o = (.cells #[.string ByteArray.empty, .string ByteArray.empty, .string ByteArray.empty, .string ByteArray.empty, .string ByteArray.empty, .string ByteArray.empty, .string ByteArray.empty, .string ByteArray.empty, .string ByteArray.empty] 29) := ⟨_, rfl⟩
  have HB0 := Aside0.mk (below_alloc (below_alloc (Below.refl W.heap.size W) o) o)
  have HX0 := Aside0.mk (show ((W.alloc o).alloc o).heap[W.heap.size]? = some (boxS (List.replicate 9 emp)) by
    rw [Below.heap_alloc _ _ _ (by simp)]
    exact (World.alloc_heap_new W o).trans (by rw [ho]; rfl))
  have HX1 := Aside0.mk (show ((W.alloc o).alloc o).heap[W.heap.size + 1]? = some (boxS (List.replicate 9 emp)) by
    have h1 := World.alloc_heap_new (W.alloc o) o
    rw [World.size_alloc] at h1
    exact h1.trans (by rw [ho]; rfl))
  rw [ho] at HB0 HX0 HX1
  clear ho
  clear h hT hT2 hn hnm
  by_cases hn0 : n = 0
  · go_enter Tryz.func14, Tryz.ntmps14
    go_wp2_with (first
      | (go_at_call 34; refine (HA.out _ HB0.out).mono ?_; rintro e w1 ⟨rfl, hb⟩; have HB1 := Aside0.mk (HB0.out.trans (hb.mono HB0.out.size)); have HX10 := Aside0.mk (boxS_below HX0.out hb); have HX11 := Aside0.mk (boxS_below HX1.out hb); clear hb)
      | (go_at_call 36; refine (split_row T w1 (HT.out.below HB1.out HT.out.low) HSz.out HWd.out).mono ?_; rintro e w2 ⟨g, rfl, hrw, hge, hb⟩; have HGne := Aside0.mk (show g ≠ W.heap.size + 1 from fun e => by have h1 := blk_lt HX11.out; omega); have HRw := Aside0.mk hrw; have HB2 := Aside0.mk (HB1.out.trans (hb.mono HB1.out.size)); have HX20 := Aside0.mk (boxS_below HX10.out hb); have HX21 := Aside0.mk (boxS_below HX11.out hb); have q0 : w2.cell? ⟨g, 0, none⟩ = some (.string wChairs) := (blk_cell hrw 0).trans rfl; rw [show (wChairs :: nm.map (segB st.chairs)).length = n + 1 by rw [HN.out.1]; simp]; clear hrw hge hb))
    refine wp_loop_rounds 1 ?_
    rw [rounds_succ]
    have hl0 : nm = [] := List.eq_nil_of_length_eq_zero (by rw [← HN.out.1]; exact hn0)
    have e0 := boxS_cell HX21.out rfl (i := 0) (by decide)
    have f0 := boxS_cell HX20.out rfl (i := 0) (by decide)
    have z0 := blk_frozen HX20.out 0
    have e1 := boxS_cell HX21.out rfl (i := 1) (by decide)
    have f1 := boxS_cell HX20.out rfl (i := 1) (by decide)
    have z1 := blk_frozen HX20.out 1
    have e2 := boxS_cell HX21.out rfl (i := 2) (by decide)
    have f2 := boxS_cell HX20.out rfl (i := 2) (by decide)
    have z2 := blk_frozen HX20.out 2
    have e3 := boxS_cell HX21.out rfl (i := 3) (by decide)
    have f3 := boxS_cell HX20.out rfl (i := 3) (by decide)
    have z3 := blk_frozen HX20.out 3
    have e4 := boxS_cell HX21.out rfl (i := 4) (by decide)
    have f4 := boxS_cell HX20.out rfl (i := 4) (by decide)
    have z4 := blk_frozen HX20.out 4
    have e5 := boxS_cell HX21.out rfl (i := 5) (by decide)
    have f5 := boxS_cell HX20.out rfl (i := 5) (by decide)
    have z5 := blk_frozen HX20.out 5
    have e6 := boxS_cell HX21.out rfl (i := 6) (by decide)
    have f6 := boxS_cell HX20.out rfl (i := 6) (by decide)
    have z6 := blk_frozen HX20.out 6
    have e7 := boxS_cell HX21.out rfl (i := 7) (by decide)
    have f7 := boxS_cell HX20.out rfl (i := 7) (by decide)
    have z7 := blk_frozen HX20.out 7
    have e8 := boxS_cell HX21.out rfl (i := 8) (by decide)
    have f8 := boxS_cell HX20.out rfl (i := 8) (by decide)
    have z8 := blk_frozen HX20.out 8
    go_wp2_with (fail)
    (try simp only [Exit.inBlock, Exit.then])
    obtain ⟨w5, hw5⟩ : ∃ w5, w5 = (((((((((w2.setCell ⟨W.heap.size, 0, none⟩ (.string emp)).setCell ⟨W.heap.size, 1, none⟩ (.string emp)).setCell ⟨W.heap.size, 2, none⟩ (.string emp)).setCell ⟨W.heap.size, 3, none⟩ (.string emp)).setCell ⟨W.heap.size, 4, none⟩ (.string emp)).setCell ⟨W.heap.size, 5, none⟩ (.string emp)).setCell ⟨W.heap.size, 6, none⟩ (.string emp)).setCell ⟨W.heap.size, 7, none⟩ (.string emp)).setCell ⟨W.heap.size, 8, none⟩ (.string emp)) := ⟨_, rfl⟩
    rw [← hw5]
    obtain ⟨hbx, hbb⟩ := box_all HX20.out rfl (emp) (emp) (emp) (emp) (emp) (emp) (emp) (emp) (emp)
    rw [← hw5] at hbx hbb
    have HB5 := Aside0.mk (HB2.out.trans hbb)
    clear hw5 hbb e0 f0 z0 e1 f1 z1 e2 f2 z2 e3 f3 z3 e4 f4 z4 e5 f5 z5 e6 f6 z6 e7 f7 z7 e8 f8 z8
    have g0 : w5.cell? ⟨W.heap.size, 0, none⟩ = some (.string (emp)) := (blk_cell hbx 0).trans rfl
    have g1 : w5.cell? ⟨W.heap.size, 1, none⟩ = some (.string (emp)) := (blk_cell hbx 1).trans rfl
    have g2 : w5.cell? ⟨W.heap.size, 2, none⟩ = some (.string (emp)) := (blk_cell hbx 2).trans rfl
    have g3 : w5.cell? ⟨W.heap.size, 3, none⟩ = some (.string (emp)) := (blk_cell hbx 3).trans rfl
    have g4 : w5.cell? ⟨W.heap.size, 4, none⟩ = some (.string (emp)) := (blk_cell hbx 4).trans rfl
    have g5 : w5.cell? ⟨W.heap.size, 5, none⟩ = some (.string (emp)) := (blk_cell hbx 5).trans rfl
    have g6 : w5.cell? ⟨W.heap.size, 6, none⟩ = some (.string (emp)) := (blk_cell hbx 6).trans rfl
    have g7 : w5.cell? ⟨W.heap.size, 7, none⟩ = some (.string (emp)) := (blk_cell hbx 7).trans rfl
    have g8 : w5.cell? ⟨W.heap.size, 8, none⟩ = some (.string (emp)) := (blk_cell hbx 8).trans rfl
    refine bodyPost_ret (v := .tuple #[.agg #[.string (emp), .string (emp), .string (emp), .string (emp), .string (emp), .string (emp), .string (emp), .string (emp), .string (emp)], .bool true]) (by rw [results_cell_tmp rfl]; go_simp) rfl ⟨?_, HB5.out⟩
    have ha : arrA st = List.replicate 9 emp := by unfold arrA; rw [← HN.out.2, hl0]; rfl
    rw [ha]
    rfl
  · go_enter Tryz.func14, Tryz.ntmps14
    go_wp2_with (first
      | (go_at_call 34; refine (HA.out _ HB0.out).mono ?_; rintro e w1 ⟨rfl, hb⟩; have HB1 := Aside0.mk (HB0.out.trans (hb.mono HB0.out.size)); have HX10 := Aside0.mk (boxS_below HX0.out hb); have HX11 := Aside0.mk (boxS_below HX1.out hb); clear hb)
      | (go_at_call 36; refine (split_row T w1 (HT.out.below HB1.out HT.out.low) HSz.out HWd.out).mono ?_; rintro e w2 ⟨g, rfl, hrw, hge, hb⟩; have HGne := Aside0.mk (show g ≠ W.heap.size + 1 from fun e => by have h1 := blk_lt HX11.out; omega); have HRw := Aside0.mk hrw; have HB2 := Aside0.mk (HB1.out.trans (hb.mono HB1.out.size)); have HX20 := Aside0.mk (boxS_below HX10.out hb); have HX21 := Aside0.mk (boxS_below HX11.out hb); have q0 : w2.cell? ⟨g, 0, none⟩ = some (.string wChairs) := (blk_cell hrw 0).trans rfl; rw [show (wChairs :: nm.map (segB st.chairs)).length = n + 1 by rw [HN.out.1]; simp]; clear hrw hge hb))
    clear q0
    go_loopw [8, 35] (fun v8 v35 wr => ∃ k : Nat, k ≤ n ∧ v35 = .int .i64 k ∧ v8 = .int .i64 (lastC st.chairs (nm.take k)) ∧ Aside0 (wr.heap[W.heap.size + 1]? = some (boxS (fillA st.chairs (nm.take k)))) ∧ Aside0 (wr.heap[W.heap.size]? = some (boxS (List.replicate 9 emp))) ∧ Aside0 (wr.heap[g]? = some (.cells ((wChairs :: nm.map (segB st.chairs)).map Value.string).toArray 9 (0, 0))) ∧ Aside0 (Below W.heap.size W wr)) (fun _ v35 _ => n - (intOf v35).toNat)
    case atStart => exact ⟨0, Nat.zero_le _, rfl, rfl, HX21, HX20, HRw, HB2⟩
    case round =>
      obtain ⟨k, hk, rfl, rfl, hbx, hb0, hrw, hbl⟩ := hrel
      by_cases hkn : k < n
      · have i0 : (0 : Int) ≤ (k : Int) := by omega
        have i1 : (k : Int) < (n : Int) := by omega
        have hkl : k < nm.length := by rw [← HN.out.1]; exact hkn
        obtain ⟨x, hx⟩ : ∃ x, x = nm[k] := ⟨_, rfl⟩
        obtain ⟨c, hcc, c1, c8, clast, hnmx, hnot⟩ := seat_step' HG.out HN.out.2 hkl hx
        have hcw : wr.cell? ⟨g, 1 + k, none⟩ = some (.string (segB st.chairs x)) := (blk_cell hrw.out (1 + k)).trans (by simp [Nat.add_comm 1 k, hkl, hx])
        have HCut := Aside0.mk (cut_seg HG.out x wr (HT.out.below hbl.out HT.out.low) hnmx)
        have HAt := Aside0.mk (fun w => atoi_seg HG.out x w)
        obtain ⟨ib, hib⟩ : ∃ s, s = itoaB (chairOf st.chairs x) := ⟨_, rfl⟩
        rw [← hib, hcc] at HAt
        rw [← hib] at HCut
        obtain ⟨sg, hsg⟩ : ∃ s, s = segB st.chairs x := ⟨_, rfl⟩
        rw [← hsg] at hcw HCut
        obtain ⟨lv, hlv⟩ : ∃ v, v = lastC st.chairs (nm.take k) := ⟨_, rfl⟩
        rw [← hlv] at clast ⊢
        have j0 : (0 : Int) ≤ (c : Int) := by omega
        have j1 : (c : Int) < 9 := by omega
        have j2 : ¬ ((c : Int) ≤ lv) := by omega
        have j3 : ¬ ((8 : Int) < (c : Int)) := by omega
        have j4 : ¬ x.toList = [] := name_toList hnmx; have j5 : x.toList.isEmpty = false := isEmpty_no j4
        have HF := Aside0.mk (show fillA st.chairs (nm.take (k + 1)) = (fillA st.chairs (nm.take k)).set c x ∧ lastC st.chairs (nm.take (k + 1)) = (c : Int) by
          rw [List.take_add_one, List.getElem?_eq_getElem hkl, Option.toList_some, ← hx, fillA_snoc, lastC_snoc, hcc]
          exact ⟨rfl, rfl⟩)
        obtain ⟨fl, hfl⟩ : ∃ l, l = fillA st.chairs (nm.take k) := ⟨_, rfl⟩
        have HFl9 := Aside0.mk (show fl.length = 9 by rw [hfl]; exact fillA_length _ _)
        rw [← hfl] at hbx HF hnot
        have HNot := Aside0.mk hnot
        have HC8 := Aside0.mk (show c < 9 by omega)
        have hsx := fun w => slice9 (W.heap.size + 1) w
        clear hx hcc c1 c8 clast hnmx hib hsg hlv hfl hnot
        replace i0 := eq_true i0
        replace i1 := eq_true i1
        go_wp2_with (first
          | (go_at_call 37; refine HCut.out.mono ?_; rintro e w3 ⟨rfl, hb⟩; have HB3 := Aside0.mk hb; clear hb)
          | (go_at_call 38; refine (HAt.out _).mono ?_; rintro e w4 ⟨rfl, hb⟩; have HB4 := Aside0.mk (HB3.out.trans (hb.mono HB3.out.size)); have HX4 := Aside0.mk (boxS_below hbx.out HB4.out); have ec := boxS_cell HX4.out HFl9.out HC8.out; have zc := blk_frozen HX4.out c; clear hb)
          | (go_at_call 39; refine (contains_box HX4.out HFl9.out x).mono ?_; rintro e w' ⟨rfl, rfl⟩; rw [not_contains HNot.out]))
        refine ⟨⟨k + 1, by omega, by first | rfl | simp, by rw [HF.out.2], ⟨?_⟩, ⟨?_⟩, ⟨?_⟩, ⟨?_⟩⟩, by simp [intOf]; omega⟩
        · rw [HF.out.1]; exact boxS_set HX4.out c x
        · rw [Below.heap_setCell _ _ _ _ (by show W.heap.size ≠ W.heap.size + 1; omega)]; exact boxS_below hb0.out HB4.out
        · rw [Below.heap_setCell _ _ _ _ (by show g ≠ W.heap.size + 1; exact HGne.out)]; exact (HB4.out.block g (blk_lt hrw.out)).trans hrw.out
        · exact (hbl.out.trans (HB4.out.mono hbl.out.size)).setCell (by show W.heap.size ≤ W.heap.size + 1; omega) _
      · have i1 : ¬ (k : Int) < (n : Int) := by omega
        obtain rfl : k = n := by omega
        have hA : fillA st.chairs (nm.take k) = arrA st := by
          unfold arrA
          rw [← HN.out.2, List.take_of_length_le (by rw [← HN.out.1]; exact Nat.le_refl _)]
        rw [hA] at hbx
        have hl9 : (arrA st).length = 9 := fillA_length _ _
        have e0 := boxS_cell hbx.out hl9 (i := 0) (by decide)
        have f0 := boxS_cell hb0.out rfl (i := 0) (by decide)
        have z0 := blk_frozen hb0.out 0
        obtain ⟨s0, hs0⟩ : ∃ s, (arrA st).getD 0 emp = s := ⟨_, rfl⟩
        rw [hs0] at e0
        have e1 := boxS_cell hbx.out hl9 (i := 1) (by decide)
        have f1 := boxS_cell hb0.out rfl (i := 1) (by decide)
        have z1 := blk_frozen hb0.out 1
        obtain ⟨s1, hs1⟩ : ∃ s, (arrA st).getD 1 emp = s := ⟨_, rfl⟩
        rw [hs1] at e1
        have e2 := boxS_cell hbx.out hl9 (i := 2) (by decide)
        have f2 := boxS_cell hb0.out rfl (i := 2) (by decide)
        have z2 := blk_frozen hb0.out 2
        obtain ⟨s2, hs2⟩ : ∃ s, (arrA st).getD 2 emp = s := ⟨_, rfl⟩
        rw [hs2] at e2
        have e3 := boxS_cell hbx.out hl9 (i := 3) (by decide)
        have f3 := boxS_cell hb0.out rfl (i := 3) (by decide)
        have z3 := blk_frozen hb0.out 3
        obtain ⟨s3, hs3⟩ : ∃ s, (arrA st).getD 3 emp = s := ⟨_, rfl⟩
        rw [hs3] at e3
        have e4 := boxS_cell hbx.out hl9 (i := 4) (by decide)
        have f4 := boxS_cell hb0.out rfl (i := 4) (by decide)
        have z4 := blk_frozen hb0.out 4
        obtain ⟨s4, hs4⟩ : ∃ s, (arrA st).getD 4 emp = s := ⟨_, rfl⟩
        rw [hs4] at e4
        have e5 := boxS_cell hbx.out hl9 (i := 5) (by decide)
        have f5 := boxS_cell hb0.out rfl (i := 5) (by decide)
        have z5 := blk_frozen hb0.out 5
        obtain ⟨s5, hs5⟩ : ∃ s, (arrA st).getD 5 emp = s := ⟨_, rfl⟩
        rw [hs5] at e5
        have e6 := boxS_cell hbx.out hl9 (i := 6) (by decide)
        have f6 := boxS_cell hb0.out rfl (i := 6) (by decide)
        have z6 := blk_frozen hb0.out 6
        obtain ⟨s6, hs6⟩ : ∃ s, (arrA st).getD 6 emp = s := ⟨_, rfl⟩
        rw [hs6] at e6
        have e7 := boxS_cell hbx.out hl9 (i := 7) (by decide)
        have f7 := boxS_cell hb0.out rfl (i := 7) (by decide)
        have z7 := blk_frozen hb0.out 7
        obtain ⟨s7, hs7⟩ : ∃ s, (arrA st).getD 7 emp = s := ⟨_, rfl⟩
        rw [hs7] at e7
        have e8 := boxS_cell hbx.out hl9 (i := 8) (by decide)
        have f8 := boxS_cell hb0.out rfl (i := 8) (by decide)
        have z8 := blk_frozen hb0.out 8
        obtain ⟨s8, hs8⟩ : ∃ s, (arrA st).getD 8 emp = s := ⟨_, rfl⟩
        rw [hs8] at e8
        have HSS := Aside0.mk (And.intro hs0 (And.intro hs1 (And.intro hs2 (And.intro hs3 (And.intro hs4 (And.intro hs5 (And.intro hs6 (And.intro hs7 hs8))))))))
        clear hA hl9 hs0 hs1 hs2 hs3 hs4 hs5 hs6 hs7 hs8
        go_wp2_with (fail)
        (try simp only [Exit.inBlock, Exit.then])
        obtain ⟨w5, hw5⟩ : ∃ w5, w5 = (((((((((wr.setCell ⟨W.heap.size, 0, none⟩ (.string s0)).setCell ⟨W.heap.size, 1, none⟩ (.string s1)).setCell ⟨W.heap.size, 2, none⟩ (.string s2)).setCell ⟨W.heap.size, 3, none⟩ (.string s3)).setCell ⟨W.heap.size, 4, none⟩ (.string s4)).setCell ⟨W.heap.size, 5, none⟩ (.string s5)).setCell ⟨W.heap.size, 6, none⟩ (.string s6)).setCell ⟨W.heap.size, 7, none⟩ (.string s7)).setCell ⟨W.heap.size, 8, none⟩ (.string s8)) := ⟨_, rfl⟩
        rw [← hw5]
        obtain ⟨hbx5, hbb⟩ := box_all hb0.out rfl (s0) (s1) (s2) (s3) (s4) (s5) (s6) (s7) (s8)
        rw [← hw5] at hbx5 hbb
        have HB5 := Aside0.mk (hbl.out.trans hbb)
        clear hw5 hbb e0 f0 z0 e1 f1 z1 e2 f2 z2 e3 f3 z3 e4 f4 z4 e5 f5 z5 e6 f6 z6 e7 f7 z7 e8 f8 z8
        have g0 : w5.cell? ⟨W.heap.size, 0, none⟩ = some (.string (s0)) := (blk_cell hbx5 0).trans rfl
        have g1 : w5.cell? ⟨W.heap.size, 1, none⟩ = some (.string (s1)) := (blk_cell hbx5 1).trans rfl
        have g2 : w5.cell? ⟨W.heap.size, 2, none⟩ = some (.string (s2)) := (blk_cell hbx5 2).trans rfl
        have g3 : w5.cell? ⟨W.heap.size, 3, none⟩ = some (.string (s3)) := (blk_cell hbx5 3).trans rfl
        have g4 : w5.cell? ⟨W.heap.size, 4, none⟩ = some (.string (s4)) := (blk_cell hbx5 4).trans rfl
        have g5 : w5.cell? ⟨W.heap.size, 5, none⟩ = some (.string (s5)) := (blk_cell hbx5 5).trans rfl
        have g6 : w5.cell? ⟨W.heap.size, 6, none⟩ = some (.string (s6)) := (blk_cell hbx5 6).trans rfl
        have g7 : w5.cell? ⟨W.heap.size, 7, none⟩ = some (.string (s7)) := (blk_cell hbx5 7).trans rfl
        have g8 : w5.cell? ⟨W.heap.size, 8, none⟩ = some (.string (s8)) := (blk_cell hbx5 8).trans rfl
        refine bodyPost_ret (v := .tuple #[.agg #[.string (s0), .string (s1), .string (s2), .string (s3), .string (s4), .string (s5), .string (s6), .string (s7), .string (s8)], .bool true]) (by rw [results_cell_tmp rfl]; go_simp) rfl ⟨?_, HB5.out⟩
        obtain ⟨h0, h1, h2, h3, h4, h5, h6, h7, h8⟩ := HSS.out
        simp only [List.getD_eq_getElem?_getD] at h0 h1 h2 h3 h4 h5 h6 h7 h8 ⊢
        rw [h0, h1, h2, h3, h4, h5, h6, h7, h8]
end
end Go.Proofs.YtoeeipkiadbnpaaGreatDoor.Lib10
end

section
namespace Go.Proofs.YtoeeipkiadbnpaaGreatDoor.Lib10
open Go.RowKit Go.Proofs.YtoeeipkiadbnpaaGreatDoorW.PrintWords Go.Proofs.YtoeeipkiadbnpaaGreatDoorW.PrintLast Go.Proofs.YtoeeipkiadbnpaaGreatDoorW.PrintMore
set_option linter.unusedVariables false
def moveT (name : ByteArray) (c : Int) : ByteArray := ((⟨#[109, 111, 118, 101, 32]⟩ ++ name) ++ ⟨#[32]⟩) ++ itoaB c
theorem moveT_data (name : ByteArray) (c : Int) : (moveT name c).data.toList = [109, 111, 118, 101] ++ 32 :: (name.data.toList ++ 32 :: Lib.itoa c) := by
  unfold moveT itoaB
  simp
theorem move_head (name : ByteArray) (c : Int) : headW (moveT name c) = wMove := by
  unfold headW
  rw [moveT_data, cut_at 32 _ _ (by decide)]
theorem move_words (name : ByteArray) {c : Int} (h1 : 1 ≤ c) (h8 : c ≤ 8) : wordsB (moveT name c) = wMove :: (wordsB name ++ [itoaB c]) := by
  apply map_data_inj
  obtain ⟨d, hd, d0, _, _⟩ := digit_c (c := c) (by omega) h8
  rw [wordsB_data, moveT_data, splitL_app, splitL_app, hd, splitL_none 32 [d] (fun h => by
    rw [List.mem_singleton] at h; rw [← h] at d0; exact absurd d0 (by decide))]
  rw [List.map_cons, List.map_append, wordsB_data, List.map_singleton, itoaB_data, hd]
  rfl
theorem words_one {name : ByteArray} (h : (wordsB name).length = 1) : wordsB name = [name] := by
  apply map_data_inj
  have h2 := congrArg List.length (wordsB_data name)
  rw [List.length_map, splitL_length, h] at h2
  rw [wordsB_data, splitL_none 32 _ (fun hm => by have := List.count_pos_iff.2 hm; omega)]
  rfl
theorem move_read {name : ByteArray} {c : Int} (h1 : 1 ≤ c) (h8 : c ≤ 8) {r : List ByteArray × List Int} (h : readV [110, 100] false (moveT name c) = some r) : nameAt r 0 = name ∧ numAt r 0 = c := by
  obtain ⟨F, hF, hl, hb, hs⟩ := readV_spec h
  rw [formV_false] at hF
  subst hF
  rw [move_words name h1 h8, List.tail_cons] at hl hs
  have h2 : (wordsB name).length = 1 := by simp at hl; omega
  rw [words_one h2] at hs
  obtain ⟨d, hd, _, _, ha⟩ := digit_c (c := c) (by omega) h8
  have hs' : sortV [110, 100] [name, itoaB c] = some r := hs
  unfold sortV at hs'
  rw [if_pos rfl] at hs'
  by_cases hn : isNameB name.data.toList = true
  · rw [if_pos hn] at hs'
    obtain ⟨r', hr', rfl⟩ := Option.map_eq_some_iff.1 hs'
    unfold sortV at hr'
    rw [if_neg (by decide)] at hr'
    cases hv : numberV (itoaB c).data.toList with
    | none => rw [hv] at hr'; cases hr'
    | some v =>
      rw [hv] at hr'
      obtain ⟨r2, hr2, rfl⟩ := Option.map_eq_some_iff.1 hr'
      unfold sortV at hr2
      have e := Option.some.inj hr2
      subst e
      refine ⟨rfl, ?_⟩
      show v = c
      rw [itoaB_data, hd] at hv
      unfold numberV at hv
      rw [ha] at hv
      simp only at hv
      split at hv
      · exact (Option.some.inj hv).symm
      · cases hv
  · rw [if_neg hn] at hs'
    cases hs'
theorem list_ext9 {a b : List ByteArray} (ha : a.length = 9) (hb : b.length = 9) (h : ∀ i : Nat, i < 9 → a.getD i emp = b.getD i emp) : a = b := by
  apply List.ext_getElem (by omega)
  intro i h1 h2
  have := h i (by omega)
  rw [List.getD_eq_getElem?_getD, List.getD_eq_getElem?_getD, List.getElem?_eq_getElem h1, List.getElem?_eq_getElem h2] at this
  exact this
/-- What a move answers. -/
def MoveEnd (st : St) (name : ByteArray) (c : Nat) (er : Int) (st' : St) : Prop :=
  (er = 3 ∧ st' = st) ∨ (er = 4 ∧ st' = st ∧ get st.chairs name.data.toList = none) ∨ (er = 5 ∧ st' = st ∧ get st.chairs name.data.toList = some (c : Int)) ∨
  (er = 0 ∧ ∃ old : Nat, get st.chairs name.data.toList = some (old : Int) ∧ old ≠ c ∧ 1 ≤ old ∧ old ≤ 8 ∧ arrA st' = ((arrA st).set old ((arrA st).getD c emp)).set c name)
theorem arr_len (st : St) : (arrA st).length = 9 := fillA_length _ _
theorem swap_arr {st st' : St} (hg : Good st) (hg' : Good st') {name : ByteArray} {old c : Nat} (ho : get st.chairs name.data.toList = some (old : Int)) (hne : old ≠ c) (hc8 : c ≤ 8) (ho8 : old ≤ 8)
    (hget : ∀ n : ByteArray, get st'.chairs n.data.toList = if n = name then some (c : Int) else if get st.chairs n.data.toList = some (c : Int) then some (old : Int) else get st.chairs n.data.toList) :
    arrA st' = ((arrA st).set old ((arrA st).getD c emp)).set c name := by
  have l9 := arr_len st
  refine list_ext9 (arr_len st') (by simp [l9]) (fun i hi => ?_)
  rw [getD_set _ _ _ _ _ (by rw [List.length_set]; omega)]
  by_cases hic : i = c
  · rw [if_pos hic]
    exact arr_get hg' (by rw [hget, if_pos rfl, hic])
  · rw [if_neg hic, getD_set _ _ _ _ _ (by omega)]
    have key : ∀ n : ByteArray, get st'.chairs n.data.toList = some (i : Int) → n ≠ name := fun n h e => by
      rw [hget, if_pos e] at h
      have := Option.some.inj h
      omega
    by_cases hio : i = old
    · rw [if_pos hio]
      by_cases hx : (arrA st).getD c emp = emp
      · rw [hx]
        refine arr_none hg' hi (fun n h => ?_)
        have h2 := key n h
        rw [hget, if_neg h2] at h
        split at h
        · next h3 => 
          have := arr_get hg h3
          rw [hx] at this
          have h4 := hg.k2 _ (List.mem_map.2 ⟨_, get_some_mem h3, rfl⟩)
          exact name_ne h4 this.symm
        · rw [hio] at h
          exact h2 (data_inj (hg.apart _ _ _ h ho))
      · have h3 := arr_some hg (i := c) (by omega) hx rfl
        refine arr_get hg' ?_
        have hnn : (arrA st).getD c emp ≠ name := fun e => by
          rw [e, ho] at h3
          have := Option.some.inj h3
          omega
        rw [hget, if_neg hnn, if_pos h3, hio]
    · rw [if_neg hio]
      by_cases hx : (arrA st).getD i emp = emp
      · rw [hx]
        refine arr_none hg' hi (fun n h => ?_)
        have h2 := key n h
        rw [hget, if_neg h2] at h
        split at h
        · have := Option.some.inj h; omega
        · have h5 := arr_get hg h
          rw [hx] at h5
          exact name_ne (hg.k2 _ (List.mem_map.2 ⟨_, get_some_mem h, rfl⟩)) h5.symm
      · have h3 := arr_some hg hi hx rfl
        refine arr_get hg' ?_
        have hnn : (arrA st).getD i emp ≠ name := fun e => by
          rw [e, ho] at h3
          have := Option.some.inj h3
          omega
        rw [hget, if_neg hnn, if_neg (fun e => by rw [h3] at e; have := Option.some.inj e; omega), h3]
theorem move_end {st : St} (hg : Good st) (name : ByteArray) {c : Nat} (h1 : 1 ≤ c) (h8 : c ≤ 8) : MoveEnd st name c (doS st (moveT name (c : Int))).1 (doS st (moveT name (c : Int))).2 := by
  have hgd := good_do hg (moveT name (c : Int))
  obtain ⟨R, hR⟩ : ∃ R, R = doS st (moveT name (c : Int)) := ⟨_, rfl⟩
  rw [← hR] at hgd ⊢
  unfold doS at hR
  rw [move_head, if_neg (by decide), if_neg (by decide), if_neg (by decide), if_neg (by decide), if_pos rfl] at hR
  cases hr : readV [110, 100] false (moveT name (c : Int)) with
  | none =>
    rw [hr] at hR
    subst hR
    exact .inl ⟨rfl, rfl⟩
  | some r =>
    obtain ⟨e1, e2⟩ := move_read (by omega) (by omega) hr
    rw [hr] at hR
    simp only at hR
    rw [e1, e2] at hR
    unfold moveS at hR
    cases ho : get st.chairs name.data.toList with
    | none =>
      rw [ho] at hR
      subst hR
      exact .inr (.inl ⟨rfl, rfl, ho⟩)
    | some old =>
      rw [ho] at hR
      simp only at hR
      have hs := hg.seat _ _ ho
      rw [if_neg (by simp; omega)] at hR
      by_cases hoc : old = (c : Int)
      · rw [if_pos hoc] at hR
        subst hR
        exact .inr (.inr (.inl ⟨rfl, rfl, by rw [ho, hoc]⟩))
      · rw [if_neg hoc] at hR
        obtain ⟨o, rfl⟩ : ∃ o : Nat, old = (o : Int) := ⟨old.toNat, by omega⟩
        have hz : R.1 = 0 := by rw [hR]; split <;> rfl
        refine .inr (.inr (.inr ⟨hz, o, ho, by omega, by omega, by omega, ?_⟩))
        refine swap_arr hg hgd ho (by omega) h8 (by omega) (fun n => ?_)
        cases hsi : sitterV st.chairs (c : Int) with
        | none =>
          rw [hsi] at hR
          simp only at hR
          rw [hR]
          show get (put st.chairs name.data.toList (c : Int)) n.data.toList = _
          rw [get_put]
          by_cases hn : n = name
          · rw [if_pos (show n.data.toList = name.data.toList by rw [hn]), if_pos hn]
          · rw [if_neg (show ¬ n.data.toList = name.data.toList from fun h => hn (data_inj h)), if_neg hn, if_neg (fun h => by rw [sitterV_some hg.nd2 hg.apart h] at hsi; cases hsi)]
        | some other =>
          rw [hsi] at hR
          simp only at hR
          have hot : get st.chairs other = some (c : Int) := by
            unfold sitterV at hsi
            obtain ⟨p, hp, rfl⟩ := Option.map_eq_some_iff.1 hsi
            have h1 := List.find?_some hp
            have h3 : p.2 = (c : Int) := by simpa using h1
            exact get_of_mem hg.nd2 (by rw [← h3]; exact List.mem_of_find?_eq_some hp)
          rw [hR]
          show get (put (put st.chairs other (o : Int)) name.data.toList (c : Int)) n.data.toList = _
          rw [get_put, get_put]
          by_cases hn : n = name
          · rw [if_pos (show n.data.toList = name.data.toList by rw [hn]), if_pos hn]
          · rw [if_neg (show ¬ n.data.toList = name.data.toList from fun h => hn (data_inj h)), if_neg hn]
            by_cases hno : n.data.toList = other
            · rw [if_pos hno, if_pos (by rw [hno]; exact hot)]
            · rw [if_neg hno, if_neg (fun h => hno (hg.apart _ _ _ h hot))]
def fromV (l : List ByteArray) (name : ByteArray) : Nat → Int
  | 0 => -1
  | k + 1 => if l.getD k emp ≠ emp ∧ l.getD k emp = name then (k : Int) else fromV l name k
theorem fromV_none {l : List ByteArray} {name : ByteArray} : ∀ k : Nat, (∀ i, i < k → ¬ (l.getD i emp ≠ emp ∧ l.getD i emp = name)) → fromV l name k = -1
  | 0, _ => rfl
  | k + 1, h => by rw [fromV, if_neg (h k (by omega)), fromV_none k (fun i hi => h i (by omega))]
theorem fromV_some {l : List ByteArray} {name : ByteArray} {j : Nat} (hj : l.getD j emp ≠ emp ∧ l.getD j emp = name) : ∀ k : Nat, j < k → (∀ i, i < k → i ≠ j → ¬ (l.getD i emp ≠ emp ∧ l.getD i emp = name)) → fromV l name k = (j : Int)
  | 0, h, _ => by omega
  | k + 1, h, hn => by
    rw [fromV]
    by_cases e : k = j
    · rw [e, if_pos hj]
    · rw [if_neg (hn k (by omega) e), fromV_some hj k (by omega) (fun i hi => hn i (by omega))]
theorem from_no {st : St} (hg : Good st) {name : ByteArray} (h : get st.chairs name.data.toList = none) : fromV (arrA st) name 9 = -1 := fromV_none 9 (fun i hi ⟨h1, h2⟩ => by
  have := arr_some hg hi h1 rfl
  rw [h2, h] at this
  cases this)
theorem from_at {st : St} (hg : Good st) {name : ByteArray} {j : Nat} (h : get st.chairs name.data.toList = some (j : Int)) : fromV (arrA st) name 9 = (j : Int) := by
  have hj := hg.seat _ _ h
  have hn := hg.k2 _ (List.mem_map.2 ⟨_, get_some_mem h, rfl⟩)
  have ha := arr_get hg h
  refine fromV_some ⟨by rw [ha]; exact name_ne hn, ha⟩ 9 (by omega) (fun i hi hij ⟨h1, h2⟩ => ?_)
  have := arr_some hg hi h1 rfl
  rw [h2, h] at this
  have := Option.some.inj this
  omega
theorem move_fits {lines : List ByteArray} {st : St} {T : ByteArray} (hs : ∀ x ∈ lines, x.size ≤ 60) (hl : lines.length ≤ 59) (h0 : (doS st T).1 = 0) : ¬ (20000 : Int) < ((booksV lines).length : Int) + ((writtenV T).length : Int) := by
  have h1 := booksV_length lines hs
  have h2 := line_size (doS_line h0)
  have h3 := writtenV_length T
  omega
theorem toList_of_ne {x : ByteArray} (h : ¬ x = emp) : ¬ x.toList = [] := fun e => by
  have h1 := loop_len x x.size 0 [] (by omega)
  have h2 : x.toList.length = x.size := by show (ByteArray.toList.loop x 0 []).length = x.size; rw [h1]; simp
  rw [e] at h2
  have h3 : x.data.toList.length = 0 := by rw [Array.length_toList]; exact h2.symm
  have h4 := List.eq_nil_of_length_eq_zero h3
  exact h (data_inj h4)
end Go.Proofs.YtoeeipkiadbnpaaGreatDoor.Lib10
end

section
namespace Go.Proofs.YtoeeipkiadbnpaaGreatDoor.Lib10
open Go.RowKit Go.Proofs.YtoeeipkiadbnpaaGreatDoorW.PrintWords Go.Proofs.YtoeeipkiadbnpaaGreatDoorW.PrintLast Go.Proofs.YtoeeipkiadbnpaaGreatDoorW.PrintMore
set_option linter.unusedVariables false
variable {B : Nat}
theorem Reach.good {lines : List ByteArray} {st : St} (h : Reach lines st) : Good st := by
  induction h with
  | nil => exact Good.begin
  | snoc _ _ ih => exact good_do ih _
theorem Reach.short {lines : List ByteArray} {st : St} (h : Reach lines st) : ∀ x ∈ lines, x.size ≤ 60 := by
  induction h with
  | nil => intro x hx; cases hx
  | snoc _ h0 ih =>
    intro x hx
    rcases List.mem_append.1 hx with hx | hx
    · exact ih x hx
    · rw [List.mem_singleton] at hx
      subst hx
      exact line_size (doS_line h0)
theorem libmove {lines : List ByteArray} {st : St} (hr : Reach lines st) (hl : lines.length ≤ 59) (name : ByteArray) {c : Nat} (h1 : 1 ≤ c) (h8 : c ≤ 8) :
    MoveEnd st name c (libDoV (mkReel 20000 lines) lines st (moveT name (c : Int))).err (libDoV (mkReel 20000 lines) lines st (moveT name (c : Int))).st := by
  have hm := move_end hr.good name h1 h8
  rw [libDo_run]
  by_cases h0 : (doS st (moveT name (c : Int))).1 ≠ 0
  · rw [if_pos h0]
    rcases hm with ⟨e, _⟩ | ⟨e, _, h⟩ | ⟨e, _, h⟩ | ⟨e, _⟩
    · exact .inl ⟨e, rfl⟩
    · exact .inr (.inl ⟨e, rfl, h⟩)
    · exact .inr (.inr (.inl ⟨e, rfl, h⟩))
    · exact absurd e h0
  · have h00 : (doS st (moveT name (c : Int))).1 = 0 := by simpa using h0
    have hfit := move_fits hr.short hl h00
    rw [h00] at hm
    obtain ⟨D, hD⟩ : ∃ D, D = doS st (moveT name (c : Int)) := ⟨_, rfl⟩
    obtain ⟨M, hM⟩ : ∃ M, M = moveT name (c : Int) := ⟨_, rfl⟩
    rw [← hD] at hm h0 ⊢
    rw [← hM] at hfit ⊢
    rw [if_neg h0, if_neg hfit]
    exact hm
theorem ran_do_box {w : World} {lg rg : Nat} {lines : List ByteArray} {st : St} (h : Ran B w lg rg lines st) (hT : Tabs w) {line : ByteArray} (hs : line.size < 4294967281) : Calls Tryz.prog 15 #[ptr lg, .string line] w fun e w' =>
    e = .returned (.tuple #[.string (libDoV (mkReel 20000 lines) lines st line).reply, .int .i64 (libDoV (mkReel 20000 lines) lines st line).err]) ∧ Ran B w' lg rg (libDoV (mkReel 20000 lines) lines st line).lines (libDoV (mkReel 20000 lines) lines st line).st ∧ (∀ (g : Nat) (l : List ByteArray), w.heap[g]? = some (boxS l) → w'.heap[g]? = some (boxS l)) ∧ Below B w w' := by
  obtain ⟨sg, vj, A, m, c, h1, h2⟩ := h.at_
  obtain ⟨A4, c4, rfl⟩ := Kd.R_slice h1.jr
  refine (libDo_calls h1 h2 hT rfl (h2.len.1.symm) hs).mono fun e w' hw => ?_
  obtain ⟨rfl, ⟨sg', vj', A', m', c', l1, l2, _⟩, hk, hb⟩ := hw
  obtain ⟨e1, e2⟩ := libDo_reach (size := 20000) h.reach line
  rw [e1] at l2
  refine ⟨rfl, ⟨e2, sg', vj', A', m', c', l1, l2⟩, fun g l hg => (hk.2 g (blk_lt hg) (fun hf => ?_)).trans hg, hb⟩
  rcases hf with (rfl | hf) | hf
  · exact type_ne h1.cells hg (show (77 : Nat) ≠ 29 by decide) rfl
  · obtain ⟨cs, hc⟩ := own_type h1.jr g hf
    exact type_ne hc hg (show (9 : Nat) ≠ 29 by decide) rfl
  · obtain ⟨cs, t, hc, rfl | rfl⟩ := h2.blk g hf
    · exact type_ne hc hg (show (5 : Nat) ≠ 29 by decide) rfl
    · exact type_ne hc hg (show (70 : Nat) ≠ 29 by decide) rfl
theorem ran_chairs {w : World} {lg rg : Nat} {lines : List ByteArray} {st : St} (h : Ran B w lg rg lines st) (hT : Tabs w) {s0 s1 s2 s3 s4 s5 s6 s7 s8 : ByteArray} (hs : arrA st = [s0, s1, s2, s3, s4, s5, s6, s7, s8]) :
    Calls Tryz.prog 14 #[ptr lg] w fun e w' => e = .returned (.tuple #[.agg #[.string s0, .string s1, .string s2, .string s3, .string s4, .string s5, .string s6, .string s7, .string s8], .bool true]) ∧ Below w.heap.size w w' := by
  obtain ⟨sg, vj, A, m, c, h1, h2⟩ := h.at_
  have h3 := chairs_calls h1 hT
  rw [hs] at h3
  exact h3
theorem arr_nine (st : St) : ∃ s0 s1 s2 s3 s4 s5 s6 s7 s8 : ByteArray, arrA st = [s0, s1, s2, s3, s4, s5, s6, s7, s8] := by
  have h := arr_len st
  match arrA st, h with
  | [s0, s1, s2, s3, s4, s5, s6, s7, s8], _ => exact ⟨s0, s1, s2, s3, s4, s5, s6, s7, s8, rfl⟩
theorem index9 (s0 s1 s2 s3 s4 s5 s6 s7 s8 : ByteArray) (i : Nat) (hi : i < 9) (w : World) : (Instr.index 29 (.agg #[.string s0, .string s1, .string s2, .string s3, .string s4, .string s5, .string s6, .string s7, .string s8]) (.int .i64 (i : Int))).run Tryz.prog w = .ok (.string ([s0, s1, s2, s3, s4, s5, s6, s7, s8].getD i emp)) w := by
  rcases (show i = 0 ∨ i = 1 ∨ i = 2 ∨ i = 3 ∨ i = 4 ∨ i = 5 ∨ i = 6 ∨ i = 7 ∨ i = 8 by omega) with rfl | rfl | rfl | rfl | rfl | rfl | rfl | rfl | rfl <;> kernel_rfl
theorem loop_eq (x : ByteArray) : ∀ (n i : Nat) (r : List UInt8), x.size - i = n → ByteArray.toList.loop x i r = r.reverse ++ x.data.toList.drop i
  | 0, i, r, h => by
    rw [ByteArray.toList.loop, if_neg (by omega), List.drop_eq_nil_of_le (by rw [Array.length_toList]; show x.size ≤ i; omega), List.append_nil]
  | n + 1, i, r, h => by
    have hi : i < x.data.toList.length := by rw [Array.length_toList]; show i < x.size; omega
    have hi2 : i < x.data.size := by show i < x.size; omega
    have hg : x.get! i = x.data.toList[i] := by
      show x.data[i]! = _
      rw [getElem!_pos x.data i hi2, Array.getElem_toList]
    rw [ByteArray.toList.loop, if_pos (by omega), loop_eq x n (i + 1) _ (by omega), List.drop_eq_getElem_cons hi, List.reverse_cons, List.append_assoc, hg]
    rfl
theorem toList_inj {x y : ByteArray} (h : x.toList = y.toList) : x = y := by
  have hx : x.toList = x.data.toList := by show ByteArray.toList.loop x 0 [] = _; rw [loop_eq x x.size 0 [] (by omega)]; rfl
  have hy : y.toList = y.data.toList := by show ByteArray.toList.loop y 0 [] = _; rw [loop_eq y y.size 0 [] (by omega)]; rfl
  rw [hx, hy] at h
  exact data_inj h
theorem equal9 (s0 s1 s2 s3 s4 s5 s6 s7 s8 : ByteArray) (w : World) : (Op.equalIn 10000 29 (.agg #[.string s0, .string s1, .string s2, .string s3, .string s4, .string s5, .string s6, .string s7, .string s8]) (.agg #[.string s0, .string s1, .string s2, .string s3, .string s4, .string s5, .string s6, .string s7, .string s8])).run Tryz.prog w = .ok true w := by
  have u9 := Tryz.underlying9
  have a9 := Tryz.isAgg9
  have z9 := Tryz.sizeOf9
  rw [show (10000 : Nat) = 9999 + 1 from rfl, Op.equalIn]
  simp only [Sem.run_bind, run_underlying Tryz.underlying29, Result.andThen_ok]
  simp only [Std.Legacy.Range.forIn_eq_forIn_range', Std.Legacy.Range.size, Nat.sub_zero, Nat.add_sub_cancel, Nat.div_one, List.range'_succ, List.range'_zero, List.forIn_cons, List.forIn_nil]
  go_simp
theorem eql9 (s0 s1 s2 s3 s4 s5 s6 s7 s8 : ByteArray) (w : World) : (binOp .eql 29 (.agg #[.string s0, .string s1, .string s2, .string s3, .string s4, .string s5, .string s6, .string s7, .string s8]) (.agg #[.string s0, .string s1, .string s2, .string s3, .string s4, .string s5, .string s6, .string s7, .string s8])).run Tryz.prog w = .ok (.bool true) w := by
  simp [go_sem, equal9 s0 s1 s2 s3 s4 s5 s6 s7 s8]
theorem small8c (fz : Int) : ∃ f : Nat, wrap64 ((IntKind.u64.wrap fz).tmod 8) = (f : Int) ∧ f < 8 := by
  have h0 : 0 ≤ IntKind.u64.wrap fz := by
    have e : IntKind.u64.wrap fz = fz % 18446744073709551616 := rfl
    rw [e]
    omega
  have h1 : 0 ≤ (IntKind.u64.wrap fz).tmod 8 := Int.tmod_nonneg _ h0
  have h2 : (IntKind.u64.wrap fz).tmod 8 < 8 := Int.tmod_lt_of_pos _ (by decide)
  refine ⟨((IntKind.u64.wrap fz).tmod 8).toNat, ?_, by omega⟩
  unfold wrap64
  omega
section
set_option maxRecDepth 100000
set_option maxHeartbeats 2000000
theorem chairs_walk {W : World} {A : Option Addr} {c : Nat} {l : List ByteArray} {name : ByteArray} (fz : Int) (hC : Kd.string.C W A l.length l) (hc : l.length ≤ c) (hs : ∀ x ∈ l, x.size < 4294967281) (hnm : name.size ≤ 1048576) (hT : Tabs W) : Calls Tryz.prog 3 #[.slice A l.length c, .string name, .int .i64 fz] W fun e w' => e = .returned (.bool true) ∧ Below W.heap.size W w' := by
  have HO := Aside0.mk (opened_runs hC hc hs hT)
  have HT := Aside0.mk hT
  have hinv := runs_inv (l.take 60)
  obtain ⟨lines, hlines⟩ : ∃ x, x = (runs (l.take 60)).1 := ⟨_, rfl⟩
  obtain ⟨st, hst⟩ : ∃ x, x = (runs (l.take 60)).2 := ⟨_, rfl⟩
  unfold OpenedEnd2 at HO
  rw [← hlines, ← hst] at HO hinv
  have H9 := Aside0.mk hT.low
  have HRch := Aside0.mk hinv.1
  clear hC hs hT hlines hst hinv
  obtain ⟨n1, hn1⟩ : ∃ n, n = lines.length := ⟨_, rfl⟩
  have HN1 := Aside0.mk (show lines.length = n1 from hn1.symm)
  by_cases hlong : 59 < n1
  · have i59 : (59 : Int) < (n1 : Int) := by omega
    clear hn1
    go_enter Tryz.func3, Tryz.ntmps3
    go_wp2_with (first
      | (go_at_call 11; refine HO.out.mono ?_; rintro e w1 ⟨lg, rfl, hr, hb⟩; have HR := Aside0.mk hr; have HB := Aside0.mk hb; clear hr hb)
      | (go_at_call 12; refine (ran_journal HR.out).mono ?_; rintro e wn ⟨⟨A1, c1, rfl, _⟩, hb⟩; rw [HN1.out]; have HB := Aside0.mk (HB.out.trans (hb.mono HB.out.size)); clear hb)
      | (go_at_call 13; refine (awake_calls _ (HT.out.below HB.out H9.out)).mono ?_; rintro e we ⟨rfl, hbe⟩; have HBe := Aside0.mk (HB.out.trans (hbe.mono HB.out.size)); clear hbe))
    go_ret
    exact ⟨rfl, HBe.out⟩
  · have i59 : ¬ (59 : Int) < (n1 : Int) := by omega
    obtain ⟨f, hf, hf8⟩ := small8c fz
    obtain ⟨cc, hcc⟩ : ∃ cc : Nat, cc = f + 1 := ⟨_, rfl⟩
    have hadd : wrap64 (1 + (f : Int)) = (cc : Int) := by unfold wrap64; omega
    have hm := libmove HRch.out (by omega) name (c := cc) (by omega) (by omega)
    have hrch2 := (libDo_reach (size := 20000) HRch.out (moveT name (cc : Int))).2
    obtain ⟨M, hM⟩ : ∃ M, M = moveT name (cc : Int) := ⟨_, rfl⟩
    have HMT := Aside0.mk (show ((⟨#[109, 111, 118, 101, 32]⟩ ++ name) ++ ⟨#[32]⟩) ++ ⟨(Lib.itoa (cc : Int)).toArray⟩ = M by rw [hM]; rfl)
    have HMs := Aside0.mk (show M.size < 4294967281 by
      have hi := itoaB_size (cc : Int) (by omega) (by omega)
      rw [hM]
      unfold moveT
      simp only [ByteArray.size_append]
      have h5 : (⟨#[109, 111, 118, 101, 32]⟩ : ByteArray).size = 5 := rfl
      have h1 : (⟨#[32]⟩ : ByteArray).size = 1 := rfl
      omega)
    have hit := Lib.itoa_length_le (cc : Int) (by omega) (by omega)
    rw [← hM] at hm hrch2
    have HDo := Aside0.mk (fun (w : World) (lg : Nat) (h : Ran W.heap.size w lg W.heap.size lines st) (hT : Tabs w) => ran_do_box h hT HMs.out)
    obtain ⟨R, hR⟩ : ∃ R, R = libDoV (mkReel 20000 lines) lines st M := ⟨_, rfl⟩
    rw [← hR] at hm hrch2 HDo
    have HRg := Aside0.mk (And.intro HRch.out.good hrch2.good)
    obtain ⟨s0, s1, s2, s3, s4, s5, s6, s7, s8, hsv⟩ := arr_nine st
    obtain ⟨t0, t1, t2, t3, t4, t5, t6, t7, t8, htv⟩ := arr_nine R.st
    have HA14 := Aside0.mk (fun (w : World) (lg : Nat) (h : Ran W.heap.size w lg W.heap.size lines st) (hT : Tabs w) => ran_chairs h hT hsv)
    have HB14 := Aside0.mk (fun (w : World) (lg : Nat) (h : Ran W.heap.size w lg W.heap.size R.lines R.st) (hT : Tabs w) => ran_chairs h hT htv)
    have HSv := Aside0.mk hsv
    have HTv := Aside0.mk htv
    have HCC := Aside0.mk (show 1 ≤ cc ∧ cc ≤ 8 by omega)
    have HIt := Aside0.mk (show -9223372036854775808 ≤ (cc : Int) ∧ (cc : Int) ≤ 9223372036854775807 by omega)
    have hm0 := hm
    clear hsv htv hM hR hcc hn1 hlong hrch2 hf8 hm0
    rcases hm with ⟨her, hss⟩ | ⟨her, hss, hgt⟩ | ⟨her, hss, hgt⟩ | ⟨her, old, hgt, hoc, ho1, ho8, harr⟩
    · have HER := Aside0.mk her
      have hte : [s0, s1, s2, s3, s4, s5, s6, s7, s8] = [t0, t1, t2, t3, t4, t5, t6, t7, t8] := by rw [← HTv.out, hss, HSv.out]
      injection hte with h0 hte
      injection hte with h1 hte
      injection hte with h2 hte
      injection hte with h3 hte
      injection hte with h4 hte
      injection hte with h5 hte
      injection hte with h6 hte
      injection hte with h7 hte
      injection hte with h8 hte
      subst h0 h1 h2 h3 h4 h5 h6 h7 h8
      clear hte her hss
      go_enter Tryz.func3, Tryz.ntmps3
      go_wp2_with (first
        | (go_at_call 11; refine HO.out.mono ?_; rintro e w1 ⟨lg, rfl, hr, hb⟩; have HR := Aside0.mk hr; have HB := Aside0.mk hb; clear hr hb)
        | (go_at_call 12; refine (ran_journal HR.out).mono ?_; rintro e wn ⟨⟨A1, c1, rfl, _⟩, hb⟩; rw [HN1.out]; have HB := Aside0.mk (HB.out.trans (hb.mono HB.out.size)); have HR := Aside0.mk (HR.out.below hb); clear hb)
        | (go_at_call 14; refine (HB14.out _ lg HR.out (HT.out.below HB.out H9.out)).mono ?_; rintro e w6 ⟨rfl, hb⟩; have HXA := Aside0.mk (boxS_below HXA.out hb); have HGne := Aside0.mk (show w2.heap.size ≠ w6.heap.size from Nat.ne_of_lt (blk_lt HXA.out)); have HB := Aside0.mk (HB.out.trans (hb.mono HB.out.size)); have HXB := Aside0.mk (World.alloc_heap_new w6 (.cells #[.string s0, .string s1, .string s2, .string s3, .string s4, .string s5, .string s6, .string s7, .string s8] 29)); have HXA2 := Aside0.mk (boxS_below HXA.out (below_alloc (Below.refl _ w6) (.cells #[.string s0, .string s1, .string s2, .string s3, .string s4, .string s5, .string s6, .string s7, .string s8] 29))); have HBz := Aside0.mk (below_alloc HB.out (.cells #[.string s0, .string s1, .string s2, .string s3, .string s4, .string s5, .string s6, .string s7, .string s8] 29)); have e0 := boxS_cell (l := [s0, s1, s2, s3, s4, s5, s6, s7, s8]) HXA2.out rfl (i := 0) (by decide); have e1 := boxS_cell (l := [s0, s1, s2, s3, s4, s5, s6, s7, s8]) HXA2.out rfl (i := 1) (by decide); have e2 := boxS_cell (l := [s0, s1, s2, s3, s4, s5, s6, s7, s8]) HXA2.out rfl (i := 2) (by decide); have e3 := boxS_cell (l := [s0, s1, s2, s3, s4, s5, s6, s7, s8]) HXA2.out rfl (i := 3) (by decide); have e4 := boxS_cell (l := [s0, s1, s2, s3, s4, s5, s6, s7, s8]) HXA2.out rfl (i := 4) (by decide); have e5 := boxS_cell (l := [s0, s1, s2, s3, s4, s5, s6, s7, s8]) HXA2.out rfl (i := 5) (by decide); have e6 := boxS_cell (l := [s0, s1, s2, s3, s4, s5, s6, s7, s8]) HXA2.out rfl (i := 6) (by decide); have e7 := boxS_cell (l := [s0, s1, s2, s3, s4, s5, s6, s7, s8]) HXA2.out rfl (i := 7) (by decide); have e8 := boxS_cell (l := [s0, s1, s2, s3, s4, s5, s6, s7, s8]) HXA2.out rfl (i := 8) (by decide); clear hb)
        | (go_at_call 14; refine (HA14.out _ lg HR.out (HT.out.below HB.out H9.out)).mono ?_; rintro e w2 ⟨rfl, hb⟩; have HB := Aside0.mk (HB.out.trans (hb.mono HB.out.size)); have HR := Aside0.mk (HR.out.below hb); have HGlo := Aside0.mk (show W.heap.size ≤ w2.heap.size from HB.out.size); have HXn := Aside0.mk (World.alloc_heap_new w2 (.cells #[.string s0, .string s1, .string s2, .string s3, .string s4, .string s5, .string s6, .string s7, .string s8] 29)); have HBo := Aside0.mk (below_alloc HB.out (.cells #[.string s0, .string s1, .string s2, .string s3, .string s4, .string s5, .string s6, .string s7, .string s8] 29)); have HRo := Aside0.mk (HR.out.below (below_alloc (Below.refl _ w2) (.cells #[.string s0, .string s1, .string s2, .string s3, .string s4, .string s5, .string s6, .string s7, .string s8] 29))); clear hb)
        | (go_at_call 16; refine (itoa_calls (cc : Int) _ (HT.out.below HBo.out H9.out) HIt.out.1 HIt.out.2).mono ?_; rintro e w4 ⟨rfl, hb⟩; have HXA := Aside0.mk (boxS_below (l := [s0, s1, s2, s3, s4, s5, s6, s7, s8]) HXn.out hb); have HB := Aside0.mk (HBo.out.trans (hb.mono HBo.out.size)); have HR := Aside0.mk (HRo.out.below hb); clear hb)
        | (go_at_call 15; (try rw [HMT.out]); refine (HDo.out _ lg HR.out (HT.out.below HB.out H9.out)).mono ?_; rintro e w5 ⟨rfl, hr, hbox, hb⟩; rw [HER.out]; have HXA := Aside0.mk (hbox _ _ HXA.out); have HR := Aside0.mk hr; have HB := Aside0.mk (HB.out.trans hb); clear hr hbox hb))
      obtain ⟨wz, hwz⟩ : ∃ w, w = w6.alloc (.cells #[.string s0, .string s1, .string s2, .string s3, .string s4, .string s5, .string s6, .string s7, .string s8] 29) := ⟨_, rfl⟩
      rw [← hwz] at HXB HXA2 HBz ⊢
      clear hwz e0 e1 e2 e3 e4 e5 e6 e7 e8
      have HFin := Aside0.mk (show fromV (arrA st) name 9 = fromV (arrA st) name 9 from rfl)
      obtain ⟨L, hL⟩ : ∃ L : List ByteArray, L = [s0, s1, s2, s3, s4, s5, s6, s7, s8] := ⟨_, rfl⟩
      have HIx := Aside0.mk (fun i hi w => index9 s0 s1 s2 s3 s4 s5 s6 s7 s8 i hi w)
      rw [← hL] at HIx
      have HLs := Aside0.mk (show arrA st = L by rw [hL]; exact HSv.out)
      have HXAL := Aside0.mk (show wz.heap[w2.heap.size]? = some (boxS L) by rw [hL]; exact HXA2.out)
      have HL9 := Aside0.mk (show L.length = 9 by rw [hL]; rfl)
      clear hL hf hadd hit
      go_loopw [14, 66] (fun v14 v66 wr => ∃ k : Nat, k ≤ 9 ∧ v66 = .int .i64 k ∧ v14 = .int .i64 (fromV L name k) ∧ wz = wr) (fun _ v66 _ => 9 - (intOf v66).toNat)
      case atStart => exact ⟨0, by decide, rfl, rfl, rfl⟩
      case round =>
        obtain ⟨k, hk, rfl, rfl, rfl⟩ := hrel
        by_cases hk9 : k < 9
        · have i1 : (k : Int) < 9 := by omega
          have ix := fun w => HIx.out k hk9 w
          have HKk := Aside0.mk (wrap_step k (by omega))
          obtain ⟨x, hx⟩ : ∃ x, x = L.getD k emp := ⟨_, rfl⟩
          rw [← hx] at ix
          obtain ⟨v, hv⟩ : ∃ v, v = fromV L name k := ⟨_, rfl⟩
          rw [← hv]
          have hst : fromV L name (k + 1) = if x ≠ emp ∧ x = name then (k : Int) else v := by rw [fromV, ← hx, ← hv]
          clear hx hv
          by_cases hxe : x = emp
          · rw [if_neg (fun h => h.1 hxe)] at hst
            have HSt := Aside0.mk hst
            subst hxe
            have he0 : emp.toList = [] := ByteArray.toList_empty
            clear hst
            go_wp2_with (fail)
            exact ⟨⟨k + 1, by omega, by first | rw [HKk.out] | rfl, by rw [HSt.out], by first | rfl | trivial⟩, by first | (rw [HKk.out]; show 9 - (((k + 1 : Nat) : Int)).toNat < 9 - ((k : Nat) : Int).toNat; rw [Int.toNat_natCast, Int.toNat_natCast]; omega) | (simp [intOf]; omega)⟩
          · have j4 := toList_of_ne hxe
            have j5 : x.toList.isEmpty = false := isEmpty_no j4
            by_cases hxn : x = name
            · rw [if_pos ⟨hxe, hxn⟩] at hst
              have HSt := Aside0.mk hst
              subst hxn
              clear hst
              go_wp2_with (fail)
              exact ⟨⟨k + 1, by omega, by first | rw [HKk.out] | rfl, by rw [HSt.out], by first | rfl | trivial⟩, by first | (rw [HKk.out]; show 9 - (((k + 1 : Nat) : Int)).toNat < 9 - ((k : Nat) : Int).toNat; rw [Int.toNat_natCast, Int.toNat_natCast]; omega) | (simp [intOf]; omega)⟩
            · rw [if_neg (fun h => hxn h.2)] at hst
              have HSt := Aside0.mk hst
              have j6 : (x.toList == name.toList) = false := beq_eq_false_iff_ne.2 (fun h => hxn (toList_inj h))
              clear hst hxe
              go_wp2_with (fail)
              exact ⟨⟨k + 1, by omega, by first | rw [HKk.out] | rfl, by rw [HSt.out], by first | rfl | trivial⟩, by first | (rw [HKk.out]; show 9 - (((k + 1 : Nat) : Int)).toNat < 9 - ((k : Nat) : Int).toNat; rw [Int.toNat_natCast, Int.toNat_natCast]; omega) | (simp [intOf]; omega)⟩
        · have i1 : ¬ (k : Int) < 9 := by omega
          obtain rfl : k = 9 := by omega
          rw [show fromV L name 9 = (fromV (arrA st) name 9) from (congrArg (fun z => fromV z name 9) HLs.out.symm).trans HFin.out]
          clear i1
          have e0 := boxS_cell (l := [s0, s1, s2, s3, s4, s5, s6, s7, s8]) HXA2.out rfl (i := 0) (by decide)
          have f0 := boxS_cell (l := [s0, s1, s2, s3, s4, s5, s6, s7, s8]) HXB.out rfl (i := 0) (by decide)
          have e1 := boxS_cell (l := [s0, s1, s2, s3, s4, s5, s6, s7, s8]) HXA2.out rfl (i := 1) (by decide)
          have f1 := boxS_cell (l := [s0, s1, s2, s3, s4, s5, s6, s7, s8]) HXB.out rfl (i := 1) (by decide)
          have e2 := boxS_cell (l := [s0, s1, s2, s3, s4, s5, s6, s7, s8]) HXA2.out rfl (i := 2) (by decide)
          have f2 := boxS_cell (l := [s0, s1, s2, s3, s4, s5, s6, s7, s8]) HXB.out rfl (i := 2) (by decide)
          have e3 := boxS_cell (l := [s0, s1, s2, s3, s4, s5, s6, s7, s8]) HXA2.out rfl (i := 3) (by decide)
          have f3 := boxS_cell (l := [s0, s1, s2, s3, s4, s5, s6, s7, s8]) HXB.out rfl (i := 3) (by decide)
          have e4 := boxS_cell (l := [s0, s1, s2, s3, s4, s5, s6, s7, s8]) HXA2.out rfl (i := 4) (by decide)
          have f4 := boxS_cell (l := [s0, s1, s2, s3, s4, s5, s6, s7, s8]) HXB.out rfl (i := 4) (by decide)
          have e5 := boxS_cell (l := [s0, s1, s2, s3, s4, s5, s6, s7, s8]) HXA2.out rfl (i := 5) (by decide)
          have f5 := boxS_cell (l := [s0, s1, s2, s3, s4, s5, s6, s7, s8]) HXB.out rfl (i := 5) (by decide)
          have e6 := boxS_cell (l := [s0, s1, s2, s3, s4, s5, s6, s7, s8]) HXA2.out rfl (i := 6) (by decide)
          have f6 := boxS_cell (l := [s0, s1, s2, s3, s4, s5, s6, s7, s8]) HXB.out rfl (i := 6) (by decide)
          have e7 := boxS_cell (l := [s0, s1, s2, s3, s4, s5, s6, s7, s8]) HXA2.out rfl (i := 7) (by decide)
          have f7 := boxS_cell (l := [s0, s1, s2, s3, s4, s5, s6, s7, s8]) HXB.out rfl (i := 7) (by decide)
          have e8 := boxS_cell (l := [s0, s1, s2, s3, s4, s5, s6, s7, s8]) HXA2.out rfl (i := 8) (by decide)
          have f8 := boxS_cell (l := [s0, s1, s2, s3, s4, s5, s6, s7, s8]) HXB.out rfl (i := 8) (by decide)
          have hq := fun w => eql9 s0 s1 s2 s3 s4 s5 s6 s7 s8 w
          go_wp2_with (go_at_call 13; refine (awake_calls _ (HT.out.below HBz.out H9.out)).mono ?_; rintro e we ⟨rfl, hbe⟩; have HBe := Aside0.mk (HBz.out.trans (hbe.mono HBz.out.size)); clear hbe)
          go_ret
          exact ⟨rfl, HBe.out⟩
    · have HER := Aside0.mk her
      have hte : [s0, s1, s2, s3, s4, s5, s6, s7, s8] = [t0, t1, t2, t3, t4, t5, t6, t7, t8] := by rw [← HTv.out, hss, HSv.out]
      injection hte with h0 hte
      injection hte with h1 hte
      injection hte with h2 hte
      injection hte with h3 hte
      injection hte with h4 hte
      injection hte with h5 hte
      injection hte with h6 hte
      injection hte with h7 hte
      injection hte with h8 hte
      subst h0 h1 h2 h3 h4 h5 h6 h7 h8
      clear hte her hss
      go_enter Tryz.func3, Tryz.ntmps3
      go_wp2_with (first
        | (go_at_call 11; refine HO.out.mono ?_; rintro e w1 ⟨lg, rfl, hr, hb⟩; have HR := Aside0.mk hr; have HB := Aside0.mk hb; clear hr hb)
        | (go_at_call 12; refine (ran_journal HR.out).mono ?_; rintro e wn ⟨⟨A1, c1, rfl, _⟩, hb⟩; rw [HN1.out]; have HB := Aside0.mk (HB.out.trans (hb.mono HB.out.size)); have HR := Aside0.mk (HR.out.below hb); clear hb)
        | (go_at_call 14; refine (HB14.out _ lg HR.out (HT.out.below HB.out H9.out)).mono ?_; rintro e w6 ⟨rfl, hb⟩; have HXA := Aside0.mk (boxS_below HXA.out hb); have HGne := Aside0.mk (show w2.heap.size ≠ w6.heap.size from Nat.ne_of_lt (blk_lt HXA.out)); have HB := Aside0.mk (HB.out.trans (hb.mono HB.out.size)); have HXB := Aside0.mk (World.alloc_heap_new w6 (.cells #[.string s0, .string s1, .string s2, .string s3, .string s4, .string s5, .string s6, .string s7, .string s8] 29)); have HXA2 := Aside0.mk (boxS_below HXA.out (below_alloc (Below.refl _ w6) (.cells #[.string s0, .string s1, .string s2, .string s3, .string s4, .string s5, .string s6, .string s7, .string s8] 29))); have HBz := Aside0.mk (below_alloc HB.out (.cells #[.string s0, .string s1, .string s2, .string s3, .string s4, .string s5, .string s6, .string s7, .string s8] 29)); have e0 := boxS_cell (l := [s0, s1, s2, s3, s4, s5, s6, s7, s8]) HXA2.out rfl (i := 0) (by decide); have e1 := boxS_cell (l := [s0, s1, s2, s3, s4, s5, s6, s7, s8]) HXA2.out rfl (i := 1) (by decide); have e2 := boxS_cell (l := [s0, s1, s2, s3, s4, s5, s6, s7, s8]) HXA2.out rfl (i := 2) (by decide); have e3 := boxS_cell (l := [s0, s1, s2, s3, s4, s5, s6, s7, s8]) HXA2.out rfl (i := 3) (by decide); have e4 := boxS_cell (l := [s0, s1, s2, s3, s4, s5, s6, s7, s8]) HXA2.out rfl (i := 4) (by decide); have e5 := boxS_cell (l := [s0, s1, s2, s3, s4, s5, s6, s7, s8]) HXA2.out rfl (i := 5) (by decide); have e6 := boxS_cell (l := [s0, s1, s2, s3, s4, s5, s6, s7, s8]) HXA2.out rfl (i := 6) (by decide); have e7 := boxS_cell (l := [s0, s1, s2, s3, s4, s5, s6, s7, s8]) HXA2.out rfl (i := 7) (by decide); have e8 := boxS_cell (l := [s0, s1, s2, s3, s4, s5, s6, s7, s8]) HXA2.out rfl (i := 8) (by decide); clear hb)
        | (go_at_call 14; refine (HA14.out _ lg HR.out (HT.out.below HB.out H9.out)).mono ?_; rintro e w2 ⟨rfl, hb⟩; have HB := Aside0.mk (HB.out.trans (hb.mono HB.out.size)); have HR := Aside0.mk (HR.out.below hb); have HGlo := Aside0.mk (show W.heap.size ≤ w2.heap.size from HB.out.size); have HXn := Aside0.mk (World.alloc_heap_new w2 (.cells #[.string s0, .string s1, .string s2, .string s3, .string s4, .string s5, .string s6, .string s7, .string s8] 29)); have HBo := Aside0.mk (below_alloc HB.out (.cells #[.string s0, .string s1, .string s2, .string s3, .string s4, .string s5, .string s6, .string s7, .string s8] 29)); have HRo := Aside0.mk (HR.out.below (below_alloc (Below.refl _ w2) (.cells #[.string s0, .string s1, .string s2, .string s3, .string s4, .string s5, .string s6, .string s7, .string s8] 29))); clear hb)
        | (go_at_call 16; refine (itoa_calls (cc : Int) _ (HT.out.below HBo.out H9.out) HIt.out.1 HIt.out.2).mono ?_; rintro e w4 ⟨rfl, hb⟩; have HXA := Aside0.mk (boxS_below (l := [s0, s1, s2, s3, s4, s5, s6, s7, s8]) HXn.out hb); have HB := Aside0.mk (HBo.out.trans (hb.mono HBo.out.size)); have HR := Aside0.mk (HRo.out.below hb); clear hb)
        | (go_at_call 15; (try rw [HMT.out]); refine (HDo.out _ lg HR.out (HT.out.below HB.out H9.out)).mono ?_; rintro e w5 ⟨rfl, hr, hbox, hb⟩; rw [HER.out]; have HXA := Aside0.mk (hbox _ _ HXA.out); have HR := Aside0.mk hr; have HB := Aside0.mk (HB.out.trans hb); clear hr hbox hb))
      obtain ⟨wz, hwz⟩ : ∃ w, w = w6.alloc (.cells #[.string s0, .string s1, .string s2, .string s3, .string s4, .string s5, .string s6, .string s7, .string s8] 29) := ⟨_, rfl⟩
      rw [← hwz] at HXB HXA2 HBz ⊢
      clear hwz e0 e1 e2 e3 e4 e5 e6 e7 e8
      have HFin := Aside0.mk (from_no HRg.out.1 hgt)
      obtain ⟨L, hL⟩ : ∃ L : List ByteArray, L = [s0, s1, s2, s3, s4, s5, s6, s7, s8] := ⟨_, rfl⟩
      have HIx := Aside0.mk (fun i hi w => index9 s0 s1 s2 s3 s4 s5 s6 s7 s8 i hi w)
      rw [← hL] at HIx
      have HLs := Aside0.mk (show arrA st = L by rw [hL]; exact HSv.out)
      have HXAL := Aside0.mk (show wz.heap[w2.heap.size]? = some (boxS L) by rw [hL]; exact HXA2.out)
      have HL9 := Aside0.mk (show L.length = 9 by rw [hL]; rfl)
      clear hL hf hadd hit
      go_loopw [14, 66] (fun v14 v66 wr => ∃ k : Nat, k ≤ 9 ∧ v66 = .int .i64 k ∧ v14 = .int .i64 (fromV L name k) ∧ wz = wr) (fun _ v66 _ => 9 - (intOf v66).toNat)
      case atStart => exact ⟨0, by decide, rfl, rfl, rfl⟩
      case round =>
        obtain ⟨k, hk, rfl, rfl, rfl⟩ := hrel
        by_cases hk9 : k < 9
        · have i1 : (k : Int) < 9 := by omega
          have ix := fun w => HIx.out k hk9 w
          have HKk := Aside0.mk (wrap_step k (by omega))
          obtain ⟨x, hx⟩ : ∃ x, x = L.getD k emp := ⟨_, rfl⟩
          rw [← hx] at ix
          obtain ⟨v, hv⟩ : ∃ v, v = fromV L name k := ⟨_, rfl⟩
          rw [← hv]
          have hst : fromV L name (k + 1) = if x ≠ emp ∧ x = name then (k : Int) else v := by rw [fromV, ← hx, ← hv]
          clear hx hv
          by_cases hxe : x = emp
          · rw [if_neg (fun h => h.1 hxe)] at hst
            have HSt := Aside0.mk hst
            subst hxe
            have he0 : emp.toList = [] := ByteArray.toList_empty
            clear hst
            go_wp2_with (fail)
            exact ⟨⟨k + 1, by omega, by first | rw [HKk.out] | rfl, by rw [HSt.out], by first | rfl | trivial⟩, by first | (rw [HKk.out]; show 9 - (((k + 1 : Nat) : Int)).toNat < 9 - ((k : Nat) : Int).toNat; rw [Int.toNat_natCast, Int.toNat_natCast]; omega) | (simp [intOf]; omega)⟩
          · have j4 := toList_of_ne hxe
            have j5 : x.toList.isEmpty = false := isEmpty_no j4
            by_cases hxn : x = name
            · rw [if_pos ⟨hxe, hxn⟩] at hst
              have HSt := Aside0.mk hst
              subst hxn
              clear hst
              go_wp2_with (fail)
              exact ⟨⟨k + 1, by omega, by first | rw [HKk.out] | rfl, by rw [HSt.out], by first | rfl | trivial⟩, by first | (rw [HKk.out]; show 9 - (((k + 1 : Nat) : Int)).toNat < 9 - ((k : Nat) : Int).toNat; rw [Int.toNat_natCast, Int.toNat_natCast]; omega) | (simp [intOf]; omega)⟩
            · rw [if_neg (fun h => hxn h.2)] at hst
              have HSt := Aside0.mk hst
              have j6 : (x.toList == name.toList) = false := beq_eq_false_iff_ne.2 (fun h => hxn (toList_inj h))
              clear hst hxe
              go_wp2_with (fail)
              exact ⟨⟨k + 1, by omega, by first | rw [HKk.out] | rfl, by rw [HSt.out], by first | rfl | trivial⟩, by first | (rw [HKk.out]; show 9 - (((k + 1 : Nat) : Int)).toNat < 9 - ((k : Nat) : Int).toNat; rw [Int.toNat_natCast, Int.toNat_natCast]; omega) | (simp [intOf]; omega)⟩
        · have i1 : ¬ (k : Int) < 9 := by omega
          obtain rfl : k = 9 := by omega
          rw [show fromV L name 9 = (-1) from (congrArg (fun z => fromV z name 9) HLs.out.symm).trans HFin.out]
          clear i1
          have e0 := boxS_cell (l := [s0, s1, s2, s3, s4, s5, s6, s7, s8]) HXA2.out rfl (i := 0) (by decide)
          have f0 := boxS_cell (l := [s0, s1, s2, s3, s4, s5, s6, s7, s8]) HXB.out rfl (i := 0) (by decide)
          have e1 := boxS_cell (l := [s0, s1, s2, s3, s4, s5, s6, s7, s8]) HXA2.out rfl (i := 1) (by decide)
          have f1 := boxS_cell (l := [s0, s1, s2, s3, s4, s5, s6, s7, s8]) HXB.out rfl (i := 1) (by decide)
          have e2 := boxS_cell (l := [s0, s1, s2, s3, s4, s5, s6, s7, s8]) HXA2.out rfl (i := 2) (by decide)
          have f2 := boxS_cell (l := [s0, s1, s2, s3, s4, s5, s6, s7, s8]) HXB.out rfl (i := 2) (by decide)
          have e3 := boxS_cell (l := [s0, s1, s2, s3, s4, s5, s6, s7, s8]) HXA2.out rfl (i := 3) (by decide)
          have f3 := boxS_cell (l := [s0, s1, s2, s3, s4, s5, s6, s7, s8]) HXB.out rfl (i := 3) (by decide)
          have e4 := boxS_cell (l := [s0, s1, s2, s3, s4, s5, s6, s7, s8]) HXA2.out rfl (i := 4) (by decide)
          have f4 := boxS_cell (l := [s0, s1, s2, s3, s4, s5, s6, s7, s8]) HXB.out rfl (i := 4) (by decide)
          have e5 := boxS_cell (l := [s0, s1, s2, s3, s4, s5, s6, s7, s8]) HXA2.out rfl (i := 5) (by decide)
          have f5 := boxS_cell (l := [s0, s1, s2, s3, s4, s5, s6, s7, s8]) HXB.out rfl (i := 5) (by decide)
          have e6 := boxS_cell (l := [s0, s1, s2, s3, s4, s5, s6, s7, s8]) HXA2.out rfl (i := 6) (by decide)
          have f6 := boxS_cell (l := [s0, s1, s2, s3, s4, s5, s6, s7, s8]) HXB.out rfl (i := 6) (by decide)
          have e7 := boxS_cell (l := [s0, s1, s2, s3, s4, s5, s6, s7, s8]) HXA2.out rfl (i := 7) (by decide)
          have f7 := boxS_cell (l := [s0, s1, s2, s3, s4, s5, s6, s7, s8]) HXB.out rfl (i := 7) (by decide)
          have e8 := boxS_cell (l := [s0, s1, s2, s3, s4, s5, s6, s7, s8]) HXA2.out rfl (i := 8) (by decide)
          have f8 := boxS_cell (l := [s0, s1, s2, s3, s4, s5, s6, s7, s8]) HXB.out rfl (i := 8) (by decide)
          have hq := fun w => eql9 s0 s1 s2 s3 s4 s5 s6 s7 s8 w
          go_wp2_with (go_at_call 13; refine (awake_calls _ (HT.out.below HBz.out H9.out)).mono ?_; rintro e we ⟨rfl, hbe⟩; have HBe := Aside0.mk (HBz.out.trans (hbe.mono HBz.out.size)); clear hbe)
          go_ret
          exact ⟨rfl, HBe.out⟩
    · have HER := Aside0.mk her
      have hte : [s0, s1, s2, s3, s4, s5, s6, s7, s8] = [t0, t1, t2, t3, t4, t5, t6, t7, t8] := by rw [← HTv.out, hss, HSv.out]
      injection hte with h0 hte
      injection hte with h1 hte
      injection hte with h2 hte
      injection hte with h3 hte
      injection hte with h4 hte
      injection hte with h5 hte
      injection hte with h6 hte
      injection hte with h7 hte
      injection hte with h8 hte
      subst h0 h1 h2 h3 h4 h5 h6 h7 h8
      clear hte her hss
      go_enter Tryz.func3, Tryz.ntmps3
      go_wp2_with (first
        | (go_at_call 11; refine HO.out.mono ?_; rintro e w1 ⟨lg, rfl, hr, hb⟩; have HR := Aside0.mk hr; have HB := Aside0.mk hb; clear hr hb)
        | (go_at_call 12; refine (ran_journal HR.out).mono ?_; rintro e wn ⟨⟨A1, c1, rfl, _⟩, hb⟩; rw [HN1.out]; have HB := Aside0.mk (HB.out.trans (hb.mono HB.out.size)); have HR := Aside0.mk (HR.out.below hb); clear hb)
        | (go_at_call 14; refine (HB14.out _ lg HR.out (HT.out.below HB.out H9.out)).mono ?_; rintro e w6 ⟨rfl, hb⟩; have HXA := Aside0.mk (boxS_below HXA.out hb); have HGne := Aside0.mk (show w2.heap.size ≠ w6.heap.size from Nat.ne_of_lt (blk_lt HXA.out)); have HB := Aside0.mk (HB.out.trans (hb.mono HB.out.size)); have HXB := Aside0.mk (World.alloc_heap_new w6 (.cells #[.string s0, .string s1, .string s2, .string s3, .string s4, .string s5, .string s6, .string s7, .string s8] 29)); have HXA2 := Aside0.mk (boxS_below HXA.out (below_alloc (Below.refl _ w6) (.cells #[.string s0, .string s1, .string s2, .string s3, .string s4, .string s5, .string s6, .string s7, .string s8] 29))); have HBz := Aside0.mk (below_alloc HB.out (.cells #[.string s0, .string s1, .string s2, .string s3, .string s4, .string s5, .string s6, .string s7, .string s8] 29)); have e0 := boxS_cell (l := [s0, s1, s2, s3, s4, s5, s6, s7, s8]) HXA2.out rfl (i := 0) (by decide); have e1 := boxS_cell (l := [s0, s1, s2, s3, s4, s5, s6, s7, s8]) HXA2.out rfl (i := 1) (by decide); have e2 := boxS_cell (l := [s0, s1, s2, s3, s4, s5, s6, s7, s8]) HXA2.out rfl (i := 2) (by decide); have e3 := boxS_cell (l := [s0, s1, s2, s3, s4, s5, s6, s7, s8]) HXA2.out rfl (i := 3) (by decide); have e4 := boxS_cell (l := [s0, s1, s2, s3, s4, s5, s6, s7, s8]) HXA2.out rfl (i := 4) (by decide); have e5 := boxS_cell (l := [s0, s1, s2, s3, s4, s5, s6, s7, s8]) HXA2.out rfl (i := 5) (by decide); have e6 := boxS_cell (l := [s0, s1, s2, s3, s4, s5, s6, s7, s8]) HXA2.out rfl (i := 6) (by decide); have e7 := boxS_cell (l := [s0, s1, s2, s3, s4, s5, s6, s7, s8]) HXA2.out rfl (i := 7) (by decide); have e8 := boxS_cell (l := [s0, s1, s2, s3, s4, s5, s6, s7, s8]) HXA2.out rfl (i := 8) (by decide); clear hb)
        | (go_at_call 14; refine (HA14.out _ lg HR.out (HT.out.below HB.out H9.out)).mono ?_; rintro e w2 ⟨rfl, hb⟩; have HB := Aside0.mk (HB.out.trans (hb.mono HB.out.size)); have HR := Aside0.mk (HR.out.below hb); have HGlo := Aside0.mk (show W.heap.size ≤ w2.heap.size from HB.out.size); have HXn := Aside0.mk (World.alloc_heap_new w2 (.cells #[.string s0, .string s1, .string s2, .string s3, .string s4, .string s5, .string s6, .string s7, .string s8] 29)); have HBo := Aside0.mk (below_alloc HB.out (.cells #[.string s0, .string s1, .string s2, .string s3, .string s4, .string s5, .string s6, .string s7, .string s8] 29)); have HRo := Aside0.mk (HR.out.below (below_alloc (Below.refl _ w2) (.cells #[.string s0, .string s1, .string s2, .string s3, .string s4, .string s5, .string s6, .string s7, .string s8] 29))); clear hb)
        | (go_at_call 16; refine (itoa_calls (cc : Int) _ (HT.out.below HBo.out H9.out) HIt.out.1 HIt.out.2).mono ?_; rintro e w4 ⟨rfl, hb⟩; have HXA := Aside0.mk (boxS_below (l := [s0, s1, s2, s3, s4, s5, s6, s7, s8]) HXn.out hb); have HB := Aside0.mk (HBo.out.trans (hb.mono HBo.out.size)); have HR := Aside0.mk (HRo.out.below hb); clear hb)
        | (go_at_call 15; (try rw [HMT.out]); refine (HDo.out _ lg HR.out (HT.out.below HB.out H9.out)).mono ?_; rintro e w5 ⟨rfl, hr, hbox, hb⟩; rw [HER.out]; have HXA := Aside0.mk (hbox _ _ HXA.out); have HR := Aside0.mk hr; have HB := Aside0.mk (HB.out.trans hb); clear hr hbox hb))
      obtain ⟨wz, hwz⟩ : ∃ w, w = w6.alloc (.cells #[.string s0, .string s1, .string s2, .string s3, .string s4, .string s5, .string s6, .string s7, .string s8] 29) := ⟨_, rfl⟩
      rw [← hwz] at HXB HXA2 HBz ⊢
      clear hwz e0 e1 e2 e3 e4 e5 e6 e7 e8
      have HFin := Aside0.mk (from_at HRg.out.1 hgt)
      obtain ⟨L, hL⟩ : ∃ L : List ByteArray, L = [s0, s1, s2, s3, s4, s5, s6, s7, s8] := ⟨_, rfl⟩
      have HIx := Aside0.mk (fun i hi w => index9 s0 s1 s2 s3 s4 s5 s6 s7 s8 i hi w)
      rw [← hL] at HIx
      have HLs := Aside0.mk (show arrA st = L by rw [hL]; exact HSv.out)
      have HXAL := Aside0.mk (show wz.heap[w2.heap.size]? = some (boxS L) by rw [hL]; exact HXA2.out)
      have HL9 := Aside0.mk (show L.length = 9 by rw [hL]; rfl)
      clear hL hf hadd hit
      go_loopw [14, 66] (fun v14 v66 wr => ∃ k : Nat, k ≤ 9 ∧ v66 = .int .i64 k ∧ v14 = .int .i64 (fromV L name k) ∧ wz = wr) (fun _ v66 _ => 9 - (intOf v66).toNat)
      case atStart => exact ⟨0, by decide, rfl, rfl, rfl⟩
      case round =>
        obtain ⟨k, hk, rfl, rfl, rfl⟩ := hrel
        by_cases hk9 : k < 9
        · have i1 : (k : Int) < 9 := by omega
          have ix := fun w => HIx.out k hk9 w
          have HKk := Aside0.mk (wrap_step k (by omega))
          obtain ⟨x, hx⟩ : ∃ x, x = L.getD k emp := ⟨_, rfl⟩
          rw [← hx] at ix
          obtain ⟨v, hv⟩ : ∃ v, v = fromV L name k := ⟨_, rfl⟩
          rw [← hv]
          have hst : fromV L name (k + 1) = if x ≠ emp ∧ x = name then (k : Int) else v := by rw [fromV, ← hx, ← hv]
          clear hx hv
          by_cases hxe : x = emp
          · rw [if_neg (fun h => h.1 hxe)] at hst
            have HSt := Aside0.mk hst
            subst hxe
            have he0 : emp.toList = [] := ByteArray.toList_empty
            clear hst
            go_wp2_with (fail)
            exact ⟨⟨k + 1, by omega, by first | rw [HKk.out] | rfl, by rw [HSt.out], by first | rfl | trivial⟩, by first | (rw [HKk.out]; show 9 - (((k + 1 : Nat) : Int)).toNat < 9 - ((k : Nat) : Int).toNat; rw [Int.toNat_natCast, Int.toNat_natCast]; omega) | (simp [intOf]; omega)⟩
          · have j4 := toList_of_ne hxe
            have j5 : x.toList.isEmpty = false := isEmpty_no j4
            by_cases hxn : x = name
            · rw [if_pos ⟨hxe, hxn⟩] at hst
              have HSt := Aside0.mk hst
              subst hxn
              clear hst
              go_wp2_with (fail)
              exact ⟨⟨k + 1, by omega, by first | rw [HKk.out] | rfl, by rw [HSt.out], by first | rfl | trivial⟩, by first | (rw [HKk.out]; show 9 - (((k + 1 : Nat) : Int)).toNat < 9 - ((k : Nat) : Int).toNat; rw [Int.toNat_natCast, Int.toNat_natCast]; omega) | (simp [intOf]; omega)⟩
            · rw [if_neg (fun h => hxn h.2)] at hst
              have HSt := Aside0.mk hst
              have j6 : (x.toList == name.toList) = false := beq_eq_false_iff_ne.2 (fun h => hxn (toList_inj h))
              clear hst hxe
              go_wp2_with (fail)
              exact ⟨⟨k + 1, by omega, by first | rw [HKk.out] | rfl, by rw [HSt.out], by first | rfl | trivial⟩, by first | (rw [HKk.out]; show 9 - (((k + 1 : Nat) : Int)).toNat < 9 - ((k : Nat) : Int).toNat; rw [Int.toNat_natCast, Int.toNat_natCast]; omega) | (simp [intOf]; omega)⟩
        · have i1 : ¬ (k : Int) < 9 := by omega
          obtain rfl : k = 9 := by omega
          rw [show fromV L name 9 = ((cc : Nat) : Int) from (congrArg (fun z => fromV z name 9) HLs.out.symm).trans HFin.out]
          clear i1
          have e0 := boxS_cell (l := [s0, s1, s2, s3, s4, s5, s6, s7, s8]) HXA2.out rfl (i := 0) (by decide)
          have f0 := boxS_cell (l := [s0, s1, s2, s3, s4, s5, s6, s7, s8]) HXB.out rfl (i := 0) (by decide)
          have e1 := boxS_cell (l := [s0, s1, s2, s3, s4, s5, s6, s7, s8]) HXA2.out rfl (i := 1) (by decide)
          have f1 := boxS_cell (l := [s0, s1, s2, s3, s4, s5, s6, s7, s8]) HXB.out rfl (i := 1) (by decide)
          have e2 := boxS_cell (l := [s0, s1, s2, s3, s4, s5, s6, s7, s8]) HXA2.out rfl (i := 2) (by decide)
          have f2 := boxS_cell (l := [s0, s1, s2, s3, s4, s5, s6, s7, s8]) HXB.out rfl (i := 2) (by decide)
          have e3 := boxS_cell (l := [s0, s1, s2, s3, s4, s5, s6, s7, s8]) HXA2.out rfl (i := 3) (by decide)
          have f3 := boxS_cell (l := [s0, s1, s2, s3, s4, s5, s6, s7, s8]) HXB.out rfl (i := 3) (by decide)
          have e4 := boxS_cell (l := [s0, s1, s2, s3, s4, s5, s6, s7, s8]) HXA2.out rfl (i := 4) (by decide)
          have f4 := boxS_cell (l := [s0, s1, s2, s3, s4, s5, s6, s7, s8]) HXB.out rfl (i := 4) (by decide)
          have e5 := boxS_cell (l := [s0, s1, s2, s3, s4, s5, s6, s7, s8]) HXA2.out rfl (i := 5) (by decide)
          have f5 := boxS_cell (l := [s0, s1, s2, s3, s4, s5, s6, s7, s8]) HXB.out rfl (i := 5) (by decide)
          have e6 := boxS_cell (l := [s0, s1, s2, s3, s4, s5, s6, s7, s8]) HXA2.out rfl (i := 6) (by decide)
          have f6 := boxS_cell (l := [s0, s1, s2, s3, s4, s5, s6, s7, s8]) HXB.out rfl (i := 6) (by decide)
          have e7 := boxS_cell (l := [s0, s1, s2, s3, s4, s5, s6, s7, s8]) HXA2.out rfl (i := 7) (by decide)
          have f7 := boxS_cell (l := [s0, s1, s2, s3, s4, s5, s6, s7, s8]) HXB.out rfl (i := 7) (by decide)
          have e8 := boxS_cell (l := [s0, s1, s2, s3, s4, s5, s6, s7, s8]) HXA2.out rfl (i := 8) (by decide)
          have f8 := boxS_cell (l := [s0, s1, s2, s3, s4, s5, s6, s7, s8]) HXB.out rfl (i := 8) (by decide)
          have hq := fun w => eql9 s0 s1 s2 s3 s4 s5 s6 s7 s8 w
          go_wp2_with (go_at_call 13; refine (awake_calls _ (HT.out.below HBz.out H9.out)).mono ?_; rintro e we ⟨rfl, hbe⟩; have HBe := Aside0.mk (HBz.out.trans (hbe.mono HBz.out.size)); clear hbe)
          go_ret
          exact ⟨rfl, HBe.out⟩
    · have HER := Aside0.mk her
      go_enter Tryz.func3, Tryz.ntmps3
      go_wp2_with (first
        | (go_at_call 11; refine HO.out.mono ?_; rintro e w1 ⟨lg, rfl, hr, hb⟩; have HR := Aside0.mk hr; have HB := Aside0.mk hb; clear hr hb)
        | (go_at_call 12; refine (ran_journal HR.out).mono ?_; rintro e wn ⟨⟨A1, c1, rfl, _⟩, hb⟩; rw [HN1.out]; have HB := Aside0.mk (HB.out.trans (hb.mono HB.out.size)); have HR := Aside0.mk (HR.out.below hb); clear hb)
        | (go_at_call 14; refine (HB14.out _ lg HR.out (HT.out.below HB.out H9.out)).mono ?_; rintro e w6 ⟨rfl, hb⟩; have HXA := Aside0.mk (boxS_below HXA.out hb); have HGne := Aside0.mk (show w2.heap.size ≠ w6.heap.size from Nat.ne_of_lt (blk_lt HXA.out)); have HB := Aside0.mk (HB.out.trans (hb.mono HB.out.size)); have HXB := Aside0.mk (World.alloc_heap_new w6 (.cells #[.string t0, .string t1, .string t2, .string t3, .string t4, .string t5, .string t6, .string t7, .string t8] 29)); have HXA2 := Aside0.mk (boxS_below HXA.out (below_alloc (Below.refl _ w6) (.cells #[.string t0, .string t1, .string t2, .string t3, .string t4, .string t5, .string t6, .string t7, .string t8] 29))); have HBz := Aside0.mk (below_alloc HB.out (.cells #[.string t0, .string t1, .string t2, .string t3, .string t4, .string t5, .string t6, .string t7, .string t8] 29)); have e0 := boxS_cell (l := [s0, s1, s2, s3, s4, s5, s6, s7, s8]) HXA2.out rfl (i := 0) (by decide); have e1 := boxS_cell (l := [s0, s1, s2, s3, s4, s5, s6, s7, s8]) HXA2.out rfl (i := 1) (by decide); have e2 := boxS_cell (l := [s0, s1, s2, s3, s4, s5, s6, s7, s8]) HXA2.out rfl (i := 2) (by decide); have e3 := boxS_cell (l := [s0, s1, s2, s3, s4, s5, s6, s7, s8]) HXA2.out rfl (i := 3) (by decide); have e4 := boxS_cell (l := [s0, s1, s2, s3, s4, s5, s6, s7, s8]) HXA2.out rfl (i := 4) (by decide); have e5 := boxS_cell (l := [s0, s1, s2, s3, s4, s5, s6, s7, s8]) HXA2.out rfl (i := 5) (by decide); have e6 := boxS_cell (l := [s0, s1, s2, s3, s4, s5, s6, s7, s8]) HXA2.out rfl (i := 6) (by decide); have e7 := boxS_cell (l := [s0, s1, s2, s3, s4, s5, s6, s7, s8]) HXA2.out rfl (i := 7) (by decide); have e8 := boxS_cell (l := [s0, s1, s2, s3, s4, s5, s6, s7, s8]) HXA2.out rfl (i := 8) (by decide); clear hb)
        | (go_at_call 14; refine (HA14.out _ lg HR.out (HT.out.below HB.out H9.out)).mono ?_; rintro e w2 ⟨rfl, hb⟩; have HB := Aside0.mk (HB.out.trans (hb.mono HB.out.size)); have HR := Aside0.mk (HR.out.below hb); have HGlo := Aside0.mk (show W.heap.size ≤ w2.heap.size from HB.out.size); have HXn := Aside0.mk (World.alloc_heap_new w2 (.cells #[.string s0, .string s1, .string s2, .string s3, .string s4, .string s5, .string s6, .string s7, .string s8] 29)); have HBo := Aside0.mk (below_alloc HB.out (.cells #[.string s0, .string s1, .string s2, .string s3, .string s4, .string s5, .string s6, .string s7, .string s8] 29)); have HRo := Aside0.mk (HR.out.below (below_alloc (Below.refl _ w2) (.cells #[.string s0, .string s1, .string s2, .string s3, .string s4, .string s5, .string s6, .string s7, .string s8] 29))); clear hb)
        | (go_at_call 16; refine (itoa_calls (cc : Int) _ (HT.out.below HBo.out H9.out) HIt.out.1 HIt.out.2).mono ?_; rintro e w4 ⟨rfl, hb⟩; have HXA := Aside0.mk (boxS_below (l := [s0, s1, s2, s3, s4, s5, s6, s7, s8]) HXn.out hb); have HB := Aside0.mk (HBo.out.trans (hb.mono HBo.out.size)); have HR := Aside0.mk (HRo.out.below hb); clear hb)
        | (go_at_call 15; (try rw [HMT.out]); refine (HDo.out _ lg HR.out (HT.out.below HB.out H9.out)).mono ?_; rintro e w5 ⟨rfl, hr, hbox, hb⟩; rw [HER.out]; have HXA := Aside0.mk (hbox _ _ HXA.out); have HR := Aside0.mk hr; have HB := Aside0.mk (HB.out.trans hb); clear hr hbox hb))
      obtain ⟨wz, hwz⟩ : ∃ w, w = w6.alloc (.cells #[.string t0, .string t1, .string t2, .string t3, .string t4, .string t5, .string t6, .string t7, .string t8] 29) := ⟨_, rfl⟩
      rw [← hwz] at HXB HXA2 HBz ⊢
      clear hwz e0 e1 e2 e3 e4 e5 e6 e7 e8
      have HFin := Aside0.mk (from_at HRg.out.1 hgt)
      obtain ⟨L, hL⟩ : ∃ L : List ByteArray, L = [s0, s1, s2, s3, s4, s5, s6, s7, s8] := ⟨_, rfl⟩
      have HIx := Aside0.mk (fun i hi w => index9 s0 s1 s2 s3 s4 s5 s6 s7 s8 i hi w)
      rw [← hL] at HIx
      have HLs := Aside0.mk (show arrA st = L by rw [hL]; exact HSv.out)
      have HXAL := Aside0.mk (show wz.heap[w2.heap.size]? = some (boxS L) by rw [hL]; exact HXA2.out)
      have HL9 := Aside0.mk (show L.length = 9 by rw [hL]; rfl)
      clear hL hf hadd hit
      go_loopw [14, 66] (fun v14 v66 wr => ∃ k : Nat, k ≤ 9 ∧ v66 = .int .i64 k ∧ v14 = .int .i64 (fromV L name k) ∧ wz = wr) (fun _ v66 _ => 9 - (intOf v66).toNat)
      case atStart => exact ⟨0, by decide, rfl, rfl, rfl⟩
      case round =>
        obtain ⟨k, hk, rfl, rfl, rfl⟩ := hrel
        by_cases hk9 : k < 9
        · have i1 : (k : Int) < 9 := by omega
          have ix := fun w => HIx.out k hk9 w
          have HKk := Aside0.mk (wrap_step k (by omega))
          obtain ⟨x, hx⟩ : ∃ x, x = L.getD k emp := ⟨_, rfl⟩
          rw [← hx] at ix
          obtain ⟨v, hv⟩ : ∃ v, v = fromV L name k := ⟨_, rfl⟩
          rw [← hv]
          have hst : fromV L name (k + 1) = if x ≠ emp ∧ x = name then (k : Int) else v := by rw [fromV, ← hx, ← hv]
          clear hx hv
          by_cases hxe : x = emp
          · rw [if_neg (fun h => h.1 hxe)] at hst
            have HSt := Aside0.mk hst
            subst hxe
            have he0 : emp.toList = [] := ByteArray.toList_empty
            clear hst
            go_wp2_with (fail)
            exact ⟨⟨k + 1, by omega, by first | rw [HKk.out] | rfl, by rw [HSt.out], by first | rfl | trivial⟩, by first | (rw [HKk.out]; show 9 - (((k + 1 : Nat) : Int)).toNat < 9 - ((k : Nat) : Int).toNat; rw [Int.toNat_natCast, Int.toNat_natCast]; omega) | (simp [intOf]; omega)⟩
          · have j4 := toList_of_ne hxe
            have j5 : x.toList.isEmpty = false := isEmpty_no j4
            by_cases hxn : x = name
            · rw [if_pos ⟨hxe, hxn⟩] at hst
              have HSt := Aside0.mk hst
              subst hxn
              clear hst
              go_wp2_with (fail)
              exact ⟨⟨k + 1, by omega, by first | rw [HKk.out] | rfl, by rw [HSt.out], by first | rfl | trivial⟩, by first | (rw [HKk.out]; show 9 - (((k + 1 : Nat) : Int)).toNat < 9 - ((k : Nat) : Int).toNat; rw [Int.toNat_natCast, Int.toNat_natCast]; omega) | (simp [intOf]; omega)⟩
            · rw [if_neg (fun h => hxn h.2)] at hst
              have HSt := Aside0.mk hst
              have j6 : (x.toList == name.toList) = false := beq_eq_false_iff_ne.2 (fun h => hxn (toList_inj h))
              clear hst hxe
              go_wp2_with (fail)
              exact ⟨⟨k + 1, by omega, by first | rw [HKk.out] | rfl, by rw [HSt.out], by first | rfl | trivial⟩, by first | (rw [HKk.out]; show 9 - (((k + 1 : Nat) : Int)).toNat < 9 - ((k : Nat) : Int).toNat; rw [Int.toNat_natCast, Int.toNat_natCast]; omega) | (simp [intOf]; omega)⟩
        · have i1 : ¬ (k : Int) < 9 := by omega
          obtain rfl : k = 9 := by omega
          rw [show fromV L name 9 = ((old : Nat) : Int) from (congrArg (fun z => fromV z name 9) HLs.out.symm).trans HFin.out]
          clear i1
          have o0 : (0 : Int) ≤ (old : Int) := by omega
          have o1 : (old : Int) < 9 := by omega
          have o2 : ¬ (old : Int) < 1 := by omega
          have o3 : ((old : Int) == (cc : Int)) = false := beq_eq_false_iff_ne.2 (by omega)
          have p0 : (0 : Int) ≤ (cc : Int) := by omega
          have p1 : (cc : Int) < 9 := by have := HCC.out; omega
          obtain ⟨y, hy⟩ : ∃ y, y = L.getD cc emp := ⟨_, rfl⟩
          have hoc9 : cc < 9 := by have := HCC.out; omega
          have ho9 : old < 9 := by omega
          have HOl := Aside0.mk ho9
          have HOc := Aside0.mk hoc9
          have HFinL := Aside0.mk (show (L.set old y).set cc name = [t0, t1, t2, t3, t4, t5, t6, t7, t8] by rw [hy, ← HLs.out, ← HTv.out]; exact harr.symm)
          have ey := boxS_cell HXAL.out HL9.out hoc9
          rw [← hy] at ey
          have eo := boxS_cell HXAL.out HL9.out ho9
          have zo := blk_frozen HXAL.out old
          clear hy harr hoc ho1 ho8 hgt her hoc9 ho9
          go_upto_region 24 with (fail)
          obtain ⟨w7, hw7⟩ : ∃ w, w = wz.setCell ⟨w2.heap.size, old, none⟩ (.string y) := ⟨_, rfl⟩
          have HX7 := Aside0.mk (show w7.heap[w2.heap.size]? = some (boxS (L.set old y)) by rw [hw7]; exact boxS_set HXAL.out old y)
          have HY7 := Aside0.mk (show w7.heap[w6.heap.size]? = some (boxS [t0, t1, t2, t3, t4, t5, t6, t7, t8]) by rw [hw7]; exact (Below.heap_setCell _ _ _ _ (fun e => HGne.out e.symm)).trans HXB.out)
          have HB7 := Aside0.mk (show Below W.heap.size W w7 by rw [hw7]; exact HBz.out.setCell HGlo.out _)
          rw [← hw7]
          clear hw7 ey eo zo
          have ec := boxS_cell HX7.out (by rw [List.length_set]; exact HL9.out) HOc.out
          have zc := blk_frozen HX7.out cc
          go_upto_region 25 with (fail)
          obtain ⟨w8, hw8⟩ : ∃ w, w = w7.setCell ⟨w2.heap.size, cc, none⟩ (.string name) := ⟨_, rfl⟩
          have HX8 := Aside0.mk (show w8.heap[w2.heap.size]? = some (boxS [t0, t1, t2, t3, t4, t5, t6, t7, t8]) by rw [hw8, ← HFinL.out]; exact boxS_set HX7.out cc name)
          have HY8 := Aside0.mk (show w8.heap[w6.heap.size]? = some (boxS [t0, t1, t2, t3, t4, t5, t6, t7, t8]) by rw [hw8]; exact (Below.heap_setCell _ _ _ _ (fun e => HGne.out e.symm)).trans HY7.out)
          have HBz := Aside0.mk (show Below W.heap.size W w8 by rw [hw8]; exact HB7.out.setCell HGlo.out _)
          rw [← hw8]
          clear hw8 ec zc o0 o1 o2 o3 p0 p1
          have e0 := boxS_cell (l := [t0, t1, t2, t3, t4, t5, t6, t7, t8]) HX8.out rfl (i := 0) (by decide)
          have f0 := boxS_cell (l := [t0, t1, t2, t3, t4, t5, t6, t7, t8]) HY8.out rfl (i := 0) (by decide)
          have e1 := boxS_cell (l := [t0, t1, t2, t3, t4, t5, t6, t7, t8]) HX8.out rfl (i := 1) (by decide)
          have f1 := boxS_cell (l := [t0, t1, t2, t3, t4, t5, t6, t7, t8]) HY8.out rfl (i := 1) (by decide)
          have e2 := boxS_cell (l := [t0, t1, t2, t3, t4, t5, t6, t7, t8]) HX8.out rfl (i := 2) (by decide)
          have f2 := boxS_cell (l := [t0, t1, t2, t3, t4, t5, t6, t7, t8]) HY8.out rfl (i := 2) (by decide)
          have e3 := boxS_cell (l := [t0, t1, t2, t3, t4, t5, t6, t7, t8]) HX8.out rfl (i := 3) (by decide)
          have f3 := boxS_cell (l := [t0, t1, t2, t3, t4, t5, t6, t7, t8]) HY8.out rfl (i := 3) (by decide)
          have e4 := boxS_cell (l := [t0, t1, t2, t3, t4, t5, t6, t7, t8]) HX8.out rfl (i := 4) (by decide)
          have f4 := boxS_cell (l := [t0, t1, t2, t3, t4, t5, t6, t7, t8]) HY8.out rfl (i := 4) (by decide)
          have e5 := boxS_cell (l := [t0, t1, t2, t3, t4, t5, t6, t7, t8]) HX8.out rfl (i := 5) (by decide)
          have f5 := boxS_cell (l := [t0, t1, t2, t3, t4, t5, t6, t7, t8]) HY8.out rfl (i := 5) (by decide)
          have e6 := boxS_cell (l := [t0, t1, t2, t3, t4, t5, t6, t7, t8]) HX8.out rfl (i := 6) (by decide)
          have f6 := boxS_cell (l := [t0, t1, t2, t3, t4, t5, t6, t7, t8]) HY8.out rfl (i := 6) (by decide)
          have e7 := boxS_cell (l := [t0, t1, t2, t3, t4, t5, t6, t7, t8]) HX8.out rfl (i := 7) (by decide)
          have f7 := boxS_cell (l := [t0, t1, t2, t3, t4, t5, t6, t7, t8]) HY8.out rfl (i := 7) (by decide)
          have e8 := boxS_cell (l := [t0, t1, t2, t3, t4, t5, t6, t7, t8]) HX8.out rfl (i := 8) (by decide)
          have f8 := boxS_cell (l := [t0, t1, t2, t3, t4, t5, t6, t7, t8]) HY8.out rfl (i := 8) (by decide)
          have hq := fun w => eql9 t0 t1 t2 t3 t4 t5 t6 t7 t8 w
          go_wp2_with (go_at_call 13; refine (awake_calls _ (HT.out.below HBz.out H9.out)).mono ?_; rintro e we ⟨rfl, hbe⟩; have HBe := Aside0.mk (HBz.out.trans (hbe.mono HBz.out.size)); clear hbe)
          go_ret
          exact ⟨rfl, HBe.out⟩
end
end Go.Proofs.YtoeeipkiadbnpaaGreatDoor.Lib10
end
