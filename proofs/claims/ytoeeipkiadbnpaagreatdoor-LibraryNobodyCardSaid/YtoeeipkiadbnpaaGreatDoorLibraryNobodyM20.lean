/- Texts that the proof of LibraryNobody needs, put together in build order by this session's program (wip/tools/claimtrim.py). -/
import Derived.Test.YtoeeipkiadbnpaaGreatDoorLibraryNobodyM19
import Derived.Lib.ItoaLen
section
namespace Go.Proofs.YtoeeipkiadbnpaaGreatDoor.Lib10
open Go.RowKit Go.Proofs.YtoeeipkiadbnpaaGreatDoorW.PrintWords Go.Proofs.YtoeeipkiadbnpaaGreatDoorW.PrintLast Go.Proofs.YtoeeipkiadbnpaaGreatDoorW.PrintMore
set_option linter.unusedVariables false
def itoaB (n : Int) : ByteArray := ⟨(Lib.itoa n).toArray⟩
def pieceV (ch : List (Str × Int)) (n : ByteArray) : ByteArray := ((⟨#[32]⟩ ++ itoaB (chairOf ch n)) ++ ⟨#[58]⟩) ++ n
def seatedV (ch : List (Str × Int)) (l : List ByteArray) : ByteArray := l.foldl (fun o n => o ++ pieceV ch n) ⟨#[99, 104, 97, 105, 114, 115]⟩
/-- What seated gives: the names by their chairs. -/
def SeatedPost (ch : List (Str × Int)) (e : Ending) : Prop := ∃ d : Array Nm, e = .returned (.tuple #[.string (seatedV ch (d.toList.map (·.1))), .int .i64 0]) ∧ (d.toList.map (fun x => x.1.data.toList)).Perm (keysOf ch) ∧ «Sort».SortedIn (ltOf (cmpN ch)) 0 ch.length d
theorem seatedV_snoc (ch : List (Str × Int)) (l : List ByteArray) (n : ByteArray) : seatedV ch (l ++ [n]) = seatedV ch l ++ pieceV ch n := by simp [seatedV]
section
set_option maxRecDepth 100000
set_option maxHeartbeats 2000000
theorem seated_calls {W : World} {g b1 b2 b3 : Nat} {m1 m3 : List (Str × Value)} {ch : List (Str × Int)} (h : StRec W g b1 b2 b3 m1 (ints ch) m3) (v1 v2 : Value) (hl : ch.length ≤ 12) (hne : ch ≠ []) (hk : ∀ k ∈ keysOf ch, k.length ≤ 100) (hT : Tabs W) (hc : ∀ n, -9223372036854775808 ≤ chairOf ch n ∧ chairOf ch n ≤ 9223372036854775807) :
    Calls Tryz.prog 83 #[ptr g, .agg #[v1, v2]] W fun e w' => SeatedPost ch e ∧ Below W.heap.size W w' := by
  have H := Aside0.mk h
  obtain ⟨W1, hW1⟩ : ∃ W1, W1 = (W.alloc (.cells #[ptr g] 75)).alloc (.cells #[v1, v2] 110) := ⟨_, rfl⟩
  have hb1 : Below W.heap.size W W1 := by rw [hW1]; exact below_alloc (below_alloc (Below.refl _ _) _) _
  have hst1 := h.below hb1
  have q0 : W1.cell? ⟨W.heap.size, 0, none⟩ = some (ptr g) := by
    rw [hW1, cell_alloc (by simp) 0]
    exact (blk_cell (World.alloc_heap_new W (.cells #[ptr g] 75)) 0).trans rfl
  have q1 : W1.cell? ⟨g, 1, none⟩ = some (.map (some b2)) := (blk_cell hst1.cells 1).trans rfl
  have HK := Aside0.mk (keys_calls b2 W1)
  have HS := Aside0.mk (sortedFunc_calls q0 q1 hst1.p2 hl hne hk)
  have HB1 := Aside0.mk hb1
  have HP := Aside0.mk (And.intro hl (And.intro hne hk))
  have q0x := q0
  have q1x := q1
  rw [hW1] at q0x q1x
  have hW2 := hW1.symm
  have HT := Aside0.mk (And.intro hT hc)
  have HM := Aside0.mk hst1.p2
  clear h hl hne hk hst1 hb1 hW1 hT hc
  go_enter Tryz.func83, Tryz.ntmps83
  go_wp2_with (first | (go_at_call 129; (try rw [hW2]); refine HK.out.mono ?_; rintro e w ⟨rfl, rfl⟩) | (go_at_call 128; refine HS.out.mono ?_; rintro e w2 ⟨blk, cap, d, rfl, hd, hp, hsd, hH, hb⟩; have HD := Aside0.mk (And.intro hd (And.intro hp (And.intro hsd (And.intro hH hb)))); clear hd hp hsd hH hb))
  have HBw := Aside0.mk (HB1.out.trans (HD.out.2.2.2.2.mono HB1.out.size))
  have q0w := cell_below q0 HD.out.2.2.2.2
  have q1w := cell_below q1 HD.out.2.2.2.2
  have HMw := Aside0.mk (HM.out.below HD.out.2.2.2.2)
  obtain ⟨n, hn⟩ : ∃ n, n = ch.length := ⟨_, rfl⟩
  rw [← hn]
  have HN := Aside0.mk hn
  have hn12 : n ≤ 12 := by rw [hn]; exact HP.out.1
  clear q0x q1x q0 q1 hW2 hn
  obtain ⟨nm, hnm⟩ : ∃ nm, nm = d.toList.map (·.1) := ⟨_, rfl⟩
  have HNm := Aside0.mk hnm
  clear hnm
  go_loopw [7, 19] (fun v7 v19 wr => ∃ k : Nat, k ≤ n ∧ v19 = .int .i64 k ∧ v7 = .string (seatedV ch (nm.take k)) ∧ Aside0 ((seatedV ch (nm.take k)).size ≤ 6 + 300 * k) ∧ Aside0 (Below w2.heap.size w2 wr)) (fun _ v19 _ => n - (intOf v19).toNat)
  case atStart => exact ⟨0, Nat.zero_le _, rfl, rfl, ⟨by rw [List.take_zero]; exact Nat.le_refl 6⟩, ⟨Below.refl _ _⟩⟩
  case round =>
    obtain ⟨k, hk, rfl, rfl, hsz, hbl⟩ := hrel
    obtain ⟨sv, hsv⟩ : ∃ sv, sv = seatedV ch (nm.take k) := ⟨_, rfl⟩
    rw [← hsv] at hsz ⊢
    have HSV := Aside0.mk hsv
    clear hsv
    have hszk := hsz.out
    by_cases hkn : k < n
    · have i0 : (0 : Int) ≤ (k : Int) := by omega
      have i1 : (k : Int) < (n : Int) := by omega
      have hkd : k < d.size := by rw [HD.out.1, ← HN.out]; exact hkn
      have hq := (HD.out.2.2.2.1 k hkd).1
      rw [Nat.zero_add] at hq
      have k0 := cell_below hq hbl.out
      have k1 := cell_below q0w hbl.out
      have k2 := cell_below q1w hbl.out
      obtain ⟨x, hx⟩ : ∃ x, x = d[k]! := ⟨_, rfl⟩
      rw [← hx] at k0
      have hlk := look_chair (HMw.out.below hbl.out) x.2 0
      have HX := Aside0.mk hx
      obtain ⟨c, hc⟩ : ∃ c, c = chairOf ch x.1 := ⟨_, rfl⟩
      rw [← hc] at hlk
      have HI := Aside0.mk (itoa_calls c wr (HT.out.1.below (HBw.out.trans (hbl.out.mono HBw.out.size)) HT.out.1.low) (by rw [hc]; exact (HT.out.2 _).1) (by rw [hc]; exact (HT.out.2 _).2))
      have HC := Aside0.mk hc
      have hil := Lib.itoa_length_le c (by rw [hc]; exact (HT.out.2 _).1) (by rw [hc]; exact (HT.out.2 _).2)
      have hxs := x.2
      have hlk2 : (Instr.lookup 125 (.map (some b2)) (.string x.1) false).run Tryz.prog wr = .ok (.int .i64 c) wr := hlk
      clear hq hx hc hlk
      replace i0 := eq_true i0
      replace i1 := eq_true i1
      go_wp2_with (go_at_call 16; refine HI.out.mono ?_; rintro e w5 ⟨rfl, hb5⟩; have HB5 := Aside0.mk hb5; clear hb5)
      have e1 : sv ++ (⟨#[32]⟩ ++ ⟨(Lib.itoa c).toArray⟩ ++ ⟨#[58]⟩ ++ x.1) = seatedV ch (nm.take (k + 1)) := by
        have h1 : nm[k]? = some x.1 := by
          rw [HNm.out, List.getElem?_map, Array.getElem?_toList, HX.out, getElem!_pos d k hkd, Array.getElem?_eq_getElem hkd]
          rfl
        rw [List.take_add_one, h1, Option.toList_some, seatedV_snoc, ← HSV.out]
        unfold pieceV itoaB
        rw [← HC.out]
      refine ⟨⟨k + 1, by omega, by first | rfl | simp, by rw [e1], ⟨?_⟩, ⟨hbl.out.trans (HB5.out.mono hbl.out.size)⟩⟩, by simp [intOf]; omega⟩
      rw [← e1]
      simp only [ByteArray.size_append]
      have : (⟨(Lib.itoa c).toArray⟩ : ByteArray).size = (Lib.itoa c).length := by show (Lib.itoa c).toArray.size = _; simp
      have h32 : (⟨#[32]⟩ : ByteArray).size = 1 := rfl
      have h58 : (⟨#[58]⟩ : ByteArray).size = 1 := rfl
      omega
    · have i1 : ¬ (k : Int) < (n : Int) := by omega
      have hkn2 : k = n := by omega
      subst hkn2
      go_wp2_with fail
      go_ret2
      refine ⟨⟨d, ?_, HD.out.2.1, HD.out.2.2.1⟩, HBw.out.trans (hbl.out.mono HBw.out.size)⟩
      have h1 : nm.take k = nm := List.take_of_length_le (by have h2 := HD.out.1; have h3 := HN.out; rw [HNm.out]; simp; omega)
      rw [← HNm.out, ← h1, ← HSV.out]
      rfl
end
end Go.Proofs.YtoeeipkiadbnpaaGreatDoor.Lib10
end

section
namespace Go.Proofs.YtoeeipkiadbnpaaGreatDoor.Lib10
open Go.RowKit Go.Proofs.YtoeeipkiadbnpaaGreatDoorW.PrintWords Go.Proofs.YtoeeipkiadbnpaaGreatDoorW.PrintLast Go.Proofs.YtoeeipkiadbnpaaGreatDoorW.PrintMore
set_option linter.unusedVariables false
abbrev wChairs : ByteArray := ⟨#[99, 104, 97, 105, 114, 115]⟩
section
set_option maxRecDepth 100000
set_option maxHeartbeats 2000000
theorem ask_chairs {S : Nat → Prop} {W : World} {g : Nat} {m1 m3 : List (Str × Value)} {ch : List (Str × Int)} (h : IsSt S W g m1 (ints ch) m3) (text : ByteArray) (hs : text.size < 4294967281) (hword : headW text = wChairs) (hw : (wordsB text).length = 1) (hline : isLineB text = true) (hl : ch.length ≤ 12) (hne : ch ≠ []) (hk : ∀ k ∈ keysOf ch, k.length ≤ 100) (hT : Tabs W) (hc : ∀ n, -9223372036854775808 ≤ chairOf ch n ∧ chairOf ch n ≤ 9223372036854775807) :
    Calls Tryz.prog 59 #[ptr g, .string text] W fun e w' => SeatedPost ch e ∧ Below W.heap.size W w' := by
  obtain ⟨b1, b2, b3, _, _, _, _, _, _, _, hr⟩ := h
  have HSt := Aside0.mk hr
  have HT := Aside0.mk hT
  have HC := Aside0.mk (fun w (hT : Tabs w) => cut_calls text w hT hs)
  rw [hword] at HC
  have HR := Aside0.mk (fun w (hT : Tabs w) => read_ok0 ByteArray.empty text w hT hs rfl hw hline)
  have HS := Aside0.mk (fun w (hst : StRec w g b1 b2 b3 m1 (ints ch) m3) (hT : Tabs w) v1 v2 => seated_calls hst v1 v2 hl hne hk hT hc)
  have HB0 := Aside0.mk (below_alloc (Below.refl W.heap.size W) (.cells #[ptr g] 75))
  have HC0 := Aside0.mk (HC.out _ (HT.out.below HB0.out HT.out.low))
  clear hr hT hword hw hline hl hne hk hc
  go_enter Tryz.func59, Tryz.ntmps59
  go_wp2_with (first | (go_at_call 37; refine HC0.out.mono ?_; rintro e w1 ⟨⟨s1, s2, rfl⟩, hb⟩; have HB1 := Aside0.mk (HB0.out.trans (hb.mono HB0.out.size)); have q0 := cell_below ((blk_cell (World.alloc_heap_new W (.cells #[ptr g] 75)) 0).trans rfl) hb; have HB2 := Aside0.mk (fun o => below_alloc HB1.out o); have q0a := fun o => cell_below q0 (below_alloc (Below.refl w1.heap.size w1) o); clear hb) | (go_at_call 72; refine (HR.out _ (HT.out.below (HB2.out _) HT.out.low)).mono ?_; rintro e w3 ⟨rfl, hb⟩; have HB3 := Aside0.mk ((HB2.out _).trans (hb.mono (HB2.out _).size)); have HB4 := Aside0.mk (fun o => below_alloc HB3.out o); have HS4 := Aside0.mk (fun o v1 v2 => HS.out _ (HSt.out.below (HB4.out o)) (HT.out.below (HB4.out o) HT.out.low) v1 v2); clear hb) | (go_at_call 83; refine (HS4.out _ _ _).mono ?_; rintro e w5 ⟨⟨d, rfl, hp⟩, hb⟩; have HB5 := Aside0.mk ((HB4.out _).trans (hb.mono (HB4.out _).size)); have HP5 := Aside0.mk hp; clear hb hp))
  go_ret2
  exact ⟨⟨d, rfl, HP5.out.1, HP5.out.2⟩, HB5.out⟩
end
end Go.Proofs.YtoeeipkiadbnpaaGreatDoor.Lib10
end

section
namespace Go.Proofs.YtoeeipkiadbnpaaGreatDoor.Lib10
open Go.RowKit Go.Proofs.YtoeeipkiadbnpaaGreatDoorW.PrintWords Go.Proofs.YtoeeipkiadbnpaaGreatDoorW.PrintLast Go.Proofs.YtoeeipkiadbnpaaGreatDoorW.PrintMore
set_option linter.unusedVariables false
variable {B : Nat}
section
set_option maxRecDepth 100000
set_option maxHeartbeats 2000000
theorem libAsk_chairs {W : World} {lg sg rg : Nat} {vj : Value} {lines : List ByteArray} {m1 m3 : List (Str × Value)} {ch : List (Str × Int)} (h : LibIs B W lg sg rg vj lines m1 m3 ch) (text : ByteArray) (hs : text.size < 4294967281) (hword : headW text = wChairs) (hw : (wordsB text).length = 1) (hline : isLineB text = true) (hl : ch.length ≤ 12) (hne : ch ≠ []) (hk : ∀ k ∈ keysOf ch, k.length ≤ 100) (hT : Tabs W) (hc : ∀ n, -9223372036854775808 ≤ chairOf ch n ∧ chairOf ch n ≤ 9223372036854775807) :
    Calls Tryz.prog 34 #[ptr lg, .string text] W fun e w' => SeatedPost ch e ∧ Below W.heap.size W w' := by
  have HU := Aside0.mk (unmade_calls h.cells)
  have HA := Aside0.mk (ask_chairs h.st text hs hword hw hline hl hne hk hT hc)
  have q0 : W.cell? ⟨lg, 0, none⟩ = some (ptr sg) := (blk_cell h.cells 0).trans rfl
  clear h hword hw hline hl hne hk hT hc
  go_enter Tryz.func34, Tryz.ntmps34
  go_wp2_with (first | (go_at_call 35; refine HU.out.mono ?_; rintro e w' ⟨rfl, rfl⟩) | (go_at_call 59; refine HA.out.mono ?_; rintro e w5 ⟨⟨d, rfl, hp⟩, hb⟩; have HB5 := Aside0.mk hb; have HP5 := Aside0.mk hp; clear hb hp))
  go_ret2
  exact ⟨⟨d, rfl, HP5.out.1, HP5.out.2⟩, HB5.out⟩
end
end Go.Proofs.YtoeeipkiadbnpaaGreatDoor.Lib10
end

section
namespace Go.Proofs.YtoeeipkiadbnpaaGreatDoor.Lib10
open Go.RowKit Go.Proofs.YtoeeipkiadbnpaaGreatDoorW.PrintWords
abbrev lineA : ByteArray := ⟨#[112, 108, 97, 121, 101, 114, 32, 97, 100, 97, 32, 49]⟩
abbrev nAda : ByteArray := ⟨#[97, 100, 97]⟩
theorem lineA_head : headW lineA = wPlayer := by kernel_rfl
theorem lineA_words : wordsB lineA = [wPlayer, nAda, ⟨#[49]⟩] := by kernel_rfl
theorem lineA_line : isLineB lineA = true := by kernel_rfl
theorem lineA_sort : sortV [110, 100] (wordsB lineA).tail = some ([nAda], [1]) := by rw [lineA_words]; kernel_rfl
theorem lineC_head : headW wChairs = wChairs := by kernel_rfl
theorem lineC_words : wordsB wChairs = [wChairs] := by kernel_rfl
theorem lineC_line : isLineB wChairs = true := by kernel_rfl
theorem lineA_E : playerE [] nAda 1 = 0 := by kernel_rfl
theorem lineA_fit : (writtenV lineA).length = 26 := by rw [writtenV_length]; rfl
theorem seatA : seatedV [(nAda.data.toList, 1)] [nAda] = ⟨#[99, 104, 97, 105, 114, 115, 32, 49, 58, 97, 100, 97]⟩ := by kernel_rfl
end Go.Proofs.YtoeeipkiadbnpaaGreatDoor.Lib10
end

section
namespace Go.Proofs.YtoeeipkiadbnpaaGreatDoor.Lib10
open Go.RowKit Go.Proofs.YtoeeipkiadbnpaaGreatDoorW.PrintWords Go.Proofs.YtoeeipkiadbnpaaGreatDoorW.PrintLast Go.Proofs.YtoeeipkiadbnpaaGreatDoorW.PrintMore
set_option linter.unusedVariables false
variable {B : Nat}
section
set_option maxRecDepth 100000
set_option maxHeartbeats 2000000
theorem fine100 : Fine (newReel 100) := ⟨by decide, by decide, by decide, by decide, by decide⟩
theorem reel100 {w : World} {rg : Nat} (h : Rec w rg (.slice none 0 0) (newReel 100)) (h9 : B ≤ rg) : ReelIs B w rg none 0 0 (newReel 100) := ⟨h, h9, Kd.R_nil _ _ _ _ _, fine100⟩
theorem libDoA {w : World} {lg sg rg : Nat} {vj : Value} (hL : LibIs B w lg sg rg vj [] [] [] []) (hR : ReelIs B w rg none 0 0 (newReel 100)) (hT : Tabs w) : Calls Tryz.prog 15 #[ptr lg, .string lineA] w fun e w' => e = .returned (.tuple #[.string wPlayer, .int .i64 0]) ∧ (∃ sg' vj', LibIs B w' lg sg' rg vj' [lineA] [] [] [(nAda.data.toList, 1)]) ∧ Below B w w' := by
  obtain ⟨A4, c4, rfl⟩ := Kd.R_slice hL.jr
  refine (libDo_ok (lines := []) hL hR rfl rfl (fun _ hl => by cases hl) (by decide) (by decide) (do_player hL.st hT (by decide) lineA (by decide) lineA_head (by rw [lineA_words]; rfl) lineA_line nAda 1 (by decide) lineA_sort lineA_E) (by rw [lineA_fit]; decide) (by kernel_rfl)).mono ?_
  rintro e w' ⟨rfl, h1, _, h3⟩
  exact ⟨rfl, h1, h3⟩
theorem chair_range (n : ByteArray) : -9223372036854775808 ≤ chairOf [(nAda.data.toList, 1)] n ∧ chairOf [(nAda.data.toList, 1)] n ≤ 9223372036854775807 := by
  unfold chairOf
  rw [get_cons]
  split
  · exact ⟨by decide, by decide⟩
  · rw [get_nil]; exact ⟨by decide, by decide⟩
theorem libAskA {w : World} {lg sg rg : Nat} {vj : Value} {lines : List ByteArray} (hL : LibIs B w lg sg rg vj lines [] [] [(nAda.data.toList, 1)]) (hT : Tabs w) : Calls Tryz.prog 34 #[ptr lg, .string wChairs] w fun e w' => e = .returned (.tuple #[.string ⟨#[99, 104, 97, 105, 114, 115, 32, 49, 58, 97, 100, 97]⟩, .int .i64 0]) ∧ Below w.heap.size w w' := by
  refine (libAsk_chairs hL wChairs (by decide) lineC_head (by rw [lineC_words]; rfl) lineC_line (by decide) (by decide) (by decide) hT chair_range).mono ?_
  rintro e w' ⟨⟨d, rfl, hp, _⟩, hb⟩
  have h1 : d.toList.map (fun x => x.1.data.toList) = [nAda.data.toList] := List.perm_singleton.1 hp
  have h2 : d.toList.map (·.1) = [nAda] := by
    cases hd : d.toList with
    | nil => rw [hd] at h1; cases h1
    | cons x l =>
      rw [hd] at h1
      simp only [List.map_cons, List.cons.injEq] at h1
      obtain ⟨h3, h4⟩ := h1
      have h5 : l = [] := List.map_eq_nil_iff.1 h4
      subst h5
      have h6 : x.1 = nAda := ByteArray.ext (Array.toList_inj.1 h3)
      simp [h6]
  rw [h2, seatA]
  exact ⟨rfl, hb⟩
theorem awake_calls (W : World) (hT : Tabs W) : Calls Tryz.prog 13 #[] W fun e w' => e = .returned (.bool true) ∧ Below W.heap.size W w' := by
  have HT := Aside0.mk hT
  have h9 := hT.low
  clear hT
  go_enter Tryz.func13, Tryz.ntmps13
  go_wp2_with (first | (go_at_call 17; refine (newReel_ok 100 W (by decide) (by decide)).mono ?_; rintro e w1 ⟨rfl, hr, hb⟩; have HR1 := Aside0.mk hr; have HB1 := Aside0.mk hb; have HL1 := Aside0.mk hb.size; clear hr hb) | (go_at_call 18; refine (open_ok (n := 0) (lines := []) (m1 := []) (m3 := []) (ch := []) HR1.out (by decide) rfl (Nat.le_refl 0) [] (fun W' _ => read_nil 0 W') rfl (Nat.le_refl 0) (fun _ hl => by cases hl) (by decide)).mono ?_; rintro e w2 ⟨rfl, ⟨sg, vj, hlib⟩, hrc, hk, hb⟩; have HL2 := Aside0.mk (hlib.is (B := W.heap.size) HL1.out (Nat.le_refl _)); have HR2 := Aside0.mk hrc; have HB2 := Aside0.mk (HB1.out.trans hb); clear hlib hrc hk hb) | (go_at_call 15; refine (libDoA HL2.out (reel100 HR2.out (Nat.le_refl _)) (HT.out.below HB2.out h9)).mono ?_; rintro e w3 ⟨rfl, ⟨sg', vj', hl⟩, hb⟩; have HL3 := Aside0.mk hl; have HB3 := Aside0.mk (HB2.out.trans hb); clear hl hb) | (go_at_call 34; refine (libAskA HL3.out (HT.out.below HB3.out h9)).mono ?_; rintro e w4 ⟨rfl, hb⟩; have HB4 := Aside0.mk (HB3.out.trans (hb.mono HB3.out.size)); clear hb))
  go_ret
  exact ⟨rfl, HB4.out⟩
end
end Go.Proofs.YtoeeipkiadbnpaaGreatDoor.Lib10
end

section
namespace Go.Proofs.YtoeeipkiadbnpaaGreatDoor.Lib10
open Go.RowKit Go.Proofs.YtoeeipkiadbnpaaGreatDoorW.PrintWords Go.Proofs.YtoeeipkiadbnpaaGreatDoorW.PrintLast Go.Proofs.YtoeeipkiadbnpaaGreatDoorW.PrintMore
set_option linter.unusedVariables false
/-- None says yes. -/
def NoneSays (W : World) (p : Value) : Prop := Calls Tryz.prog 47 #[p] W fun e w' => e = .returned (.bool true) ∧ W = w'
section
set_option maxRecDepth 100000
theorem ready_none {W : World} {p : Value} (h : NoneSays W p) : Calls Tryz.prog 45 #[p] W fun e w' => e = .returned (.int .i64 1) ∧ W = w' := by
  have H := Aside0.mk h
  clear h
  go_enter Tryz.func45, Tryz.ntmps45
  go_wp2_with (go_at_call 47; refine (show Calls Tryz.prog 47 #[p] W _ from H.out).mono ?_; rintro e w' ⟨rfl, rfl⟩)
  go_ret
  exact ⟨rfl, rfl⟩
theorem power_none {W : World} {p : Value} (h : NoneSays W p) : Calls Tryz.prog 21 #[p] W fun e w' => (∃ u, e = .returned u) ∧ W = w' := by
  have H := Aside0.mk h
  clear h
  go_enter Tryz.func21, Tryz.ntmps21
  go_wp2_with (go_at_call 47; refine (show Calls Tryz.prog 47 #[p] W _ from H.out).mono ?_; rintro e w' ⟨rfl, rfl⟩)
  go_end0
  exact ⟨⟨_, rfl⟩, rfl⟩
theorem bytes_none {W : World} {p : Value} (h : NoneSays W p) : Calls Tryz.prog 22 #[p] W fun e w' => e = .returned (.slice none 0 0) ∧ W = w' := by
  have H := Aside0.mk h
  clear h
  go_enter Tryz.func22, Tryz.ntmps22
  go_wp2_with (go_at_call 47; refine (show Calls Tryz.prog 47 #[p] W _ from H.out).mono ?_; rintro e w' ⟨rfl, rfl⟩)
  go_ret
  exact ⟨rfl, rfl⟩
theorem open_none {W : World} {p : Value} (h : NoneSays W p) : Calls Tryz.prog 18 #[p] W fun e w' => e = .returned (.tuple #[.pointer none, .int .i64 1]) ∧ W = w' := by
  have H := Aside0.mk (ready_none h)
  clear h
  go_enter Tryz.func18, Tryz.ntmps18
  go_wp2_with (go_at_call 45; refine H.out.mono ?_; rintro e w' ⟨rfl, rfl⟩)
  go_ret2
  exact ⟨rfl, rfl⟩
theorem append_none {W : World} {p v : Value} (h : NoneSays W p) : Calls Tryz.prog 31 #[p, v] W fun e w' => e = .returned (.int .i64 1) ∧ W = w' := by
  have H := Aside0.mk (ready_none h)
  clear h
  go_enter Tryz.func31, Tryz.ntmps31
  go_wp2_with (go_at_call 45; refine H.out.mono ?_; rintro e w' ⟨rfl, rfl⟩)
  go_ret
  exact ⟨rfl, rfl⟩
end
end Go.Proofs.YtoeeipkiadbnpaaGreatDoor.Lib10
end

section
namespace Go.Proofs.YtoeeipkiadbnpaaGreatDoor.Lib10
open Go.RowKit Go.Proofs.YtoeeipkiadbnpaaGreatDoorW.PrintWords Go.Proofs.YtoeeipkiadbnpaaGreatDoorW.PrintLast Go.Proofs.YtoeeipkiadbnpaaGreatDoorW.PrintMore
set_option linter.unusedVariables false
section
set_option maxRecDepth 100000
theorem flip_none {W : World} {p : Value} (i b : Int) (h : NoneSays W p) : Calls Tryz.prog 23 #[p, .int .i64 i, .int .i64 b] W fun e w' => (∃ u, e = .returned u) ∧ W = w' := by
  have H := Aside0.mk h
  clear h
  go_enter Tryz.func23, Tryz.ntmps23
  go_wp2_with (go_at_call 47; refine (show Calls Tryz.prog 47 #[p] W _ from H.out).mono ?_; rintro e w' ⟨rfl, rfl⟩)
  go_end0
  exact ⟨⟨_, rfl⟩, rfl⟩
theorem fuse_none {W : World} {p : Value} (k : Int) (h : NoneSays W p) : Calls Tryz.prog 19 #[p, .int .i64 k] W fun e w' => (∃ u, e = .returned u) ∧ W = w' := by
  have H := Aside0.mk h
  clear h
  go_enter Tryz.func19, Tryz.ntmps19
  go_wp2_with (go_at_call 47; refine (show Calls Tryz.prog 47 #[p] W _ from H.out).mono ?_; rintro e w' ⟨rfl, rfl⟩)
  go_end0
  exact ⟨⟨_, rfl⟩, rfl⟩
theorem put_none {W : World} {p : Value} (i b : Int) (h : NoneSays W p) : Calls Tryz.prog 32 #[p, .int .i64 i, .int .u8 b] W fun e w' => e = .returned (.int .i64 1) ∧ W = w' := by
  have H := Aside0.mk (ready_none h)
  clear h
  go_enter Tryz.func32, Tryz.ntmps32
  go_wp2_with (go_at_call 45; refine H.out.mono ?_; rintro e w' ⟨rfl, rfl⟩)
  go_ret
  exact ⟨rfl, rfl⟩
theorem cut_none {W : World} {p : Value} (n : Int) (h : NoneSays W p) : Calls Tryz.prog 33 #[p, .int .i64 n] W fun e w' => e = .returned (.int .i64 1) ∧ W = w' := by
  have H := Aside0.mk (ready_none h)
  clear h
  go_enter Tryz.func33, Tryz.ntmps33
  go_wp2_with (go_at_call 45; refine H.out.mono ?_; rintro e w' ⟨rfl, rfl⟩)
  go_ret
  exact ⟨rfl, rfl⟩
/-- Unmade says yes. -/
def UnmadeSays (W : World) (p : Value) : Prop := Calls Tryz.prog 35 #[p] W fun e w' => e = .returned (.bool true) ∧ W = w'
theorem libDo_unmade {W : World} {p : Value} (s : ByteArray) (h : UnmadeSays W p) : Calls Tryz.prog 15 #[p, .string s] W fun e w' => e = .returned (.tuple #[.string ByteArray.empty, .int .i64 1]) ∧ W = w' := by
  have H := Aside0.mk h
  clear h
  go_enter Tryz.func15, Tryz.ntmps15
  go_wp2_with (go_at_call 35; refine (show Calls Tryz.prog 35 #[p] W _ from H.out).mono ?_; rintro e w' ⟨rfl, rfl⟩)
  go_ret2
  exact ⟨rfl, rfl⟩
theorem libAsk_unmade {W : World} {p : Value} (s : ByteArray) (h : UnmadeSays W p) : Calls Tryz.prog 34 #[p, .string s] W fun e w' => e = .returned (.tuple #[.string ByteArray.empty, .int .i64 1]) ∧ W = w' := by
  have H := Aside0.mk h
  clear h
  go_enter Tryz.func34, Tryz.ntmps34
  go_wp2_with (go_at_call 35; refine (show Calls Tryz.prog 35 #[p] W _ from H.out).mono ?_; rintro e w' ⟨rfl, rfl⟩)
  go_ret2
  exact ⟨rfl, rfl⟩
theorem heal_unmade {W : World} {p : Value} (h : UnmadeSays W p) : Calls Tryz.prog 30 #[p] W fun e w' => e = .returned (.tuple #[.int .i64 0, .int .i64 1]) ∧ W = w' := by
  have H := Aside0.mk h
  clear h
  go_enter Tryz.func30, Tryz.ntmps30
  go_wp2_with (go_at_call 35; refine (show Calls Tryz.prog 35 #[p] W _ from H.out).mono ?_; rintro e w' ⟨rfl, rfl⟩)
  go_ret2
  exact ⟨rfl, rfl⟩
theorem journal_unmade {W : World} {p : Value} (h : UnmadeSays W p) : Calls Tryz.prog 12 #[p] W fun e w' => e = .returned (.slice none 0 0) ∧ W = w' := by
  have H := Aside0.mk h
  clear h
  go_enter Tryz.func12, Tryz.ntmps12
  go_wp2_with (go_at_call 35; refine (show Calls Tryz.prog 35 #[p] W _ from H.out).mono ?_; rintro e w' ⟨rfl, rfl⟩)
  go_ret
  exact ⟨rfl, rfl⟩
theorem stateOf_unmade {W : World} {p : Value} (h : UnmadeSays W p) : Calls Tryz.prog 27 #[p] W fun e w' => e = .returned (.string ByteArray.empty) ∧ W = w' := by
  have H := Aside0.mk h
  clear h
  go_enter Tryz.func27, Tryz.ntmps27
  go_wp2_with (go_at_call 35; refine (show Calls Tryz.prog 35 #[p] W _ from H.out).mono ?_; rintro e w' ⟨rfl, rfl⟩)
  go_ret
  exact ⟨rfl, rfl⟩
end
end Go.Proofs.YtoeeipkiadbnpaaGreatDoor.Lib10
end

section
namespace Go.Proofs.YtoeeipkiadbnpaaGreatDoor.Lib10
open Go.RowKit Go.Proofs.YtoeeipkiadbnpaaGreatDoorW.PrintWords Go.Proofs.YtoeeipkiadbnpaaGreatDoorW.PrintLast Go.Proofs.YtoeeipkiadbnpaaGreatDoorW.PrintMore
set_option linter.unusedVariables false
/-- What stands while nobody is asked: a zero reel in block g. -/
theorem rec_bytes {W : World} {g : Nat} {v : Value} {x : ReelV} (h : Rec W g v x) (s : ByteArray) : Rec (Lib.bytesWorld W 5 s) g v x := ((bytes_below (Below.refl W.heap.size W) (Nat.le_refl _) 5 s).block g (blk_lt h)).trans h
abbrev zeroReel : ReelV := ⟨[], 0, false, 0⟩
section
set_option maxRecDepth 100000
set_option maxHeartbeats 2000000
theorem nobody_calls (line : ByteArray) (n : Int) (W : World) (hT : Tabs W) : Calls Tryz.prog 9 #[.string line, .int .i64 n] W fun e w' => e = .returned (.bool true) ∧ Below W.heap.size W w' := by
  have HT := Aside0.mk hT
  have h9 := hT.low
  have kb := fun W => print_bytes (P := Tryz.prog) 9 45 5 Tryz.underlying9 Tryz.underlying45 Tryz.underlying5 line W
  clear hT
  go_enter Tryz.func9, Tryz.ntmps9
  go_wp2_with fail
  have hr := World.alloc_heap_new W (.cells #[.slice none 0 0, .int .i64 0, .bool false, .int .i64 0] 70)
  have hl := World.alloc_heap_new (W.alloc (.cells #[.slice none 0 0, .int .i64 0, .bool false, .int .i64 0] 70)) (.cells #[.pointer none, ptr W.heap.size] 24)
  rw [World.size_alloc] at hl
  have HB0 := Aside0.mk (below_alloc (below_alloc (Below.refl W.heap.size W) (.cells #[.slice none 0 0, .int .i64 0, .bool false, .int .i64 0] 70)) (.cells #[.pointer none, ptr W.heap.size] 24))
  have HR0 := Aside0.mk (show Rec ((W.alloc (.cells #[.slice none 0 0, .int .i64 0, .bool false, .int .i64 0] 70)).alloc (.cells #[.pointer none, ptr W.heap.size] 24)) W.heap.size (.slice none 0 0) zeroReel from (Below.heap_alloc _ _ _ (by simp)).trans hr)
  clear hr
  obtain ⟨W2, hW2⟩ : ∃ w, w = (W.alloc (.cells #[.slice none 0 0, .int .i64 0, .bool false, .int .i64 0] 70)).alloc (.cells #[.pointer none, ptr W.heap.size] 24) := ⟨_, rfl⟩
  rw [← hW2] at HB0 HR0 hl ⊢
  clear hW2
  have c0 : W2.cell? ⟨W.heap.size + 1, 0, none⟩ = some (.pointer none) := (blk_cell hl 0).trans rfl
  have c1 : W2.cell? ⟨W.heap.size + 1, 1, none⟩ = some (ptr W.heap.size) := (blk_cell hl 1).trans rfl
  clear hl
  refine wp_loop_rounds 3 ?_
  rw [rounds_succ]
  go_wp2_with (first | (go_at_call 23; refine (flip_none n n (none_nil _)).mono ?_; rintro e w' ⟨⟨u, rfl⟩, rfl⟩) | (go_at_call 19; refine (fuse_none n (none_nil _)).mono ?_; rintro e w' ⟨⟨u, rfl⟩, rfl⟩) | (go_at_call 21; refine (power_none (none_nil _)).mono ?_; rintro e w' ⟨⟨u, rfl⟩, rfl⟩) | (go_at_call 18; refine (open_none (none_nil _)).mono ?_; rintro e w' ⟨rfl, rfl⟩) | (go_at_call 22; refine (bytes_none (none_nil _)).mono ?_; rintro e w' ⟨rfl, rfl⟩) | (go_at_call 31; refine (append_none (none_nil _)).mono ?_; rintro e w' ⟨rfl, rfl⟩) | (go_at_call 32; refine (put_none n 1 (none_nil _)).mono ?_; rintro e w' ⟨rfl, rfl⟩) | (go_at_call 33; refine (cut_none n (none_nil _)).mono ?_; rintro e w' ⟨rfl, rfl⟩))
  obtain ⟨W3, hW3⟩ : ∃ w, w = Lib.bytesWorld W2 5 line := ⟨_, rfl⟩
  have hb3 : Below W2.heap.size W2 W3 := by rw [hW3]; exact bytes_below (Below.refl _ _) (Nat.le_refl _) 5 line
  have HB3 := Aside0.mk (HB0.out.trans (hb3.mono HB0.out.size))
  have HR3 := Aside0.mk (show Rec W3 W.heap.size (.slice none 0 0) zeroReel from (hb3.block _ (blk_lt HR0.out)).trans HR0.out)
  have HR4 := Aside0.mk (rec_bytes HR3.out line)
  replace c1 := cell_below c1 hb3
  rw [← hW3]
  clear hW3 hb3 c0
  rw [rounds_succ]
  go_wp2_with (first | (go_at_call 23; refine (flip_none n n (none_zero (Aside0.out (by assumption)) rfl)).mono ?_; rintro e w' ⟨⟨u, rfl⟩, rfl⟩) | (go_at_call 19; refine (fuse_none n (none_zero (Aside0.out (by assumption)) rfl)).mono ?_; rintro e w' ⟨⟨u, rfl⟩, rfl⟩) | (go_at_call 21; refine (power_none (none_zero (Aside0.out (by assumption)) rfl)).mono ?_; rintro e w' ⟨⟨u, rfl⟩, rfl⟩) | (go_at_call 18; refine (open_none (none_zero (Aside0.out (by assumption)) rfl)).mono ?_; rintro e w' ⟨rfl, rfl⟩) | (go_at_call 22; refine (bytes_none (none_zero (Aside0.out (by assumption)) rfl)).mono ?_; rintro e w' ⟨rfl, rfl⟩) | (go_at_call 31; refine (append_none (none_zero (Aside0.out (by assumption)) rfl)).mono ?_; rintro e w' ⟨rfl, rfl⟩) | (go_at_call 32; refine (put_none n 1 (none_zero (Aside0.out (by assumption)) rfl)).mono ?_; rintro e w' ⟨rfl, rfl⟩) | (go_at_call 33; refine (cut_none n (none_zero (Aside0.out (by assumption)) rfl)).mono ?_; rintro e w' ⟨rfl, rfl⟩))
  obtain ⟨W4, hW4⟩ : ∃ w, w = Lib.bytesWorld W3 5 line := ⟨_, rfl⟩
  have HB4 := Aside0.mk (show Below W.heap.size W W4 by rw [hW4]; exact HB3.out.trans ((bytes_below (Below.refl W3.heap.size W3) (Nat.le_refl _) 5 line).mono HB3.out.size))
  rw [← hW4]
  clear hW4 c1 HR3 HR4
  rw [rounds_succ]
  go_wp2_with fail
  have hr := World.alloc_heap_new W4 (.cells #[.pointer none, .pointer none, .slice none 0 0] 77)
  have hl := World.alloc_heap_new (W4.alloc (.cells #[.pointer none, .pointer none, .slice none 0 0] 77)) (.cells #[.pointer none, ptr W4.heap.size] 23)
  rw [World.size_alloc] at hl
  have HB5 := Aside0.mk (below_alloc (below_alloc (Below.refl W4.heap.size W4) (.cells #[.pointer none, .pointer none, .slice none 0 0] 77)) (.cells #[.pointer none, ptr W4.heap.size] 23))
  have HR5 := Aside0.mk (show ((W4.alloc (.cells #[.pointer none, .pointer none, .slice none 0 0] 77)).alloc (.cells #[.pointer none, ptr W4.heap.size] 23)).heap[W4.heap.size]? = some (.cells #[.pointer none, .pointer none, .slice none 0 0] 77 (0, 0)) from (Below.heap_alloc _ _ _ (by simp)).trans hr)
  clear hr
  obtain ⟨W5, hW5⟩ : ∃ w, w = (W4.alloc (.cells #[.pointer none, .pointer none, .slice none 0 0] 77)).alloc (.cells #[.pointer none, ptr W4.heap.size] 23) := ⟨_, rfl⟩
  rw [← hW5] at HB5 HR5 hl ⊢
  clear hW5
  have c0 : W5.cell? ⟨W4.heap.size + 1, 0, none⟩ = some (.pointer none) := (blk_cell hl 0).trans rfl
  have c1 : W5.cell? ⟨W4.heap.size + 1, 1, none⟩ = some (ptr W4.heap.size) := (blk_cell hl 1).trans rfl
  have HB2 := Aside0.mk (HB4.out.trans (HB5.out.mono HB4.out.size))
  have HU5 := Aside0.mk (show UnmadeSays W5 (ptr W4.heap.size) from unmade_zero ((blk_cell HR5.out 0).trans rfl))
  clear hl
  refine wp_loop_rounds 3 ?_
  rw [rounds_succ]
  go_wp2_with (first | (go_at_call 15; refine (libDo_unmade line (unmade_nil _)).mono ?_; rintro e w' ⟨rfl, rfl⟩) | (go_at_call 34; refine (libAsk_unmade line (unmade_nil _)).mono ?_; rintro e w' ⟨rfl, rfl⟩) | (go_at_call 30; refine (heal_unmade (unmade_nil _)).mono ?_; rintro e w' ⟨rfl, rfl⟩) | (go_at_call 12; refine (journal_unmade (unmade_nil _)).mono ?_; rintro e w' ⟨rfl, rfl⟩) | (go_at_call 27; refine (stateOf_unmade (unmade_nil _)).mono ?_; rintro e w' ⟨rfl, rfl⟩) | (go_at_call 13; refine (awake_calls _ (HT.out.below HB2.out h9)).mono ?_; rintro e w' ⟨rfl, hb9⟩; have HB9 := Aside0.mk (HB2.out.trans (hb9.mono HB2.out.size)); clear hb9))
  rw [rounds_succ]
  go_wp2_with (first | (go_at_call 15; refine (libDo_unmade line HU5.out).mono ?_; rintro e w' ⟨rfl, rfl⟩) | (go_at_call 34; refine (libAsk_unmade line HU5.out).mono ?_; rintro e w' ⟨rfl, rfl⟩) | (go_at_call 30; refine (heal_unmade HU5.out).mono ?_; rintro e w' ⟨rfl, rfl⟩) | (go_at_call 12; refine (journal_unmade HU5.out).mono ?_; rintro e w' ⟨rfl, rfl⟩) | (go_at_call 27; refine (stateOf_unmade HU5.out).mono ?_; rintro e w' ⟨rfl, rfl⟩) | (go_at_call 13; refine (awake_calls _ (HT.out.below HB2.out h9)).mono ?_; rintro e w' ⟨rfl, hb9⟩; have HB9 := Aside0.mk (HB2.out.trans (hb9.mono HB2.out.size)); clear hb9))
  rw [rounds_succ]
  go_wp2_with (first | (go_at_call 15; refine (libDo_unmade line HU5.out).mono ?_; rintro e w' ⟨rfl, rfl⟩) | (go_at_call 34; refine (libAsk_unmade line HU5.out).mono ?_; rintro e w' ⟨rfl, rfl⟩) | (go_at_call 30; refine (heal_unmade HU5.out).mono ?_; rintro e w' ⟨rfl, rfl⟩) | (go_at_call 12; refine (journal_unmade HU5.out).mono ?_; rintro e w' ⟨rfl, rfl⟩) | (go_at_call 27; refine (stateOf_unmade HU5.out).mono ?_; rintro e w' ⟨rfl, rfl⟩) | (go_at_call 13; refine (awake_calls _ (HT.out.below HB2.out h9)).mono ?_; rintro e w' ⟨rfl, hb9⟩; have HB9 := Aside0.mk (HB2.out.trans (hb9.mono HB2.out.size)); clear hb9))
  go_ret
  exact ⟨rfl, HB9.out⟩
end
end Go.Proofs.YtoeeipkiadbnpaaGreatDoor.Lib10
end
