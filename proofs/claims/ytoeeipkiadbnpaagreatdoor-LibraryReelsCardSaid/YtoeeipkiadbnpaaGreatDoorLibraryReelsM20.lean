/- Texts that the proof of LibraryReels needs, put together in build order by this session's program (wip/tools/claimtrim.py). -/
import Derived.Test.YtoeeipkiadbnpaaGreatDoorLibraryReelsM19
import Derived.Test.YtoeeipkiadbnpaaGreatDoorLibraryReelsM8
import Derived.Test.YtoeeipkiadbnpaaGreatDoorLibraryReelsM11
import Derived.Test.YtoeeipkiadbnpaaGreatDoorLibraryReelsM17
import Derived.Test.YtoeeipkiadbnpaaGreatDoorLibraryReelsM18
import Derived.Lib.ItoaLen
import Derived.Maps.OwnOps
import Derived.Maps.OwnSet
import Derived.BigQuiet
import Derived.StillTailTactics
section
namespace Go.Proofs.YtoeeipkiadbnpaaGreatDoor.Lib10
open Go.RowKit Go.Proofs.YtoeeipkiadbnpaaGreatDoorW.PrintWords Go.Proofs.YtoeeipkiadbnpaaGreatDoorW.PrintLast Go.Proofs.YtoeeipkiadbnpaaGreatDoorW.PrintMore
set_option linter.unusedVariables false
def itoaB (n : Int) : ByteArray := ⟨(Lib.itoa n).toArray⟩
def pieceV (ch : List (Str × Int)) (n : ByteArray) : ByteArray := ((⟨#[32]⟩ ++ itoaB (chairOf ch n)) ++ ⟨#[58]⟩) ++ n
def seatedV (ch : List (Str × Int)) (l : List ByteArray) : ByteArray := l.foldl (fun o n => o ++ pieceV ch n) ⟨#[99, 104, 97, 105, 114, 115]⟩
/-- What seated gives: the names by their chairs. -/
def SeatedPost (ch : List (Str × Int)) (e : Ending) : Prop := ∃ d : Array Nm, e = .returned (.tuple #[.string (seatedV ch (d.toList.map (·.1))), .int .i64 0]) ∧ (d.toList.map (fun x => x.1.data.toList)).Perm (keysOf ch) ∧ «Sort».SortedIn (ltOf (cmpN ch)) 0 ch.length d
theorem seatedV_snoc (ch : List (Str × Int)) (l : List ByteArray) (n : ByteArray) : seatedV ch (l ++ [n]) = seatedV ch l ++ pieceV ch n := by simp [seatedV]
section
set_option maxRecDepth 100000
set_option maxHeartbeats 2000000
theorem seated_calls {W : World} {g b1 b2 b3 : Nat} {m1 m3 : List (Str × Value)} {ch : List (Str × Int)} (h : StRec W g b1 b2 b3 m1 (ints ch) m3) (v1 v2 : Value) (hl : ch.length ≤ 12) (hne : ch ≠ []) (hk : ∀ k ∈ keysOf ch, k.length ≤ 100) (hT : Tabs W) (hc : ∀ n, -9223372036854775808 ≤ chairOf ch n ∧ chairOf ch n ≤ 9223372036854775807) :
    Calls Tryz.prog 83 #[ptr g, .agg #[v1, v2]] W fun e w' => SeatedPost ch e ∧ Below W.heap.size W w' := by
  have H := Aside0.mk h
  obtain ⟨W1, hW1⟩ : ∃ W1, W1 = (W.alloc (.cells #[ptr g] 75)).alloc (.cells #[v1, v2] 110) := ⟨_, rfl⟩
  have hb1 : Below W.heap.size W W1 := by rw [hW1]; exact below_alloc (below_alloc (Below.refl _ _) _) _
  have hst1 := h.below hb1
  have q0 : W1.cell? ⟨W.heap.size, 0, none⟩ = some (ptr g) := by
    rw [hW1, cell_alloc (by simp) 0]
    exact (blk_cell (World.alloc_heap_new W (.cells #[ptr g] 75)) 0).trans rfl
  have q1 : W1.cell? ⟨g, 1, none⟩ = some (.map (some b2)) := (blk_cell hst1.cells 1).trans rfl
  have HK := Aside0.mk (keys_calls b2 W1)
  have HS := Aside0.mk (sortedFunc_calls q0 q1 hst1.p2 hl hne hk)
  have HB1 := Aside0.mk hb1
  have HP := Aside0.mk (And.intro hl (And.intro hne hk))
  have q0x := q0
  have q1x := q1
  rw [hW1] at q0x q1x
  have hW2 := hW1.symm
  have HT := Aside0.mk (And.intro hT hc)
  have HM := Aside0.mk hst1.p2
  clear h hl hne hk hst1 hb1 hW1 hT hc
  go_enter Tryz.func83, Tryz.ntmps83
  go_wp2_with (first | (go_at_call 129; (try rw [hW2]); refine HK.out.mono ?_; rintro e w ⟨rfl, rfl⟩) | (go_at_call 128; refine HS.out.mono ?_; rintro e w2 ⟨blk, cap, d, rfl, hd, hp, hsd, hH, hb⟩; have HD := Aside0.mk (And.intro hd (And.intro hp (And.intro hsd (And.intro hH hb)))); clear hd hp hsd hH hb))
  have HBw := Aside0.mk (HB1.out.trans (HD.out.2.2.2.2.mono HB1.out.size))
  have q0w := cell_below q0 HD.out.2.2.2.2
  have q1w := cell_below q1 HD.out.2.2.2.2
  have HMw := Aside0.mk (HM.out.below HD.out.2.2.2.2)
  obtain ⟨n, hn⟩ : ∃ n, n = ch.length := ⟨_, rfl⟩
  rw [← hn]
  have HN := Aside0.mk hn
  have hn12 : n ≤ 12 := by rw [hn]; exact HP.out.1
  clear q0x q1x q0 q1 hW2 hn
  obtain ⟨nm, hnm⟩ : ∃ nm, nm = d.toList.map (·.1) := ⟨_, rfl⟩
  have HNm := Aside0.mk hnm
  clear hnm
  go_loopw [7, 19] (fun v7 v19 wr => ∃ k : Nat, k ≤ n ∧ v19 = .int .i64 k ∧ v7 = .string (seatedV ch (nm.take k)) ∧ Aside0 ((seatedV ch (nm.take k)).size ≤ 6 + 300 * k) ∧ Aside0 (Below w2.heap.size w2 wr)) (fun _ v19 _ => n - (intOf v19).toNat)
  case atStart => exact ⟨0, Nat.zero_le _, rfl, rfl, ⟨by rw [List.take_zero]; exact Nat.le_refl 6⟩, ⟨Below.refl _ _⟩⟩
  case round =>
    obtain ⟨k, hk, rfl, rfl, hsz, hbl⟩ := hrel
    obtain ⟨sv, hsv⟩ : ∃ sv, sv = seatedV ch (nm.take k) := ⟨_, rfl⟩
    rw [← hsv] at hsz ⊢
    have HSV := Aside0.mk hsv
    clear hsv
    have hszk := hsz.out
    by_cases hkn : k < n
    · have i0 : (0 : Int) ≤ (k : Int) := by omega
      have i1 : (k : Int) < (n : Int) := by omega
      have hkd : k < d.size := by rw [HD.out.1, ← HN.out]; exact hkn
      have hq := (HD.out.2.2.2.1 k hkd).1
      rw [Nat.zero_add] at hq
      have k0 := cell_below hq hbl.out
      have k1 := cell_below q0w hbl.out
      have k2 := cell_below q1w hbl.out
      obtain ⟨x, hx⟩ : ∃ x, x = d[k]! := ⟨_, rfl⟩
      rw [← hx] at k0
      have hlk := look_chair (HMw.out.below hbl.out) x.2 0
      have HX := Aside0.mk hx
      obtain ⟨c, hc⟩ : ∃ c, c = chairOf ch x.1 := ⟨_, rfl⟩
      rw [← hc] at hlk
      have HI := Aside0.mk (itoa_calls c wr (HT.out.1.below (HBw.out.trans (hbl.out.mono HBw.out.size)) HT.out.1.low) (by rw [hc]; exact (HT.out.2 _).1) (by rw [hc]; exact (HT.out.2 _).2))
      have HC := Aside0.mk hc
      have hil := Lib.itoa_length_le c (by rw [hc]; exact (HT.out.2 _).1) (by rw [hc]; exact (HT.out.2 _).2)
      have hxs := x.2
      have hlk2 : (Instr.lookup 125 (.map (some b2)) (.string x.1) false).run Tryz.prog wr = .ok (.int .i64 c) wr := hlk
      clear hq hx hc hlk
      replace i0 := eq_true i0
      replace i1 := eq_true i1
      go_wp2_with (go_at_call 16; refine HI.out.mono ?_; rintro e w5 ⟨rfl, hb5⟩; have HB5 := Aside0.mk hb5; clear hb5)
      have e1 : sv ++ (⟨#[32]⟩ ++ ⟨(Lib.itoa c).toArray⟩ ++ ⟨#[58]⟩ ++ x.1) = seatedV ch (nm.take (k + 1)) := by
        have h1 : nm[k]? = some x.1 := by
          rw [HNm.out, List.getElem?_map, Array.getElem?_toList, HX.out, getElem!_pos d k hkd, Array.getElem?_eq_getElem hkd]
          rfl
        rw [List.take_add_one, h1, Option.toList_some, seatedV_snoc, ← HSV.out]
        unfold pieceV itoaB
        rw [← HC.out]
      refine ⟨⟨k + 1, by omega, by first | rfl | simp, by rw [e1], ⟨?_⟩, ⟨hbl.out.trans (HB5.out.mono hbl.out.size)⟩⟩, by simp [intOf]; omega⟩
      rw [← e1]
      simp only [ByteArray.size_append]
      have : (⟨(Lib.itoa c).toArray⟩ : ByteArray).size = (Lib.itoa c).length := by show (Lib.itoa c).toArray.size = _; simp
      have h32 : (⟨#[32]⟩ : ByteArray).size = 1 := rfl
      have h58 : (⟨#[58]⟩ : ByteArray).size = 1 := rfl
      omega
    · have i1 : ¬ (k : Int) < (n : Int) := by omega
      have hkn2 : k = n := by omega
      subst hkn2
      go_wp2_with fail
      go_ret2
      refine ⟨⟨d, ?_, HD.out.2.1, HD.out.2.2.1⟩, HBw.out.trans (hbl.out.mono HBw.out.size)⟩
      have h1 : nm.take k = nm := List.take_of_length_le (by have h2 := HD.out.1; have h3 := HN.out; rw [HNm.out]; simp; omega)
      rw [← HNm.out, ← h1, ← HSV.out]
      rfl
end
end Go.Proofs.YtoeeipkiadbnpaaGreatDoor.Lib10
end

section
namespace Go.Proofs.YtoeeipkiadbnpaaGreatDoor.Lib10
open Go.RowKit Go.Proofs.YtoeeipkiadbnpaaGreatDoorW.PrintWords Go.Proofs.YtoeeipkiadbnpaaGreatDoorW.PrintLast Go.Proofs.YtoeeipkiadbnpaaGreatDoorW.PrintMore
set_option linter.unusedVariables false
abbrev wChairs : ByteArray := ⟨#[99, 104, 97, 105, 114, 115]⟩
section
set_option maxRecDepth 100000
set_option maxHeartbeats 2000000
theorem ask_chairs {S : Nat → Prop} {W : World} {g : Nat} {m1 m3 : List (Str × Value)} {ch : List (Str × Int)} (h : IsSt S W g m1 (ints ch) m3) (text : ByteArray) (hs : text.size < 4294967281) (hword : headW text = wChairs) (hw : (wordsB text).length = 1) (hline : isLineB text = true) (hl : ch.length ≤ 12) (hne : ch ≠ []) (hk : ∀ k ∈ keysOf ch, k.length ≤ 100) (hT : Tabs W) (hc : ∀ n, -9223372036854775808 ≤ chairOf ch n ∧ chairOf ch n ≤ 9223372036854775807) :
    Calls Tryz.prog 59 #[ptr g, .string text] W fun e w' => SeatedPost ch e ∧ Below W.heap.size W w' := by
  obtain ⟨b1, b2, b3, _, _, _, _, _, _, _, hr⟩ := h
  have HSt := Aside0.mk hr
  have HT := Aside0.mk hT
  have HC := Aside0.mk (fun w (hT : Tabs w) => cut_calls text w hT hs)
  rw [hword] at HC
  have HR := Aside0.mk (fun w (hT : Tabs w) => read_ok0 ByteArray.empty text w hT hs rfl hw hline)
  have HS := Aside0.mk (fun w (hst : StRec w g b1 b2 b3 m1 (ints ch) m3) (hT : Tabs w) v1 v2 => seated_calls hst v1 v2 hl hne hk hT hc)
  have HB0 := Aside0.mk (below_alloc (Below.refl W.heap.size W) (.cells #[ptr g] 75))
  have HC0 := Aside0.mk (HC.out _ (HT.out.below HB0.out HT.out.low))
  clear hr hT hword hw hline hl hne hk hc
  go_enter Tryz.func59, Tryz.ntmps59
  go_wp2_with (first | (go_at_call 37; refine HC0.out.mono ?_; rintro e w1 ⟨⟨s1, s2, rfl⟩, hb⟩; have HB1 := Aside0.mk (HB0.out.trans (hb.mono HB0.out.size)); have q0 := cell_below ((blk_cell (World.alloc_heap_new W (.cells #[ptr g] 75)) 0).trans rfl) hb; have HB2 := Aside0.mk (fun o => below_alloc HB1.out o); have q0a := fun o => cell_below q0 (below_alloc (Below.refl w1.heap.size w1) o); clear hb) | (go_at_call 72; refine (HR.out _ (HT.out.below (HB2.out _) HT.out.low)).mono ?_; rintro e w3 ⟨rfl, hb⟩; have HB3 := Aside0.mk ((HB2.out _).trans (hb.mono (HB2.out _).size)); have HB4 := Aside0.mk (fun o => below_alloc HB3.out o); have HS4 := Aside0.mk (fun o v1 v2 => HS.out _ (HSt.out.below (HB4.out o)) (HT.out.below (HB4.out o) HT.out.low) v1 v2); clear hb) | (go_at_call 83; refine (HS4.out _ _ _).mono ?_; rintro e w5 ⟨⟨d, rfl, hp⟩, hb⟩; have HB5 := Aside0.mk ((HB4.out _).trans (hb.mono (HB4.out _).size)); have HP5 := Aside0.mk hp; clear hb hp))
  go_ret2
  exact ⟨⟨d, rfl, HP5.out.1, HP5.out.2⟩, HB5.out⟩
end
end Go.Proofs.YtoeeipkiadbnpaaGreatDoor.Lib10
end

section
namespace Go.Proofs.YtoeeipkiadbnpaaGreatDoor.Lib10
open Go.RowKit Go.Proofs.YtoeeipkiadbnpaaGreatDoorW.PrintWords Go.Proofs.YtoeeipkiadbnpaaGreatDoorW.PrintLast Go.Proofs.YtoeeipkiadbnpaaGreatDoorW.PrintMore
set_option linter.unusedVariables false
variable {B : Nat}
section
set_option maxRecDepth 100000
set_option maxHeartbeats 2000000
theorem libAsk_chairs {W : World} {lg sg rg : Nat} {vj : Value} {lines : List ByteArray} {m1 m3 : List (Str × Value)} {ch : List (Str × Int)} (h : LibIs B W lg sg rg vj lines m1 m3 ch) (text : ByteArray) (hs : text.size < 4294967281) (hword : headW text = wChairs) (hw : (wordsB text).length = 1) (hline : isLineB text = true) (hl : ch.length ≤ 12) (hne : ch ≠ []) (hk : ∀ k ∈ keysOf ch, k.length ≤ 100) (hT : Tabs W) (hc : ∀ n, -9223372036854775808 ≤ chairOf ch n ∧ chairOf ch n ≤ 9223372036854775807) :
    Calls Tryz.prog 34 #[ptr lg, .string text] W fun e w' => SeatedPost ch e ∧ Below W.heap.size W w' := by
  have HU := Aside0.mk (unmade_calls h.cells)
  have HA := Aside0.mk (ask_chairs h.st text hs hword hw hline hl hne hk hT hc)
  have q0 : W.cell? ⟨lg, 0, none⟩ = some (ptr sg) := (blk_cell h.cells 0).trans rfl
  clear h hword hw hline hl hne hk hT hc
  go_enter Tryz.func34, Tryz.ntmps34
  go_wp2_with (first | (go_at_call 35; refine HU.out.mono ?_; rintro e w' ⟨rfl, rfl⟩) | (go_at_call 59; refine HA.out.mono ?_; rintro e w5 ⟨⟨d, rfl, hp⟩, hb⟩; have HB5 := Aside0.mk hb; have HP5 := Aside0.mk hp; clear hb hp))
  go_ret2
  exact ⟨⟨d, rfl, HP5.out.1, HP5.out.2⟩, HB5.out⟩
end
end Go.Proofs.YtoeeipkiadbnpaaGreatDoor.Lib10
end

section
namespace Go.Proofs.YtoeeipkiadbnpaaGreatDoor.Lib10
open Go.RowKit Go.Proofs.YtoeeipkiadbnpaaGreatDoorW.PrintWords
abbrev lineA : ByteArray := ⟨#[112, 108, 97, 121, 101, 114, 32, 97, 100, 97, 32, 49]⟩
abbrev nAda : ByteArray := ⟨#[97, 100, 97]⟩
theorem lineA_head : headW lineA = wPlayer := by kernel_rfl
theorem lineA_words : wordsB lineA = [wPlayer, nAda, ⟨#[49]⟩] := by kernel_rfl
theorem lineA_line : isLineB lineA = true := by kernel_rfl
theorem lineA_sort : sortV [110, 100] (wordsB lineA).tail = some ([nAda], [1]) := by rw [lineA_words]; kernel_rfl
theorem lineC_head : headW wChairs = wChairs := by kernel_rfl
theorem lineC_words : wordsB wChairs = [wChairs] := by kernel_rfl
theorem lineC_line : isLineB wChairs = true := by kernel_rfl
theorem lineA_E : playerE [] nAda 1 = 0 := by kernel_rfl
theorem lineA_fit : (writtenV lineA).length = 26 := by rw [writtenV_length]; rfl
theorem seatA : seatedV [(nAda.data.toList, 1)] [nAda] = ⟨#[99, 104, 97, 105, 114, 115, 32, 49, 58, 97, 100, 97]⟩ := by kernel_rfl
end Go.Proofs.YtoeeipkiadbnpaaGreatDoor.Lib10
end

section
namespace Go.Proofs.YtoeeipkiadbnpaaGreatDoor.Lib10
open Go.RowKit Go.Proofs.YtoeeipkiadbnpaaGreatDoorW.PrintWords Go.Proofs.YtoeeipkiadbnpaaGreatDoorW.PrintLast Go.Proofs.YtoeeipkiadbnpaaGreatDoorW.PrintMore
set_option linter.unusedVariables false
variable {B : Nat}
section
set_option maxRecDepth 100000
set_option maxHeartbeats 2000000
theorem fine100 : Fine (newReel 100) := ⟨by decide, by decide, by decide, by decide, by decide⟩
theorem reel100 {w : World} {rg : Nat} (h : Rec w rg (.slice none 0 0) (newReel 100)) (h9 : B ≤ rg) : ReelIs B w rg none 0 0 (newReel 100) := ⟨h, h9, Kd.R_nil _ _ _ _ _, fine100⟩
theorem libDoA {w : World} {lg sg rg : Nat} {vj : Value} (hL : LibIs B w lg sg rg vj [] [] [] []) (hR : ReelIs B w rg none 0 0 (newReel 100)) (hT : Tabs w) : Calls Tryz.prog 15 #[ptr lg, .string lineA] w fun e w' => e = .returned (.tuple #[.string wPlayer, .int .i64 0]) ∧ (∃ sg' vj', LibIs B w' lg sg' rg vj' [lineA] [] [] [(nAda.data.toList, 1)]) ∧ Below B w w' := by
  obtain ⟨A4, c4, rfl⟩ := Kd.R_slice hL.jr
  refine (libDo_ok (lines := []) hL hR rfl rfl (fun _ hl => by cases hl) (by decide) (by decide) (do_player hL.st hT (by decide) lineA (by decide) lineA_head (by rw [lineA_words]; rfl) lineA_line nAda 1 (by decide) lineA_sort lineA_E) (by rw [lineA_fit]; decide) (by kernel_rfl)).mono ?_
  rintro e w' ⟨rfl, h1, _, h3⟩
  exact ⟨rfl, h1, h3⟩
theorem chair_range (n : ByteArray) : -9223372036854775808 ≤ chairOf [(nAda.data.toList, 1)] n ∧ chairOf [(nAda.data.toList, 1)] n ≤ 9223372036854775807 := by
  unfold chairOf
  rw [get_cons]
  split
  · exact ⟨by decide, by decide⟩
  · rw [get_nil]; exact ⟨by decide, by decide⟩
theorem libAskA {w : World} {lg sg rg : Nat} {vj : Value} {lines : List ByteArray} (hL : LibIs B w lg sg rg vj lines [] [] [(nAda.data.toList, 1)]) (hT : Tabs w) : Calls Tryz.prog 34 #[ptr lg, .string wChairs] w fun e w' => e = .returned (.tuple #[.string ⟨#[99, 104, 97, 105, 114, 115, 32, 49, 58, 97, 100, 97]⟩, .int .i64 0]) ∧ Below w.heap.size w w' := by
  refine (libAsk_chairs hL wChairs (by decide) lineC_head (by rw [lineC_words]; rfl) lineC_line (by decide) (by decide) (by decide) hT chair_range).mono ?_
  rintro e w' ⟨⟨d, rfl, hp, _⟩, hb⟩
  have h1 : d.toList.map (fun x => x.1.data.toList) = [nAda.data.toList] := List.perm_singleton.1 hp
  have h2 : d.toList.map (·.1) = [nAda] := by
    cases hd : d.toList with
    | nil => rw [hd] at h1; cases h1
    | cons x l =>
      rw [hd] at h1
      simp only [List.map_cons, List.cons.injEq] at h1
      obtain ⟨h3, h4⟩ := h1
      have h5 : l = [] := List.map_eq_nil_iff.1 h4
      subst h5
      have h6 : x.1 = nAda := ByteArray.ext (Array.toList_inj.1 h3)
      simp [h6]
  rw [h2, seatA]
  exact ⟨rfl, hb⟩
theorem awake_calls (W : World) (hT : Tabs W) : Calls Tryz.prog 13 #[] W fun e w' => e = .returned (.bool true) ∧ Below W.heap.size W w' := by
  have HT := Aside0.mk hT
  have h9 := hT.low
  clear hT
  go_enter Tryz.func13, Tryz.ntmps13
  go_wp2_with (first | (go_at_call 17; refine (newReel_ok 100 W (by decide) (by decide)).mono ?_; rintro e w1 ⟨rfl, hr, hb⟩; have HR1 := Aside0.mk hr; have HB1 := Aside0.mk hb; have HL1 := Aside0.mk hb.size; clear hr hb) | (go_at_call 18; refine (open_ok (n := 0) (lines := []) (m1 := []) (m3 := []) (ch := []) HR1.out (by decide) rfl (Nat.le_refl 0) [] (fun W' _ => read_nil 0 W') rfl (Nat.le_refl 0) (fun _ hl => by cases hl) (by decide)).mono ?_; rintro e w2 ⟨rfl, ⟨sg, vj, hlib⟩, hrc, hk, hb⟩; have HL2 := Aside0.mk (hlib.is (B := W.heap.size) HL1.out (Nat.le_refl _)); have HR2 := Aside0.mk hrc; have HB2 := Aside0.mk (HB1.out.trans hb); clear hlib hrc hk hb) | (go_at_call 15; refine (libDoA HL2.out (reel100 HR2.out (Nat.le_refl _)) (HT.out.below HB2.out h9)).mono ?_; rintro e w3 ⟨rfl, ⟨sg', vj', hl⟩, hb⟩; have HL3 := Aside0.mk hl; have HB3 := Aside0.mk (HB2.out.trans hb); clear hl hb) | (go_at_call 34; refine (libAskA HL3.out (HT.out.below HB3.out h9)).mono ?_; rintro e w4 ⟨rfl, hb⟩; have HB4 := Aside0.mk (HB3.out.trans (hb.mono HB3.out.size)); clear hb))
  go_ret
  exact ⟨rfl, HB4.out⟩
end
end Go.Proofs.YtoeeipkiadbnpaaGreatDoor.Lib10
end

section
namespace Go.Proofs.YtoeeipkiadbnpaaGreatDoor.Lib10
open Go.RowKit Go.Proofs.YtoeeipkiadbnpaaGreatDoorW.PrintWords Go.Proofs.YtoeeipkiadbnpaaGreatDoorW.PrintLast Go.Proofs.YtoeeipkiadbnpaaGreatDoorW.PrintMore
set_option linter.unusedVariables false
/-- The state: pieces with their notes, players with their chairs, who has a piece. In the order in which they came. -/
structure St where
  pieces : List (Str × List Int)
  chairs : List (Str × Int)
  loans : List (Str × ByteArray)
def St.begin : St := ⟨[], [], []⟩
abbrev wPiece : ByteArray := ⟨#[112, 105, 101, 99, 101]⟩
abbrev wLend : ByteArray := ⟨#[108, 101, 110, 100]⟩
abbrev wBack : ByteArray := ⟨#[98, 97, 99, 107]⟩
abbrev wMove : ByteArray := ⟨#[109, 111, 118, 101]⟩
abbrev wBurn : ByteArray := ⟨#[98, 117, 114, 110]⟩
/-- A form for so many words; many: its last sort is said again, up to eight times. -/
def formV (f : List UInt8) (many : Bool) (n : Nat) : List UInt8 := if many = true ∧ f.length ≤ n ∧ n ≤ f.length + 7 then f ++ List.replicate (n - f.length) (f.getLast?.getD 0) else f
/-- A line's names and numbers, by a form. -/
def readV (f : List UInt8) (many : Bool) (text : ByteArray) : Option (List ByteArray × List Int) :=
  if (wordsB text).tail.length = (formV f many (wordsB text).tail.length).length ∧ isLineB text = true then sortV (formV f many (wordsB text).tail.length) (wordsB text).tail else none
def sitterV (ch : List (Str × Int)) (c : Int) : Option Str := (ch.find? fun p => decide (p.2 = c)).map (·.1)
def pieceS (s : St) (n : Str) (l : List Int) : Int × St := if (get s.pieces n).isSome = true then (5, s) else if 20 < Lib.maxOf l then (2, s) else if s.pieces.length = 8 then (7, s) else (0, { s with pieces := put s.pieces n l })
def playerS (s : St) (n : Str) (c : Int) : Int × St := if ((get s.chairs n).isSome || takenB s.chairs c) = true then (5, s) else if (decide (1 ≤ c) && decide (c ≤ 8)) = true then (0, { s with chairs := put s.chairs n c }) else (2, s)
def lendS (s : St) (p : Str) (n : ByteArray) : Int × St := if ((get s.pieces p).isSome && (get s.chairs n.data.toList).isSome) = false then (4, s) else if (get s.loans p).isSome = true then (5, s) else (0, { s with loans := put s.loans p n })
def backS (s : St) (p : Str) : Int × St := if (get s.pieces p).isSome = false then (4, s) else if (get s.loans p).isSome = false then (5, s) else (0, { s with loans := del s.loans p })
def moveS (s : St) (n : Str) (c : Int) : Int × St := match get s.chairs n with
  | none => (4, s)
  | some old => if (decide (1 ≤ c) && decide (c ≤ 8)) = false then (2, s) else if old = c then (5, s) else match sitterV s.chairs c with
    | some other => (0, { s with chairs := put (put s.chairs other old) n c })
    | none => (0, { s with chairs := put s.chairs n c })
def burnS (s : St) (p : Str) : Int × St := if (get s.pieces p).isSome = false then (4, s) else if (get s.loans p).isSome = true then (5, s) else (0, { s with pieces := del s.pieces p })
abbrev nameAt (r : List ByteArray × List Int) (i : Nat) : ByteArray := r.1.getD i ByteArray.empty
abbrev numAt (r : List ByteArray × List Int) (i : Nat) : Int := r.2.getD i 0
/-- A change: the error and the state behind it. -/
def doS (s : St) (text : ByteArray) : Int × St :=
  if headW text = wPiece then (match readV [110, 100] true text with | some r => pieceS s (nameAt r 0).data.toList r.2 | none => (3, s))
  else if headW text = wPlayer then (match readV [110, 100] false text with | some r => playerS s (nameAt r 0).data.toList (numAt r 0) | none => (3, s))
  else if headW text = wLend then (match readV [110, 110] false text with | some r => lendS s (nameAt r 0).data.toList (nameAt r 1) | none => (3, s))
  else if headW text = wBack then (match readV [110] false text with | some r => backS s (nameAt r 0).data.toList | none => (3, s))
  else if headW text = wMove then (match readV [110, 100] false text with | some r => moveS s (nameAt r 0).data.toList (numAt r 0) | none => (3, s))
  else if headW text = wBurn then (match readV [110] false text with | some r => burnS s (nameAt r 0).data.toList | none => (3, s))
  else (3, s)
def strs (l : List (Str × ByteArray)) : List (Str × Value) := l.map fun p => (p.1, .string p.2)
theorem get_strs (l : List (Str × ByteArray)) (k : Str) : get (strs l) k = (get l k).map .string := get_map _ k l
theorem put_strs (l : List (Str × ByteArray)) (k : Str) (v : ByteArray) : put (strs l) k (.string v) = strs (put l k v) := put_map _ k v l
theorem del_map {α β : Type} (f : α → β) (k : Str) (l : List (Str × α)) : del (l.map fun p => (p.1, f p.2)) k = (del l k).map fun p => (p.1, f p.2) := by
  unfold del
  rw [List.filter_map]
  rfl
theorem del_strs (l : List (Str × ByteArray)) (k : Str) : del (strs l) k = strs (del l k) := del_map _ k l
theorem length_ints (l : List (Str × Int)) : (ints l).length = l.length := by simp [ints]
theorem length_strs (l : List (Str × ByteArray)) : (strs l).length = l.length := by simp [strs]
/-- The pieces' values are rows of their notes. -/
def Pcs (W : World) : List (Str × Value) → List (Str × List Int) → Prop
  | [], [] => True
  | a :: m, b :: l => a.1 = b.1 ∧ (Kd.int .i64).R 3 W 9 (fun _ => True) a.2 b.2 ∧ Pcs W m l
  | _, _ => False
theorem Pcs.keys {W : World} : ∀ {m : List (Str × Value)} {l : List (Str × List Int)}, Pcs W m l → keysOf m = keysOf l
  | [], [], _ => rfl
  | a :: m, b :: l, h => by
    obtain ⟨h1, _, h3⟩ := h
    simp only [keysOf, List.map_cons, h1]
    rw [show m.map (·.1) = l.map (·.1) from Pcs.keys h3]
  | [], _ :: _, h => h.elim
  | _ :: _, [], h => h.elim
theorem Pcs.length {W : World} {m : List (Str × Value)} {l : List (Str × List Int)} (h : Pcs W m l) : m.length = l.length := by
  have := congrArg List.length h.keys
  simpa [keysOf] using this
theorem Pcs.get {W : World} (k : Str) : ∀ {m : List (Str × Value)} {l : List (Str × List Int)}, Pcs W m l → (Lib10.get m k = none ∧ Lib10.get l k = none) ∨ ∃ v xs, Lib10.get m k = some v ∧ Lib10.get l k = some xs ∧ (Kd.int .i64).R 3 W 9 (fun _ => True) v xs
  | [], [], _ => .inl ⟨rfl, rfl⟩
  | a :: m, b :: l, h => by
    obtain ⟨h1, h2, h3⟩ := h
    rw [get_cons, get_cons, ← h1]
    by_cases e : a.1 = k
    · rw [if_pos e, if_pos e]; exact .inr ⟨_, _, rfl, rfl, h2⟩
    · rw [if_neg e, if_neg e]; exact Pcs.get k h3
  | [], _ :: _, h => h.elim
  | _ :: _, [], h => h.elim
theorem Pcs.isSome {W : World} {m : List (Str × Value)} {l : List (Str × List Int)} (h : Pcs W m l) (k : Str) : (Lib10.get m k).isSome = (Lib10.get l k).isSome := by
  rcases h.get k with ⟨h1, h2⟩ | ⟨v, xs, h1, h2, _⟩
  · rw [h1, h2]; rfl
  · rw [h1, h2]; rfl
theorem Pcs.put {W : World} (k : Str) {v : Value} {xs : List Int} (hv : (Kd.int .i64).R 3 W 9 (fun _ => True) v xs) : ∀ {m : List (Str × Value)} {l : List (Str × List Int)}, Pcs W m l → Pcs W (Lib10.put m k v) (Lib10.put l k xs)
  | [], [], _ => ⟨rfl, hv, trivial⟩
  | a :: m, b :: l, h => by
    obtain ⟨h1, h2, h3⟩ := h
    rw [Lib10.put, Lib10.put, ← h1]
    by_cases e : a.1 = k
    · rw [if_pos e, if_pos e]; exact ⟨rfl, hv, h3⟩
    · rw [if_neg e, if_neg e]; exact ⟨h1, h2, Pcs.put k hv h3⟩
  | [], _ :: _, h => h.elim
  | _ :: _, [], h => h.elim
theorem Pcs.del {W : World} (k : Str) : ∀ {m : List (Str × Value)} {l : List (Str × List Int)}, Pcs W m l → Pcs W (Lib10.del m k) (Lib10.del l k)
  | [], [], _ => trivial
  | a :: m, b :: l, h => by
    obtain ⟨h1, h2, h3⟩ := h
    have ih := Pcs.del k h3
    unfold Lib10.del at ih ⊢
    rw [List.filter_cons, List.filter_cons, ← h1]
    by_cases e : a.1 = k
    · rw [if_neg (by simp [e]), if_neg (by simp [e])]; exact ih
    · rw [if_pos (by simp [e]), if_pos (by simp [e])]; exact ⟨h1, h2, ih⟩
  | [], _ :: _, h => h.elim
  | _ :: _, [], h => h.elim
theorem Pcs.same {W W' : World} (hs : ∀ (k : Nat) (cells : Array Value), W.heap[k]? = some (Obj.cells cells 3 (0, 0)) → W'.heap[k]? = W.heap[k]?) : ∀ {m : List (Str × Value)} {l : List (Str × List Int)}, Pcs W m l → Pcs W' m l
  | [], [], _ => trivial
  | a :: m, b :: l, h => ⟨h.1, R_apart h.2.1 rfl hs, Pcs.same hs h.2.2⟩
  | [], _ :: _, h => h.elim
  | _ :: _, [], h => h.elim
theorem Pcs.below {W W' : World} {m : List (Str × Value)} {l : List (Str × List Int)} (h : Pcs W m l) (hb : Below W.heap.size W W') : Pcs W' m l := h.same (fun k cells hc => hb.block k (blk_lt hc))
/-- The state in memory. -/
def StAt (S : Nat → Prop) (W : World) (g : Nat) (st : St) : Prop := ∃ m1, IsSt S W g m1 (ints st.chairs) (strs st.loans) ∧ Pcs W m1 st.pieces
theorem StAt.below {S : Nat → Prop} {W W' : World} {g : Nat} {st : St} (h : StAt S W g st) (hb : Below W.heap.size W W') : StAt S W' g st := by
  obtain ⟨m1, h1, h2⟩ := h
  exact ⟨m1, h1.below hb, h2.below hb⟩
end Go.Proofs.YtoeeipkiadbnpaaGreatDoor.Lib10
end

section
namespace Go.Proofs.YtoeeipkiadbnpaaGreatDoor.Lib10
open Go.RowKit Go.Proofs.YtoeeipkiadbnpaaGreatDoorW.PrintWords Go.Proofs.YtoeeipkiadbnpaaGreatDoorW.PrintLast Go.Proofs.YtoeeipkiadbnpaaGreatDoorW.PrintMore
set_option linter.unusedVariables false
theorem R_cells {α : Type} {e base : Nat} {ok : Nat → Prop} {W : World} {v : Value} {enc : α → Value} {he} {xs : List α} (d0 : α) (h : (Kd.scalar enc he).R e W base ok v xs) (hne : xs ≠ []) : ∃ a c, v = .slice (some ⟨a, 0, none⟩) xs.length c ∧ a < W.heap.size ∧ ∀ (i : Nat) (x : α), xs[i]? = some x → W.cell? ⟨a, i, none⟩ = some (enc x) := by
  obtain ⟨g, cap, rfl, _, hlt, _⟩ := Kd.R_form h (List.length_pos_iff.2 hne)
  refine ⟨g, cap, rfl, hlt, fun i x hx => ?_⟩
  have hi : i < xs.length := (List.getElem?_eq_some_iff.1 hx).1
  have h1 := Kd.R_celln d0 h (i : Int) (by omega) (by omega)
  simpa [rdOf, hx] using h1.1
/-- Block b alone, a map, has been written. -/
theorem StRec.put1 {W W' : World} {g b1 b2 b3 : Nat} {m1 m2 m3 m : List (Str × Value)} (h : StRec W g b1 b2 b3 m1 m2 m3) (hg : W.grownBy W' (some b1)) (hm : MR W' b1 m) (n2 : b2 ≠ b1) (n3 : b3 ≠ b1) : StRec W' g b1 b2 b3 m m2 m3 :=
  ⟨(hg.block g (blk_lt h.cells) (fun e => by have h1 := h.cells; obtain ⟨D, ⟨es, clock, hb, _⟩, _⟩ := h.p1; have e2 : g = b1 := Option.some.inj e; rw [e2, hb] at h1; injection h1 with h1; cases h1)).trans h.cells, hm, h.p2.same (hg.block b2 h.p2.lt (fun e => n2 (Option.some.inj e))), h.p3.same (hg.block b3 h.p3.lt (fun e => n3 (Option.some.inj e)))⟩
theorem StRec.put2 {W W' : World} {g b1 b2 b3 : Nat} {m1 m2 m3 m : List (Str × Value)} (h : StRec W g b1 b2 b3 m1 m2 m3) (hg : W.grownBy W' (some b2)) (hm : MR W' b2 m) (n1 : b1 ≠ b2) (n3 : b3 ≠ b2) : StRec W' g b1 b2 b3 m1 m m3 :=
  ⟨(hg.block g (blk_lt h.cells) (fun e => by have h1 := h.cells; obtain ⟨D, ⟨es, clock, hb, _⟩, _⟩ := h.p2; have e2 : g = b2 := Option.some.inj e; rw [e2, hb] at h1; injection h1 with h1; cases h1)).trans h.cells, h.p1.same (hg.block b1 h.p1.lt (fun e => n1 (Option.some.inj e))), hm, h.p3.same (hg.block b3 h.p3.lt (fun e => n3 (Option.some.inj e)))⟩
theorem StRec.put3 {W W' : World} {g b1 b2 b3 : Nat} {m1 m2 m3 m : List (Str × Value)} (h : StRec W g b1 b2 b3 m1 m2 m3) (hg : W.grownBy W' (some b3)) (hm : MR W' b3 m) (n1 : b1 ≠ b3) (n2 : b2 ≠ b3) : StRec W' g b1 b2 b3 m1 m2 m :=
  ⟨(hg.block g (blk_lt h.cells) (fun e => by have h1 := h.cells; obtain ⟨D, ⟨es, clock, hb, _⟩, _⟩ := h.p3; have e2 : g = b3 := Option.some.inj e; rw [e2, hb] at h1; injection h1 with h1; cases h1)).trans h.cells, h.p1.same (hg.block b1 h.p1.lt (fun e => n1 (Option.some.inj e))), h.p2.same (hg.block b2 h.p2.lt (fun e => n2 (Option.some.inj e))), hm⟩
theorem Pcs.map {W W' : World} {b : Nat} {mm : List (Str × Value)} {m : List (Str × Value)} {l : List (Str × List Int)} (h : Pcs W m l) (hb : MR W b mm) (hg : W.grownBy W' (some b)) : Pcs W' m l :=
  h.same (fun k cells hc => hg.block k (blk_lt hc) (fun e => by obtain ⟨D, ⟨es, clock, hb, _⟩, _⟩ := hb; have e2 : k = b := Option.some.inj e; rw [e2, hb] at hc; injection hc with hc; cases hc))
theorem look_m {W : World} {b : Nat} {m : List (Str × Value)} (h : MR W b m) {t e : TypeId} (ht : Tryz.prog.underlying t = some (.map 9 e)) (z : Value) (hz : ∀ w, (zeroValue e).run Tryz.prog w = .ok z w) {n : ByteArray} (hn : n.size ≤ 100) (nq : Nat) :
    (Instr.lookup t (.map (some b)) (.string n) true).run Tryz.prog (W.drewN nq) = .ok (.tuple #[(get m n.data.toList).getD z, .bool (get m n.data.toList).isSome]) (W.drewN nq) :=
  (h.same (W' := W.drewN nq) rfl).look law9 ht (hz _) (keyOf9 hn)
/-- An action's end: the error, and the state. -/
def ActPost (L : Nat) (g : Nat) (r : Int × St) (W : World) (e : Ending) (w' : World) : Prop := e = .returned (.int .i64 r.1) ∧ StAt (fun k => L ≤ k) w' g r.2 ∧ Below L W w'
/-- An action under way. -/
structure Acting (L : Nat) (W : World) (g b1 b2 b3 : Nat) (m1 : List (Str × Value)) (st : St) (v1 v2 : Value) (w : World) : Prop where
  laid : Laid W g b1 b2 b3 m1 (ints st.chairs) (strs st.loans) v1 v2 w
  pcs : Pcs w m1 st.pieces
  s0 : L ≤ g
  s1 : L ≤ b1
  s2 : L ≤ b2
  s3 : L ≤ b3
  n12 : b1 ≠ b2
  n13 : b1 ≠ b3
  n23 : b2 ≠ b3
theorem Acting.below {L : Nat} {W : World} {g b1 b2 b3 : Nat} {m1 : List (Str × Value)} {st : St} {v1 v2 : Value} {w w2 : World} (h : Acting L W g b1 b2 b3 m1 st v1 v2 w) (hb : Below w.heap.size w w2) : Acting L W g b1 b2 b3 m1 st v1 v2 w2 :=
  ⟨h.laid.below hb, h.pcs.below hb, h.s0, h.s1, h.s2, h.s3, h.n12, h.n13, h.n23⟩
theorem Acting.drewN {L : Nat} {W : World} {g b1 b2 b3 : Nat} {m1 : List (Str × Value)} {st : St} {v1 v2 : Value} {w : World} (h : Acting L W g b1 b2 b3 m1 st v1 v2 w) (nq : Nat) : Acting L W g b1 b2 b3 m1 st v1 v2 (w.drewN nq) :=
  h.below ⟨rfl, rfl, rfl, Nat.le_refl _, fun _ _ => rfl⟩
theorem acting {L : Nat} {W : World} {g b1 b2 b3 : Nat} {m1 : List (Str × Value)} {st : St} (s0 : L ≤ g) (s1 : L ≤ b1) (s2 : L ≤ b2) (s3 : L ≤ b3) (n12 : b1 ≠ b2) (n13 : b1 ≠ b3) (n23 : b2 ≠ b3) (h : StRec W g b1 b2 b3 m1 (ints st.chairs) (strs st.loans)) (hp : Pcs W m1 st.pieces) (v1 v2 : Value) : Acting L W g b1 b2 b3 m1 st v1 v2 (W.alloc (.cells #[v1, v2] 110)) :=
  ⟨Lib10.laid h v1 v2, hp.below (below_alloc (Below.refl _ _) _), s0, s1, s2, s3, n12, n13, n23⟩
theorem Acting.low {L : Nat} {W : World} {g b1 b2 b3 : Nat} {m1 : List (Str × Value)} {st : St} {v1 v2 : Value} {w : World} (h : Acting L W g b1 b2 b3 m1 st v1 v2 w) (hL : L ≤ W.heap.size) : Below L W w := h.laid.bel.mono hL
theorem Acting.no {L : Nat} {W : World} {g b1 b2 b3 : Nat} {m1 : List (Str × Value)} {st : St} {v1 v2 : Value} {w : World} {r : Int × St} {z : Int} (h : Acting L W g b1 b2 b3 m1 st v1 v2 w) (hL : L ≤ W.heap.size) (hr : r = (z, st)) : ActPost L g r W (.returned (.int .i64 z)) w := by
  subst hr
  exact ⟨rfl, ⟨m1, ⟨b1, b2, b3, h.s0, h.s1, h.s2, h.s3, h.n12, h.n13, h.n23, h.laid.st⟩, h.pcs⟩, h.low hL⟩
theorem Acting.done1 {L : Nat} {W : World} {g b1 b2 b3 : Nat} {m1 m : List (Str × Value)} {st : St} {pc : List (Str × List Int)} {v1 v2 : Value} {w w' : World} {r : Int × St} (h : Acting L W g b1 b2 b3 m1 st v1 v2 w) (hL : L ≤ W.heap.size) (hg : w.grownBy w' (some b1)) (hm : MR w' b1 m) (hp : Pcs w m pc) (hr : r = (0, { st with pieces := pc })) : ActPost L g r W (.returned (.int .i64 0)) w' := by
  subst hr
  exact ⟨rfl, ⟨m, ⟨b1, b2, b3, h.s0, h.s1, h.s2, h.s3, h.n12, h.n13, h.n23, h.laid.st.put1 hg hm h.n12.symm h.n13.symm⟩, hp.map h.laid.st.p1 hg⟩, (h.low hL).grown hg (Nat.le_trans hL h.laid.bel.size) (fun k e => by cases e; exact h.s1)⟩
theorem Acting.done2 {L : Nat} {W : World} {g b1 b2 b3 : Nat} {m1 : List (Str × Value)} {st : St} {ch : List (Str × Int)} {v1 v2 : Value} {w w' : World} {r : Int × St} (h : Acting L W g b1 b2 b3 m1 st v1 v2 w) (hL : L ≤ W.heap.size) (hg : w.grownBy w' (some b2)) (hm : MR w' b2 (ints ch)) (hr : r = (0, { st with chairs := ch })) : ActPost L g r W (.returned (.int .i64 0)) w' := by
  subst hr
  exact ⟨rfl, ⟨m1, ⟨b1, b2, b3, h.s0, h.s1, h.s2, h.s3, h.n12, h.n13, h.n23, h.laid.st.put2 hg hm h.n12 h.n23.symm⟩, h.pcs.map h.laid.st.p2 hg⟩, (h.low hL).grown hg (Nat.le_trans hL h.laid.bel.size) (fun k e => by cases e; exact h.s2)⟩
theorem Acting.done3 {L : Nat} {W : World} {g b1 b2 b3 : Nat} {m1 : List (Str × Value)} {st : St} {ls : List (Str × ByteArray)} {v1 v2 : Value} {w w' : World} {r : Int × St} (h : Acting L W g b1 b2 b3 m1 st v1 v2 w) (hL : L ≤ W.heap.size) (hg : w.grownBy w' (some b3)) (hm : MR w' b3 (strs ls)) (hr : r = (0, { st with loans := ls })) : ActPost L g r W (.returned (.int .i64 0)) w' := by
  subst hr
  exact ⟨rfl, ⟨m1, ⟨b1, b2, b3, h.s0, h.s1, h.s2, h.s3, h.n12, h.n13, h.n23, h.laid.st.put3 hg hm h.n13 h.n23⟩, h.pcs.map h.laid.st.p3 hg⟩, (h.low hL).grown hg (Nat.le_trans hL h.laid.bel.size) (fun k e => by cases e; exact h.s3)⟩
theorem wpList_delete_named {P : Program} (w : World) {ops : Array Oper} {rest : List Oper} {o : Oper} {a : Act} {Q : Exit → Act → World → Prop} (hg : o.guard = none) (m x : Operand) (t k e : TypeId) (hop : o.op = Op.call { callee := Callee.builtin Builtin.delete, args := #[m, x], argTypes := #[t, k] })
    (K : Maps.Keyed P k) (ht : P.underlying t = some (.map k e)) (b : Nat) (mm : List (Str × Value)) (hm : a.eval m = .map (some b)) (h : MapRep P k w b mm) (key : Value) (kl : Str) (hx : a.eval x = key) (hkey : keyOf P k key = some (.string kl))
    (hK : ∀ w', MapRep P k w' b (del mm kl) → w.grownBy w' (some b) → w'.heap.size = w.heap.size → wpList P ops Q rest (a.put o.dst (.tuple #[])) w') :
    wpList P ops Q (o :: rest) a w := by
  refine wpList_plain hg fun K' hK' => ?_
  obtain ⟨w', hrun, r1, r2, r3⟩ := h.drop K ht hkey o.type
  unfold Oper.wp
  simp [execOp, hop, resolve, invoke, builtin, hm, hx, hrun, Result.andThen]
  exact hK' _ _ (hK w' r1 r2 r3)
end Go.Proofs.YtoeeipkiadbnpaaGreatDoor.Lib10
end

section
namespace Go.Proofs.YtoeeipkiadbnpaaGreatDoor.Lib10
open Go.RowKit Go.Proofs.YtoeeipkiadbnpaaGreatDoorW.PrintWords Go.Proofs.YtoeeipkiadbnpaaGreatDoorW.PrintLast Go.Proofs.YtoeeipkiadbnpaaGreatDoorW.PrintMore
set_option linter.unusedVariables false
section
set_option maxRecDepth 100000
set_option maxHeartbeats 2000000
theorem lend_calls {L : Nat} {W : World} {g : Nat} {st : St} (h : StAt (fun k => L ≤ k) W g st) (hlen : st.loans.length < 1000) {v1 v2 : Value} {B1 : Nat} {F1 : Nat → Prop} (p n : ByteArray) (hp : p.size ≤ 100) (hn : n.size ≤ 100)
    (h1 : Kd.string.R 9 W B1 F1 v1 [p, n]) : Calls Tryz.prog 68 #[ptr g, .agg #[v1, v2]] W (ActPost L g (lendS st p.data.toList n) W) := by
  obtain ⟨m1, ⟨b1, b2, b3, s0, s1, s2, s3, n12, n13, n23, hr⟩, hpc⟩ := h
  obtain ⟨a1, c1, rfl, l1, k1⟩ := R_cells ByteArray.empty h1 (by simp)
  have kn0 := k1 0 p rfl
  have kn1 := k1 1 n rfl
  clear k1
  have HLow := Aside0.mk (show L ≤ W.heap.size from Nat.le_trans s1 (Nat.le_of_lt hr.p1.lt))
  have HL := Aside0.mk (acting s0 s1 s2 s3 n12 n13 n23 hr hpc (.slice (some ⟨a1, 0, none⟩) 2 c1) (v2))
  go_enter Tryz.func68, Tryz.ntmps68
  go_wp2_with fail
  obtain ⟨W1, hW1⟩ : ∃ W1, W1 = W.alloc (.cells #[.slice (some ⟨a1, 0, none⟩) 2 c1, v2] 110) := ⟨_, rfl⟩
  rw [← hW1] at HL ⊢
  have r0 : W1.cell? ⟨g, 0, none⟩ = some (.map (some b1)) := (blk_cell HL.out.laid.st.cells 0).trans rfl
  have r1 : W1.cell? ⟨g, 1, none⟩ = some (.map (some b2)) := (blk_cell HL.out.laid.st.cells 1).trans rfl
  have r2 : W1.cell? ⟨g, 2, none⟩ = some (.map (some b3)) := (blk_cell HL.out.laid.st.cells 2).trans rfl
  replace kn0 : W1.cell? ⟨a1, 0, none⟩ = some (.string p) := by rw [hW1]; exact (cell_alloc l1 0).trans kn0
  replace kn1 : W1.cell? ⟨a1, 1, none⟩ = some (.string n) := by rw [hW1]; exact (cell_alloc l1 1).trans kn1
  have f0 := HL.out.laid.f0
  have f1 := HL.out.laid.f1
  clear hW1 l1 h1 hr hpc s0 s1 s2 s3 n12 n13 n23
  have hlk := fun nq => look_m HL.out.laid.st.p1 Tryz.underlying124 (.slice none 0 0) (fun w => by first | exact Tryz.zero64 w | (simp [go_sem] <;> rfl)) hp nq
  obtain ⟨olA, holA⟩ : ∃ ol, ol = (get m1 p.data.toList).getD (.slice none 0 0) := ⟨_, rfl⟩
  obtain ⟨thA, hthA⟩ : ∃ th, th = (get m1 p.data.toList).isSome := ⟨_, rfl⟩
  rw [← holA, ← hthA] at hlk
  have HThA := Aside0.mk hthA
  have HOlA := Aside0.mk holA
  clear hthA holA
  go_quiet (fail)
  obtain ⟨W2, hW2⟩ : ∃ w, w = W1.drewN nq := ⟨_, rfl⟩
  have hb2 : Below W1.heap.size W1 W2 := by rw [hW2]; exact ⟨rfl, rfl, rfl, Nat.le_refl _, fun _ _ => rfl⟩
  have HL2 := Aside0.mk (HL.out.below hb2)
  replace r0 := cell_below r0 hb2
  replace r1 := cell_below r1 hb2
  replace r2 := cell_below r2 hb2
  replace kn0 := cell_below kn0 hb2
  replace kn1 := cell_below kn1 hb2
  replace f0 := cell_below f0 hb2
  replace f1 := cell_below f1 hb2
  rw [← hW2]
  clear hW2 hb2 hlk
  have hlk := fun nq => look_m HL2.out.laid.st.p2 Tryz.underlying125 (.int .i64 0) (fun w => by first | exact Tryz.zero3 w | (simp [go_sem] <;> rfl)) hn nq
  obtain ⟨olB, holB⟩ : ∃ ol, ol = (get (ints st.chairs) n.data.toList).getD (.int .i64 0) := ⟨_, rfl⟩
  obtain ⟨thB, hthB⟩ : ∃ th, th = (get (ints st.chairs) n.data.toList).isSome := ⟨_, rfl⟩
  rw [← holB, ← hthB] at hlk
  have HThB := Aside0.mk hthB
  have HOlB := Aside0.mk holB
  clear hthB holB
  go_wp2_with fail
  go_quiet (fail)
  obtain ⟨W3, hW3⟩ : ∃ w, w = W2.drewN nq := ⟨_, rfl⟩
  have hb2 : Below W2.heap.size W2 W3 := by rw [hW3]; exact ⟨rfl, rfl, rfl, Nat.le_refl _, fun _ _ => rfl⟩
  have HL3 := Aside0.mk (HL2.out.below hb2)
  replace r0 := cell_below r0 hb2
  replace r1 := cell_below r1 hb2
  replace r2 := cell_below r2 hb2
  replace kn0 := cell_below kn0 hb2
  replace kn1 := cell_below kn1 hb2
  replace f0 := cell_below f0 hb2
  replace f1 := cell_below f1 hb2
  rw [← hW3]
  clear hW3 hb2 hlk
  have hlk := fun nq => look_m HL3.out.laid.st.p3 Tryz.underlying126 (.string ByteArray.empty) (fun w => by first | exact Tryz.zero9 w | (simp [go_sem] <;> rfl)) hp nq
  obtain ⟨olC, holC⟩ : ∃ ol, ol = (get (strs st.loans) p.data.toList).getD (.string ByteArray.empty) := ⟨_, rfl⟩
  obtain ⟨thC, hthC⟩ : ∃ th, th = (get (strs st.loans) p.data.toList).isSome := ⟨_, rfl⟩
  rw [← holC, ← hthC] at hlk
  have HThC := Aside0.mk hthC
  have HOlC := Aside0.mk holC
  clear hthC holC
  go_wp2_with fail
  go_quiet (fail)
  obtain ⟨W4, hW4⟩ : ∃ w, w = W3.drewN nq := ⟨_, rfl⟩
  have hb2 : Below W3.heap.size W3 W4 := by rw [hW4]; exact ⟨rfl, rfl, rfl, Nat.le_refl _, fun _ _ => rfl⟩
  have HL4 := Aside0.mk (HL3.out.below hb2)
  replace r0 := cell_below r0 hb2
  replace r1 := cell_below r1 hb2
  replace r2 := cell_below r2 hb2
  replace kn0 := cell_below kn0 hb2
  replace kn1 := cell_below kn1 hb2
  replace f0 := cell_below f0 hb2
  replace f1 := cell_below f1 hb2
  rw [← hW4]
  clear hW4 hb2 hlk
  cases thA with
  | false =>
    go_wp2_with fail
    go_ret
    refine HL4.out.no HLow.out ?_
    unfold lendS; rw [show (get st.pieces p.data.toList).isSome = false from by rw [← HL.out.pcs.isSome]; exact HThA.out.symm, show (get st.chairs n.data.toList).isSome = thB from by have h := HThB.out; rw [get_ints, Option.isSome_map] at h; exact h.symm, show (get st.loans p.data.toList).isSome = thC from by have h := HThC.out; rw [get_strs, Option.isSome_map] at h; exact h.symm]; rfl
  | true =>
    cases thB with
    | false =>
      go_wp2_with fail
      go_ret
      refine HL4.out.no HLow.out ?_
      unfold lendS; rw [show (get st.pieces p.data.toList).isSome = true from by rw [← HL.out.pcs.isSome]; exact HThA.out.symm, show (get st.chairs n.data.toList).isSome = false from by have h := HThB.out; rw [get_ints, Option.isSome_map] at h; exact h.symm, show (get st.loans p.data.toList).isSome = thC from by have h := HThC.out; rw [get_strs, Option.isSome_map] at h; exact h.symm]; rfl
    | true =>
      cases thC with
      | true =>
        go_wp2_with fail
        go_ret
        refine HL4.out.no HLow.out ?_
        unfold lendS; rw [show (get st.pieces p.data.toList).isSome = true from by rw [← HL.out.pcs.isSome]; exact HThA.out.symm, show (get st.chairs n.data.toList).isSome = true from by have h := HThB.out; rw [get_ints, Option.isSome_map] at h; exact h.symm, show (get st.loans p.data.toList).isSome = true from by have h := HThC.out; rw [get_strs, Option.isSome_map] at h; exact h.symm]; rfl
      | false =>
        go_wp2_with fail
        go_still_tail 12, (by kernel_rfl)
        change wpList _ _ _ _ _ W4.drew
        obtain ⟨W9, hW9⟩ : ∃ wz, wz = W4.drew := ⟨_, rfl⟩
        have HL9 := Aside0.mk (HL4.out.below (w2 := W9) (by rw [hW9]; exact ⟨rfl, rfl, rfl, Nat.le_refl _, fun _ _ => rfl⟩))
        have hb2 : Below W4.heap.size W4 W9 := by rw [hW9]; exact ⟨rfl, rfl, rfl, Nat.le_refl _, fun _ _ => rfl⟩
        rw [← hW9]
        clear hW9 hb2
        refine wpList_update_named _ rfl _ _ _ 126 rfl 9 9 law9 Tryz.underlying126 b3 (strs st.loans) rfl HL9.out.laid.st.p3 (by rw [length_strs]; exact hlen) (.string p) (.string n) _ rfl rfl (keyOf9 hp) ?_
        intro W5 hm5 hg5 hs5
        have HM5 := Aside0.mk hm5
        have HG5 := Aside0.mk hg5
        clear hm5 hg5 hs5
        go_wp2_with fail
        go_ret
        refine HL9.out.done3 HLow.out HG5.out (by have h := HM5.out; rw [put_strs] at h; exact h) ?_
        unfold lendS; rw [show (get st.pieces p.data.toList).isSome = true from by rw [← HL.out.pcs.isSome]; exact HThA.out.symm, show (get st.chairs n.data.toList).isSome = true from by have h := HThB.out; rw [get_ints, Option.isSome_map] at h; exact h.symm, show (get st.loans p.data.toList).isSome = false from by have h := HThC.out; rw [get_strs, Option.isSome_map] at h; exact h.symm]; rfl
theorem back_calls {L : Nat} {W : World} {g : Nat} {st : St} (h : StAt (fun k => L ≤ k) W g st) {v1 v2 : Value} {B1 : Nat} {F1 : Nat → Prop} (p : ByteArray) (hp : p.size ≤ 100)
    (h1 : Kd.string.R 9 W B1 F1 v1 [p]) : Calls Tryz.prog 69 #[ptr g, .agg #[v1, v2]] W (ActPost L g (backS st p.data.toList) W) := by
  obtain ⟨m1, ⟨b1, b2, b3, s0, s1, s2, s3, n12, n13, n23, hr⟩, hpc⟩ := h
  obtain ⟨a1, c1, rfl, l1, k1⟩ := R_cells ByteArray.empty h1 (by simp)
  have kn0 := k1 0 p rfl
  clear k1
  have HLow := Aside0.mk (show L ≤ W.heap.size from Nat.le_trans s1 (Nat.le_of_lt hr.p1.lt))
  have HL := Aside0.mk (acting s0 s1 s2 s3 n12 n13 n23 hr hpc (.slice (some ⟨a1, 0, none⟩) 1 c1) (v2))
  go_enter Tryz.func69, Tryz.ntmps69
  go_wp2_with fail
  obtain ⟨W1, hW1⟩ : ∃ W1, W1 = W.alloc (.cells #[.slice (some ⟨a1, 0, none⟩) 1 c1, v2] 110) := ⟨_, rfl⟩
  rw [← hW1] at HL ⊢
  have r0 : W1.cell? ⟨g, 0, none⟩ = some (.map (some b1)) := (blk_cell HL.out.laid.st.cells 0).trans rfl
  have r1 : W1.cell? ⟨g, 1, none⟩ = some (.map (some b2)) := (blk_cell HL.out.laid.st.cells 1).trans rfl
  have r2 : W1.cell? ⟨g, 2, none⟩ = some (.map (some b3)) := (blk_cell HL.out.laid.st.cells 2).trans rfl
  replace kn0 : W1.cell? ⟨a1, 0, none⟩ = some (.string p) := by rw [hW1]; exact (cell_alloc l1 0).trans kn0
  have f0 := HL.out.laid.f0
  have f1 := HL.out.laid.f1
  clear hW1 l1 h1 hr hpc s0 s1 s2 s3 n12 n13 n23
  have hlk := fun nq => look_m HL.out.laid.st.p1 Tryz.underlying124 (.slice none 0 0) (fun w => by first | exact Tryz.zero64 w | (simp [go_sem] <;> rfl)) hp nq
  obtain ⟨olA, holA⟩ : ∃ ol, ol = (get m1 p.data.toList).getD (.slice none 0 0) := ⟨_, rfl⟩
  obtain ⟨thA, hthA⟩ : ∃ th, th = (get m1 p.data.toList).isSome := ⟨_, rfl⟩
  rw [← holA, ← hthA] at hlk
  have HThA := Aside0.mk hthA
  have HOlA := Aside0.mk holA
  clear hthA holA
  go_quiet (fail)
  obtain ⟨W2, hW2⟩ : ∃ w, w = W1.drewN nq := ⟨_, rfl⟩
  have hb2 : Below W1.heap.size W1 W2 := by rw [hW2]; exact ⟨rfl, rfl, rfl, Nat.le_refl _, fun _ _ => rfl⟩
  have HL2 := Aside0.mk (HL.out.below hb2)
  replace r0 := cell_below r0 hb2
  replace r1 := cell_below r1 hb2
  replace r2 := cell_below r2 hb2
  replace kn0 := cell_below kn0 hb2
  replace f0 := cell_below f0 hb2
  replace f1 := cell_below f1 hb2
  rw [← hW2]
  clear hW2 hb2 hlk
  have hlk := fun nq => look_m HL2.out.laid.st.p3 Tryz.underlying126 (.string ByteArray.empty) (fun w => by first | exact Tryz.zero9 w | (simp [go_sem] <;> rfl)) hp nq
  obtain ⟨olC, holC⟩ : ∃ ol, ol = (get (strs st.loans) p.data.toList).getD (.string ByteArray.empty) := ⟨_, rfl⟩
  obtain ⟨thC, hthC⟩ : ∃ th, th = (get (strs st.loans) p.data.toList).isSome := ⟨_, rfl⟩
  rw [← holC, ← hthC] at hlk
  have HThC := Aside0.mk hthC
  have HOlC := Aside0.mk holC
  clear hthC holC
  go_wp2_with fail
  go_quiet (fail)
  obtain ⟨W3, hW3⟩ : ∃ w, w = W2.drewN nq := ⟨_, rfl⟩
  have hb2 : Below W2.heap.size W2 W3 := by rw [hW3]; exact ⟨rfl, rfl, rfl, Nat.le_refl _, fun _ _ => rfl⟩
  have HL3 := Aside0.mk (HL2.out.below hb2)
  replace r0 := cell_below r0 hb2
  replace r1 := cell_below r1 hb2
  replace r2 := cell_below r2 hb2
  replace kn0 := cell_below kn0 hb2
  replace f0 := cell_below f0 hb2
  replace f1 := cell_below f1 hb2
  rw [← hW3]
  clear hW3 hb2 hlk
  cases thA with
  | false =>
    go_wp2_with fail
    go_ret
    refine HL3.out.no HLow.out ?_
    unfold backS; rw [show (get st.pieces p.data.toList).isSome = false from by rw [← HL.out.pcs.isSome]; exact HThA.out.symm, show (get st.loans p.data.toList).isSome = thC from by have h := HThC.out; rw [get_strs, Option.isSome_map] at h; exact h.symm]; rfl
  | true =>
    cases thC with
    | false =>
      go_wp2_with fail
      go_ret
      refine HL3.out.no HLow.out ?_
      unfold backS; rw [show (get st.pieces p.data.toList).isSome = true from by rw [← HL.out.pcs.isSome]; exact HThA.out.symm, show (get st.loans p.data.toList).isSome = false from by have h := HThC.out; rw [get_strs, Option.isSome_map] at h; exact h.symm]; rfl
    | true =>
      go_wp2_with fail
      go_still_tail 8, (by kernel_rfl)
      change wpList _ _ _ _ _ W3.drew
      obtain ⟨W9, hW9⟩ : ∃ wz, wz = W3.drew := ⟨_, rfl⟩
      have HL9 := Aside0.mk (HL3.out.below (w2 := W9) (by rw [hW9]; exact ⟨rfl, rfl, rfl, Nat.le_refl _, fun _ _ => rfl⟩))
      have hb2 : Below W3.heap.size W3 W9 := by rw [hW9]; exact ⟨rfl, rfl, rfl, Nat.le_refl _, fun _ _ => rfl⟩
      rw [← hW9]
      clear hW9 hb2
      refine wpList_delete_named _ rfl _ _ 126 9 9 rfl law9 Tryz.underlying126 b3 (strs st.loans) rfl HL9.out.laid.st.p3 (.string p) _ rfl (keyOf9 hp) ?_
      intro W5 hm5 hg5 hs5
      have HM5 := Aside0.mk hm5
      have HG5 := Aside0.mk hg5
      clear hm5 hg5 hs5
      go_wp2_with fail
      go_ret
      refine HL9.out.done3 HLow.out HG5.out (by have h := HM5.out; rw [del_strs] at h; exact h) ?_
      unfold backS; rw [show (get st.pieces p.data.toList).isSome = true from by rw [← HL.out.pcs.isSome]; exact HThA.out.symm, show (get st.loans p.data.toList).isSome = true from by have h := HThC.out; rw [get_strs, Option.isSome_map] at h; exact h.symm]; rfl
theorem burn_calls {L : Nat} {W : World} {g : Nat} {st : St} (h : StAt (fun k => L ≤ k) W g st) {v1 v2 : Value} {B1 : Nat} {F1 : Nat → Prop} (p : ByteArray) (hp : p.size ≤ 100)
    (h1 : Kd.string.R 9 W B1 F1 v1 [p]) : Calls Tryz.prog 71 #[ptr g, .agg #[v1, v2]] W (ActPost L g (burnS st p.data.toList) W) := by
  obtain ⟨m1, ⟨b1, b2, b3, s0, s1, s2, s3, n12, n13, n23, hr⟩, hpc⟩ := h
  obtain ⟨a1, c1, rfl, l1, k1⟩ := R_cells ByteArray.empty h1 (by simp)
  have kn0 := k1 0 p rfl
  clear k1
  have HLow := Aside0.mk (show L ≤ W.heap.size from Nat.le_trans s1 (Nat.le_of_lt hr.p1.lt))
  have HL := Aside0.mk (acting s0 s1 s2 s3 n12 n13 n23 hr hpc (.slice (some ⟨a1, 0, none⟩) 1 c1) (v2))
  go_enter Tryz.func71, Tryz.ntmps71
  go_wp2_with fail
  obtain ⟨W1, hW1⟩ : ∃ W1, W1 = W.alloc (.cells #[.slice (some ⟨a1, 0, none⟩) 1 c1, v2] 110) := ⟨_, rfl⟩
  rw [← hW1] at HL ⊢
  have r0 : W1.cell? ⟨g, 0, none⟩ = some (.map (some b1)) := (blk_cell HL.out.laid.st.cells 0).trans rfl
  have r1 : W1.cell? ⟨g, 1, none⟩ = some (.map (some b2)) := (blk_cell HL.out.laid.st.cells 1).trans rfl
  have r2 : W1.cell? ⟨g, 2, none⟩ = some (.map (some b3)) := (blk_cell HL.out.laid.st.cells 2).trans rfl
  replace kn0 : W1.cell? ⟨a1, 0, none⟩ = some (.string p) := by rw [hW1]; exact (cell_alloc l1 0).trans kn0
  have f0 := HL.out.laid.f0
  have f1 := HL.out.laid.f1
  clear hW1 l1 h1 hr hpc s0 s1 s2 s3 n12 n13 n23
  have hlk := fun nq => look_m HL.out.laid.st.p1 Tryz.underlying124 (.slice none 0 0) (fun w => by first | exact Tryz.zero64 w | (simp [go_sem] <;> rfl)) hp nq
  obtain ⟨olA, holA⟩ : ∃ ol, ol = (get m1 p.data.toList).getD (.slice none 0 0) := ⟨_, rfl⟩
  obtain ⟨thA, hthA⟩ : ∃ th, th = (get m1 p.data.toList).isSome := ⟨_, rfl⟩
  rw [← holA, ← hthA] at hlk
  have HThA := Aside0.mk hthA
  have HOlA := Aside0.mk holA
  clear hthA holA
  go_quiet (fail)
  obtain ⟨W2, hW2⟩ : ∃ w, w = W1.drewN nq := ⟨_, rfl⟩
  have hb2 : Below W1.heap.size W1 W2 := by rw [hW2]; exact ⟨rfl, rfl, rfl, Nat.le_refl _, fun _ _ => rfl⟩
  have HL2 := Aside0.mk (HL.out.below hb2)
  replace r0 := cell_below r0 hb2
  replace r1 := cell_below r1 hb2
  replace r2 := cell_below r2 hb2
  replace kn0 := cell_below kn0 hb2
  replace f0 := cell_below f0 hb2
  replace f1 := cell_below f1 hb2
  rw [← hW2]
  clear hW2 hb2 hlk
  have hlk := fun nq => look_m HL2.out.laid.st.p3 Tryz.underlying126 (.string ByteArray.empty) (fun w => by first | exact Tryz.zero9 w | (simp [go_sem] <;> rfl)) hp nq
  obtain ⟨olC, holC⟩ : ∃ ol, ol = (get (strs st.loans) p.data.toList).getD (.string ByteArray.empty) := ⟨_, rfl⟩
  obtain ⟨thC, hthC⟩ : ∃ th, th = (get (strs st.loans) p.data.toList).isSome := ⟨_, rfl⟩
  rw [← holC, ← hthC] at hlk
  have HThC := Aside0.mk hthC
  have HOlC := Aside0.mk holC
  clear hthC holC
  go_wp2_with fail
  go_quiet (fail)
  obtain ⟨W3, hW3⟩ : ∃ w, w = W2.drewN nq := ⟨_, rfl⟩
  have hb2 : Below W2.heap.size W2 W3 := by rw [hW3]; exact ⟨rfl, rfl, rfl, Nat.le_refl _, fun _ _ => rfl⟩
  have HL3 := Aside0.mk (HL2.out.below hb2)
  replace r0 := cell_below r0 hb2
  replace r1 := cell_below r1 hb2
  replace r2 := cell_below r2 hb2
  replace kn0 := cell_below kn0 hb2
  replace f0 := cell_below f0 hb2
  replace f1 := cell_below f1 hb2
  rw [← hW3]
  clear hW3 hb2 hlk
  cases thA with
  | false =>
    go_wp2_with fail
    go_ret
    refine HL3.out.no HLow.out ?_
    unfold burnS; rw [show (get st.pieces p.data.toList).isSome = false from by rw [← HL.out.pcs.isSome]; exact HThA.out.symm, show (get st.loans p.data.toList).isSome = thC from by have h := HThC.out; rw [get_strs, Option.isSome_map] at h; exact h.symm]; rfl
  | true =>
    cases thC with
    | true =>
      go_wp2_with fail
      go_ret
      refine HL3.out.no HLow.out ?_
      unfold burnS; rw [show (get st.pieces p.data.toList).isSome = true from by rw [← HL.out.pcs.isSome]; exact HThA.out.symm, show (get st.loans p.data.toList).isSome = true from by have h := HThC.out; rw [get_strs, Option.isSome_map] at h; exact h.symm]; rfl
    | false =>
      go_wp2_with fail
      go_still_tail 8, (by kernel_rfl)
      change wpList _ _ _ _ _ W3.drew
      obtain ⟨W9, hW9⟩ : ∃ wz, wz = W3.drew := ⟨_, rfl⟩
      have HL9 := Aside0.mk (HL3.out.below (w2 := W9) (by rw [hW9]; exact ⟨rfl, rfl, rfl, Nat.le_refl _, fun _ _ => rfl⟩))
      have hb2 : Below W3.heap.size W3 W9 := by rw [hW9]; exact ⟨rfl, rfl, rfl, Nat.le_refl _, fun _ _ => rfl⟩
      rw [← hW9]
      clear hW9 hb2
      refine wpList_delete_named _ rfl _ _ 124 9 64 rfl law9 Tryz.underlying124 b1 m1 rfl HL9.out.laid.st.p1 (.string p) _ rfl (keyOf9 hp) ?_
      intro W5 hm5 hg5 hs5
      have HM5 := Aside0.mk hm5
      have HG5 := Aside0.mk hg5
      clear hm5 hg5 hs5
      go_wp2_with fail
      go_ret
      refine HL9.out.done1 HLow.out HG5.out HM5.out (HL9.out.pcs.del p.data.toList) ?_
      unfold burnS; rw [show (get st.pieces p.data.toList).isSome = true from by rw [← HL.out.pcs.isSome]; exact HThA.out.symm, show (get st.loans p.data.toList).isSome = false from by have h := HThC.out; rw [get_strs, Option.isSome_map] at h; exact h.symm]; rfl
end
end Go.Proofs.YtoeeipkiadbnpaaGreatDoor.Lib10
end

section
namespace Go.Proofs.YtoeeipkiadbnpaaGreatDoor.Lib10
open Go.RowKit Go.Proofs.YtoeeipkiadbnpaaGreatDoorW.PrintWords Go.Proofs.YtoeeipkiadbnpaaGreatDoorW.PrintLast Go.Proofs.YtoeeipkiadbnpaaGreatDoorW.PrintMore
set_option linter.unusedVariables false
section
set_option maxRecDepth 100000
set_option maxHeartbeats 2000000
theorem piece_calls {L : Nat} {W : World} {g : Nat} {st : St} (h : StAt (fun k => L ≤ k) W g st) (hlen : st.pieces.length < 1000) {v1 v2 : Value} {B1 B2 : Nat} {F1 F2 : Nat → Prop} (p : ByteArray) (xs : List Int) (hxs : xs ≠ []) (hx64 : xs.length ≤ 1000) (hp : p.size ≤ 100)
    (h1 : Kd.string.R 9 W B1 F1 v1 [p]) (h2 : (Kd.int .i64).R 3 W B2 F2 v2 xs) (hB2 : 9 ≤ B2) : Calls Tryz.prog 66 #[ptr g, .agg #[v1, v2]] W (ActPost L g (pieceS st p.data.toList xs) W) := by
  obtain ⟨a2, c2, rfl, l2, k2⟩ := R_cells (0 : Int) h2 hxs
  have HR2 := Aside0.mk (show (Kd.int .i64).R 3 W 9 (fun _ => True) (.slice (some ⟨a2, 0, none⟩) xs.length c2) xs from Kd.R_mono (Kd.R_lower h2 hB2) (fun _ _ => trivial))
  have HRd := Aside0.mk (Kd.R_reads' h2).2.1
  clear h2
  obtain ⟨m1, ⟨b1, b2, b3, s0, s1, s2, s3, n12, n13, n23, hr⟩, hpc⟩ := h
  obtain ⟨a1, c1, rfl, l1, k1⟩ := R_cells ByteArray.empty h1 (by simp)
  have kn0 := k1 0 p rfl
  clear k1
  have HLow := Aside0.mk (show L ≤ W.heap.size from Nat.le_trans s1 (Nat.le_of_lt hr.p1.lt))
  have HL := Aside0.mk (acting s0 s1 s2 s3 n12 n13 n23 hr hpc (.slice (some ⟨a1, 0, none⟩) 1 c1) (.slice (some ⟨a2, 0, none⟩) xs.length c2))
  go_enter Tryz.func66, Tryz.ntmps66
  go_wp2_with fail
  obtain ⟨W1, hW1⟩ : ∃ W1, W1 = W.alloc (.cells #[.slice (some ⟨a1, 0, none⟩) 1 c1, .slice (some ⟨a2, 0, none⟩) xs.length c2] 110) := ⟨_, rfl⟩
  rw [← hW1] at HL ⊢
  have r0 : W1.cell? ⟨g, 0, none⟩ = some (.map (some b1)) := (blk_cell HL.out.laid.st.cells 0).trans rfl
  have r1 : W1.cell? ⟨g, 1, none⟩ = some (.map (some b2)) := (blk_cell HL.out.laid.st.cells 1).trans rfl
  have r2 : W1.cell? ⟨g, 2, none⟩ = some (.map (some b3)) := (blk_cell HL.out.laid.st.cells 2).trans rfl
  replace kn0 : W1.cell? ⟨a1, 0, none⟩ = some (.string p) := by rw [hW1]; exact (cell_alloc l1 0).trans kn0
  have f0 := HL.out.laid.f0
  have f1 := HL.out.laid.f1
  have HC2 := Aside0.mk (show (Kd.int .i64).R 3 W1 9 (fun _ => True) (.slice (some ⟨a2, 0, none⟩) xs.length c2) xs from by rw [hW1]; exact Kd.R_below HR2.out (below_alloc (Below.refl _ _) _))
  clear hW1 l1 h1 hr hpc s0 s1 s2 s3 n12 n13 n23
  clear k2 l2
  have hlk := fun nq => look_m HL.out.laid.st.p1 Tryz.underlying124 (.slice none 0 0) (fun w => by first | exact Tryz.zero64 w | (simp [go_sem] <;> rfl)) hp nq
  obtain ⟨olA, holA⟩ : ∃ ol, ol = (get m1 p.data.toList).getD (.slice none 0 0) := ⟨_, rfl⟩
  obtain ⟨thA, hthA⟩ : ∃ th, th = (get m1 p.data.toList).isSome := ⟨_, rfl⟩
  rw [← holA, ← hthA] at hlk
  have HThA := Aside0.mk hthA
  have HOlA := Aside0.mk holA
  clear hthA holA
  go_quiet (fail)
  obtain ⟨W2, hW2⟩ : ∃ w, w = W1.drewN nq := ⟨_, rfl⟩
  have hb2 : Below W1.heap.size W1 W2 := by rw [hW2]; exact ⟨rfl, rfl, rfl, Nat.le_refl _, fun _ _ => rfl⟩
  have HL2 := Aside0.mk (HL.out.below hb2)
  replace r0 := cell_below r0 hb2
  replace r1 := cell_below r1 hb2
  replace r2 := cell_below r2 hb2
  replace kn0 := cell_below kn0 hb2
  replace f0 := cell_below f0 hb2
  replace f1 := cell_below f1 hb2
  replace HC2 := Aside0.mk (Kd.R_below HC2.out hb2)
  rw [← hW2]
  clear hW2 hb2 hlk
  cases thA with
  | true =>
    go_wp2_with fail
    go_ret
    refine HL2.out.no HLow.out ?_
    unfold pieceS; rw [show (get st.pieces p.data.toList).isSome = true from by rw [← HL.out.pcs.isSome]; exact HThA.out.symm]; rfl
  | false =>
    have HK2 := Aside0.mk (show ∀ i, i < xs.length → W2.cell? ⟨a2, 0 + i, none⟩ = some (.int .i64 (xs.getD i 0)) from fun i hi => by have h := (Kd.R_celln (0 : Int) HC2.out (i : Int) (by omega) (by omega)).1; simpa [rdOf, hi] using h)
    have HMax := Aside0.mk (Tryz.slices_Max_int a2 0 xs.length c2 xs W2 (List.length_pos_iff.2 hxs) (Nat.le_refl _) (by omega) HK2.out)
    rw [List.take_length] at HMax
    obtain ⟨mx, hmx⟩ : ∃ mx, mx = Lib.maxOf xs := ⟨_, rfl⟩
    rw [← hmx] at HMax
    have HMx := Aside0.mk hmx
    clear hmx
    have hln := fun ty => HL2.out.laid.st.p1.len Tryz.underlying124 ty
    obtain ⟨ml, hml⟩ : ∃ ml, ml = m1.length := ⟨_, rfl⟩
    rw [← hml] at hln
    have HMl := Aside0.mk (hml.trans HL.out.pcs.length)
    clear hml
    by_cases hgt : 20 < mx
    ·
      have HGt := Aside0.mk hgt
      have d1 : decide (20 < mx) = true := decide_eq_true hgt
      clear hgt
      go_wp2_with (go_at_call 110; refine HMax.out.mono ?_; rintro e w ⟨rfl, rfl⟩)
      go_ret
      refine HL2.out.no HLow.out ?_
      unfold pieceS; rw [show (get st.pieces p.data.toList).isSome = false from by rw [← HL.out.pcs.isSome]; exact HThA.out.symm]; rw [if_neg (by decide), if_pos (by rw [← HMx.out]; exact HGt.out)]
    ·
      have HGt := Aside0.mk hgt
      have d1 : decide (20 < mx) = false := decide_eq_false hgt
      clear hgt
      by_cases he8 : ml = 8
      ·
        have HE := Aside0.mk he8
        have d2 : ((ml : Int) == 8) = true := beq_iff_eq.2 (by omega)
        clear he8
        go_wp2_with (go_at_call 110; refine HMax.out.mono ?_; rintro e w ⟨rfl, rfl⟩)
        go_ret
        refine HL2.out.no HLow.out ?_
        unfold pieceS; rw [show (get st.pieces p.data.toList).isSome = false from by rw [← HL.out.pcs.isSome]; exact HThA.out.symm]; rw [if_neg (by decide), if_neg (by rw [← HMx.out]; have := HGt.out; omega), if_pos (by rw [← HMl.out]; exact HE.out)]
      ·
        have HE := Aside0.mk he8
        have d2 : ((ml : Int) == 8) = false := beq_eq_false_iff_ne.2 (by omega)
        clear he8
        go_wp2_with (go_at_call 110; refine HMax.out.mono ?_; rintro e w ⟨rfl, rfl⟩)
        clear hln
        go_still_tail 10, (by kernel_rfl)
        change wpList _ _ _ _ _ w.drew
        obtain ⟨W9, hW9⟩ : ∃ wz, wz = w.drew := ⟨_, rfl⟩
        have HL9 := Aside0.mk (HL2.out.below (w2 := W9) (by rw [hW9]; exact ⟨rfl, rfl, rfl, Nat.le_refl _, fun _ _ => rfl⟩))
        have hb2 : Below w.heap.size w W9 := by rw [hW9]; exact ⟨rfl, rfl, rfl, Nat.le_refl _, fun _ _ => rfl⟩
        replace HC2 := Aside0.mk (Kd.R_below HC2.out hb2)
        rw [← hW9]
        clear hW9 hb2
        refine wpList_update_named _ rfl _ _ _ 124 rfl 9 64 law9 Tryz.underlying124 b1 m1 rfl HL9.out.laid.st.p1 (by rw [HL9.out.pcs.length]; exact hlen) (.string p) (.slice (some ⟨a2, 0, none⟩) xs.length c2) _ rfl rfl (keyOf9 hp) ?_
        intro W5 hm5 hg5 hs5
        have HM5 := Aside0.mk hm5
        have HG5 := Aside0.mk hg5
        clear hm5 hg5 hs5
        go_wp2_with fail
        go_ret
        refine HL9.out.done1 HLow.out HG5.out HM5.out (HL9.out.pcs.put p.data.toList HC2.out) ?_
        unfold pieceS; rw [show (get st.pieces p.data.toList).isSome = false from by rw [← HL.out.pcs.isSome]; exact HThA.out.symm]; rw [if_neg (by decide), if_neg (by rw [← HMx.out]; have := HGt.out; omega), if_neg (by rw [← HMl.out]; exact HE.out)]
end
end Go.Proofs.YtoeeipkiadbnpaaGreatDoor.Lib10
end

section
namespace Go.Proofs.YtoeeipkiadbnpaaGreatDoor.Lib10
open Go.RowKit Go.Proofs.YtoeeipkiadbnpaaGreatDoorW.PrintWords Go.Proofs.YtoeeipkiadbnpaaGreatDoorW.PrintLast Go.Proofs.YtoeeipkiadbnpaaGreatDoorW.PrintMore
set_option linter.unusedVariables false
set_option linter.unusedSimpArgs false
/-- What reading gives. -/
def ReadEnd (r : Option (List ByteArray × List Int)) (W : World) (e : Ending) (w' : World) : Prop := (match r with
  | some x => ∃ v1 v2, e = .returned (.tuple #[.agg #[v1, v2], .bool true]) ∧ Kd.string.R 9 w' W.heap.size (fun j => W.heap.size ≤ j) v1 x.1 ∧ (Kd.int .i64).R 3 w' W.heap.size (fun j => W.heap.size ≤ j) v2 x.2
  | none => e = .returned (.tuple #[.agg #[.slice none 0 0, .slice none 0 0], .bool false])) ∧ Below W.heap.size W w'
section
set_option maxRecDepth 100000
set_option maxHeartbeats 2000000
theorem read_few (x text : ByteArray) (W : World) (hT : Tabs W) (hs : text.size < 4294967281) (hx : Lib.hasSuffix x.data.toList [43] = false) (hm100 : x.size ≤ 100) (m : Nat) (hw : (wordsB text).length = m + 1) (hm : m ≠ x.size) :
    Calls Tryz.prog 72 #[.string x, .string text] W (ReadEnd none W) := by
  have HG := Aside0.mk (begun x text W hT hs m hw)
  have HX := Aside0.mk (fun w => cutPlus x w hx hm100)
  have HC := Aside0.mk (show ((W.alloc (.cells #[.slice none 0 0, .slice none 0 0] 110)).alloc (.cells ((wordsB text).map Value.string).toArray 9)).heap[W.heap.size]? = some (boxO (.slice none 0 0) (.slice none 0 0)) from (Below.heap_alloc _ _ _ (by simp)).trans (World.alloc_heap_new W (.cells #[.slice none 0 0, .slice none 0 0] 110)))
  have hwd : ((W.alloc (.cells #[.slice none 0 0, .slice none 0 0] 110)).alloc (.cells ((wordsB text).map Value.string).toArray 9)).heap[W.heap.size + 1]? = some (.cells ((wordsB text).map Value.string).toArray 9 (0, 0)) := by
    have hn := World.alloc_heap_new (W.alloc (.cells #[.slice none 0 0, .slice none 0 0] 110)) (.cells ((wordsB text).map Value.string).toArray 9)
    rw [World.size_alloc] at hn
    exact hn
  have HWd := Aside0.mk hwd
  have HTW := Aside0.mk hT
  have d1 : ((m : Int) != (x.size : Int)) = true := bne_iff_ne.2 (by omega)
  have hc := HC.out
  have k0 := (blk_cell hc 0).trans rfl
  have k1 := (blk_cell hc 1).trans rfl
  have z0 := blk_frozen hc 0
  have z1 := blk_frozen hc 1
  clear hT hx hw hwd hc hm
  go_enter Tryz.func72, Tryz.ntmps72
  go_wp2_with (first | (go_at_call 36; refine HG.out.split.mono ?_; rintro e w' ⟨rfl, rfl⟩) | (go_at_call 113; refine (HX.out _).mono ?_; rintro e w' ⟨rfl, rfl⟩))
  all_goals
    have p1 := blk_put (cs := #[.slice none 0 0, .slice none 0 0]) HC.out 0 (.slice none 0 0) rfl
    have p2 := blk_put (cs := #[.slice none 0 0, .slice none 0 0]) p1 1 (.slice none 0 0) rfl
    have e0 := (blk_cell p2 0).trans rfl
    have e1 := (blk_cell p2 1).trans rfl
    refine bodyPost_ret (v := .tuple #[.agg #[.slice none 0 0, .slice none 0 0], .bool false]) (by simp [results, Tryz.results72, go_sem, e0, e1]) rfl ⟨?_, ?_⟩
    · rfl
    · first | exact below_set (below_set (HG.out.bel) (Nat.le_refl _)) (Nat.le_refl _) | exact HG.out.bel
theorem read_bad (x text : ByteArray) (W : World) (hT : Tabs W) (hs : text.size < 4294967281) (hx : Lib.hasSuffix x.data.toList [43] = false) (hm100 : x.size ≤ 100) (m : Nat) (hw : (wordsB text).length = m + 1) (hm : m = x.size) (hline : isLineB text = false) :
    Calls Tryz.prog 72 #[.string x, .string text] W (ReadEnd none W) := by
  have HG := Aside0.mk (begun x text W hT hs m hw)
  have HX := Aside0.mk (fun w => cutPlus x w hx hm100)
  have HLine := Aside0.mk (isLine_calls text _ HG.out.tabs hs)
  rw [hline] at HLine
  have HC := Aside0.mk (show ((W.alloc (.cells #[.slice none 0 0, .slice none 0 0] 110)).alloc (.cells ((wordsB text).map Value.string).toArray 9)).heap[W.heap.size]? = some (boxO (.slice none 0 0) (.slice none 0 0)) from (Below.heap_alloc _ _ _ (by simp)).trans (World.alloc_heap_new W (.cells #[.slice none 0 0, .slice none 0 0] 110)))
  have hwd : ((W.alloc (.cells #[.slice none 0 0, .slice none 0 0] 110)).alloc (.cells ((wordsB text).map Value.string).toArray 9)).heap[W.heap.size + 1]? = some (.cells ((wordsB text).map Value.string).toArray 9 (0, 0)) := by
    have hn := World.alloc_heap_new (W.alloc (.cells #[.slice none 0 0, .slice none 0 0] 110)) (.cells ((wordsB text).map Value.string).toArray 9)
    rw [World.size_alloc] at hn
    exact hn
  have HWd := Aside0.mk hwd
  have HTW := Aside0.mk hT
  have d1 : ((m : Int) != (x.size : Int)) = false := bne_eq_false_iff_eq.2 (by omega)
  clear hT hx hw hwd hm hline
  go_enter Tryz.func72, Tryz.ntmps72
  go_wp2_with (first | (go_at_call 36; refine HG.out.split.mono ?_; rintro e w' ⟨rfl, rfl⟩) | (go_at_call 113; refine (HX.out _).mono ?_; rintro e w' ⟨rfl, rfl⟩) | (go_at_call 115; refine HLine.out.mono ?_; rintro e w2 ⟨rfl, hb⟩; have HB2 := Aside0.mk hb; have hc2 := (hb.block W.heap.size (blk_lt HC.out)).trans HC.out; have k0 := (blk_cell hc2 0).trans rfl; have k1 := (blk_cell hc2 1).trans rfl; have z0 := blk_frozen hc2 0; have z1 := blk_frozen hc2 1; have HC2 := Aside0.mk hc2; clear hb hc2))
  all_goals
    have p1 := blk_put (cs := #[.slice none 0 0, .slice none 0 0]) HC2.out 0 (.slice none 0 0) rfl
    have p2 := blk_put (cs := #[.slice none 0 0, .slice none 0 0]) p1 1 (.slice none 0 0) rfl
    have e0 := (blk_cell p2 0).trans rfl
    have e1 := (blk_cell p2 1).trans rfl
    refine bodyPost_ret (v := .tuple #[.agg #[.slice none 0 0, .slice none 0 0], .bool false]) (by simp [results, Tryz.results72, go_sem, e0, e1]) rfl ⟨?_, ?_⟩
    · rfl
    · first | exact below_set (below_set (HG.out.bel.trans (HB2.out.mono HG.out.bel.size)) (Nat.le_refl _)) (Nat.le_refl _) | exact HG.out.bel.trans (HB2.out.mono HG.out.bel.size)
theorem read_line {m : Nat} (F text : ByteArray) (W : World) (hT : Tabs W) (hs : text.size < 4294967281) (hx : Lib.hasSuffix F.data.toList [43] = false) (hm100 : m ≤ 100) (m0 : m ≠ 0) (hw : (wordsB text).length = m + 1) (hm : F.size = m) (hline : isLineB text = true) :
    Calls Tryz.prog 72 #[.string F, .string text] W (ReadEnd (sortV F.data.toList (wordsB text).tail) W) := by
  have HG := Aside0.mk (begun F text W hT hs m hw)
  have HX := Aside0.mk (fun w => cutPlus F w hx (by omega))
  have HLine := Aside0.mk (isLine_calls text _ HG.out.tabs hs)
  rw [hline] at HLine
  have HC := Aside0.mk (show ((W.alloc (.cells #[.slice none 0 0, .slice none 0 0] 110)).alloc (.cells ((wordsB text).map Value.string).toArray 9)).heap[W.heap.size]? = some (boxO (.slice none 0 0) (.slice none 0 0)) from (Below.heap_alloc _ _ _ (by simp)).trans (World.alloc_heap_new W (.cells #[.slice none 0 0, .slice none 0 0] 110)))
  have hwd : ((W.alloc (.cells #[.slice none 0 0, .slice none 0 0] 110)).alloc (.cells ((wordsB text).map Value.string).toArray 9)).heap[W.heap.size + 1]? = some (.cells ((wordsB text).map Value.string).toArray 9 (0, 0)) := by
    have hn := World.alloc_heap_new (W.alloc (.cells #[.slice none 0 0, .slice none 0 0] 110)) (.cells ((wordsB text).map Value.string).toArray 9)
    rw [World.size_alloc] at hn
    exact hn
  have HWd := Aside0.mk hwd
  have HTW := Aside0.mk hT
  have d1 : ((m : Int) != (F.size : Int)) = false := bne_eq_false_iff_eq.2 (by omega)
  have HLen := Aside0.mk (And.intro hw hm)
  obtain ⟨res, hres⟩ : ∃ res, res = sortV F.data.toList (wordsB text).tail := ⟨_, rfl⟩
  rw [← hres]
  have HSort := Aside0.mk hres
  clear hT hx hw hwd hm hline hres
  go_enter Tryz.func72, Tryz.ntmps72
  go_wp2_with (first | (go_at_call 36; refine HG.out.split.mono ?_; rintro e w' ⟨rfl, rfl⟩) | (go_at_call 113; refine (HX.out _).mono ?_; rintro e w' ⟨rfl, rfl⟩) | (go_at_call 115; refine HLine.out.mono ?_; rintro e w2 ⟨rfl, hb⟩; have HB2 := Aside0.mk hb; clear hb))
  have HU := Aside0.mk (show Under W W.heap.size ((wordsB text).map Value.string).toArray w2 (.slice none 0 0) (.slice none 0 0) [] [] from ⟨(HB2.out.block W.heap.size (blk_lt HC.out)).trans HC.out, (HB2.out.block _ (blk_lt HWd.out)).trans HWd.out, Kd.R_nil _ _ _ _ _, Kd.R_nil _ _ _ _ _, HG.out.bel.trans (HB2.out.mono HG.out.bel.size)⟩)
  go_loopw [62] (fun v62 wr => ∃ (k : Nat) (ns : List ByteArray) (is : List Int) (v1 v2 : Value), k ≤ m ∧ v62 = .int .i64 k ∧
      Aside0 (ns.length ≤ k ∧ is.length ≤ k) ∧ Aside0 (sortV F.data.toList (wordsB text).tail = (sortV (F.data.toList.drop k) ((wordsB text).tail.drop k)).map fun r => (ns ++ r.1, is ++ r.2)) ∧ Aside0 (Under W W.heap.size ((wordsB text).map Value.string).toArray wr v1 v2 ns is)) (fun v62 _ => m - (intOf v62).toNat)
  case atStart => exact ⟨0, [], [], _, _, Nat.zero_le _, rfl, ⟨⟨Nat.le_refl _, Nat.le_refl _⟩⟩, ⟨by simp⟩, HU⟩
  case round =>
    obtain ⟨k, ns, is, v1, v2, hk, rfl, hl, hr, hu⟩ := hrel
    by_cases hlt : k < m
    · have i0 : (0 : Int) ≤ (k : Int) := by omega
      have i1 : (k : Int) < (m : Int) := by omega
      have i2 : (k : Int) < (F.size : Int) := by have := HLen.out.2; omega
      have hkx : k < F.data.toList.length := by have := HLen.out.2; simp; omega
      have hkw : k < (wordsB text).tail.length := by have := HLen.out.1; simp; omega
      have hr1 := hr.out
      rw [List.drop_eq_getElem_cons hkx, List.drop_eq_getElem_cons hkw] at hr1
      obtain ⟨s, hs'⟩ : ∃ s, (wordsB text).tail[k] = s := ⟨_, rfl⟩
      obtain ⟨cb, hcb⟩ : ∃ cb, F.data.toList[k] = cb := ⟨_, rfl⟩
      rw [hs', hcb] at hr1
      have hkx2 : k < F.size := by simpa using hkx
      have hbt : F[k]'hkx2 = cb := hcb
      have hsz : s.size ≤ 140737488355328 := by
        have := word_size text s (by rw [← hs']; exact List.mem_of_mem_tail (List.getElem_mem _))
        omega
      have hx1 : wr.cell? ⟨W.heap.size + 1, 1 + k, none⟩ = some (.string s) := by
        rw [blk_cell hu.out.words (1 + k)]
        have hj2 : (wordsB text)[k + 1]? = some s := by
          rw [← hs', List.getElem_tail, List.getElem?_eq_getElem]
        simp [Nat.add_comm 1 k, hj2]
      have q0 := (blk_cell hu.out.box 0).trans rfl
      have q1 := (blk_cell hu.out.box 1).trans rfl
      have HHs := Aside0.mk hs'
      have HHc := Aside0.mk hcb
      clear hs' hcb
      replace i0 := eq_true i0
      replace i1 := eq_true i1
      by_cases hc : cb = 110
      · rw [sortV, if_pos hc] at hr1
        by_cases hn : isNameB s.data.toList = true
        · rw [if_pos hn] at hr1
          have HR1 := Aside0.mk hr1
          have hcn : (((F[k]'hkx2).toNat : Int) == 110) = true := by rw [hbt, hc]; rfl
          have HN := Aside0.mk (fun w => isName_calls s w hsz)
          rw [hn] at HN
          clear hr1 hn
          obtain ⟨A1, c1, hv1⟩ := Kd.R_slice hu.out.r1
          subst hv1
          have HBig := Aside0.mk hu.out.bel.size
          have HM := Aside0.mk hm100
          have HLt := Aside0.mk (blk_lt hu.out.words)
          have HLn := Aside0.mk hl.out.1
          clear hbt hc
          go_wp2_with (first | (go_at_call 116; refine (HN.out _).mono ?_; rintro e w8 ⟨rfl, hb8⟩; have HB8 := Aside0.mk hb8; clear hb8) | (at_builtin; go_loud (refine Kd.R_append Kd.string (w0 := W) W.heap.size rfl (.tmp 72) (.tmp 74) 22 9 (.string ByteArray.empty) 16 rfl Tryz.underlying22 info9 rfl (by decide) (by omega) (.slice A1 ns.length c1) ns s [.string s] (fun j => W.heap.size ≤ j ∧ j ≠ W.heap.size + 1) (fun _ => False) rfl rfl rfl (fun _ hk => hk.elim) (fun j hj => ⟨Nat.le_trans HBig.out hj, by have := HLt.out; omega⟩) hu.out.r1 hu.out.bel HBig.out (by have := HM.out; have := HLn.out; omega) ?_); intro v7 w7 hq7 hb7 hg7 hat7; obtain ⟨A7, c7, rfl⟩ := Kd.R_slice hq7; have HN7 := Aside0.mk (named hu.out hq7 hb7 hg7 (Nat.le_refl _)); have p7 := blk_cell HN7.out.1 0; have z7 := blk_frozen HN7.out.1 0; clear hq7 hb7 hg7 hat7))
          have hl7 : (ns ++ [s]).length = ns.length + 1 := by simp
          rw [hl7] at HN7
          refine ⟨⟨k + 1, ns ++ [s], is, .slice A7 (ns.length + 1) c7, v2, by omega, rfl, ⟨by simp; have := hl.out; omega⟩, ⟨?_⟩, ⟨HN7.out.2.below HB8.out⟩⟩, by simp [intOf]; omega⟩
          rw [HR1.out, Option.map_map]
          congr 1
          funext r
          simp
        · have hnf : isNameB s.data.toList = false := by simpa using hn
          rw [if_neg hn] at hr1
          have HR1 := Aside0.mk hr1
          have hcn : (((F[k]'hkx2).toNat : Int) == 110) = true := by rw [hbt, hc]; rfl
          have HN := Aside0.mk (fun w => isName_calls s w hsz)
          rw [hnf] at HN
          clear hr1 hn hnf
          obtain ⟨A1, c1, hv1⟩ := Kd.R_slice hu.out.r1
          subst hv1
          have HBig := Aside0.mk hu.out.bel.size
          have HM := Aside0.mk hm100
          have HLt := Aside0.mk (blk_lt hu.out.words)
          have HLn := Aside0.mk hl.out.1
          clear hbt hc
          go_wp2_with (first | (go_at_call 116; refine (HN.out _).mono ?_; rintro e w8 ⟨rfl, hb8⟩; have HB8 := Aside0.mk hb8; have HX8 := HN7.out.2.box; rw [show (ns ++ [s]).length = ns.length + 1 by simp] at HX8; go_loud (have hd8 := (hb8.block W.heap.size (blk_lt HX8)).trans HX8); go_loud (have z0 := blk_frozen hd8 0; have z1 := blk_frozen hd8 1; have y0 := (blk_cell hd8 0).trans rfl; have y1 := (blk_cell hd8 1).trans rfl); have HD8 := Aside0.mk hd8; clear hb8 HX8 hd8) | (at_builtin; go_loud (refine Kd.R_append Kd.string (w0 := W) W.heap.size rfl (.tmp 72) (.tmp 74) 22 9 (.string ByteArray.empty) 16 rfl Tryz.underlying22 info9 rfl (by decide) (by omega) (.slice A1 ns.length c1) ns s [.string s] (fun j => W.heap.size ≤ j ∧ j ≠ W.heap.size + 1) (fun _ => False) rfl rfl rfl (fun _ hk => hk.elim) (fun j hj => ⟨Nat.le_trans HBig.out hj, by have := HLt.out; omega⟩) hu.out.r1 hu.out.bel HBig.out (by have := HM.out; have := HLn.out; omega) ?_); intro v7 w7 hq7 hb7 hg7 hat7; obtain ⟨A7, c7, rfl⟩ := Kd.R_slice hq7; have HN7 := Aside0.mk (named hu.out hq7 hb7 hg7 (Nat.le_refl _)); have p7 := blk_cell HN7.out.1 0; have z7 := blk_frozen HN7.out.1 0; clear hq7 hb7 hg7 hat7))
          have hbb := HN7.out.2.bel
          rw [show (ns ++ [s]).length = ns.length + 1 by simp] at hbb
          have p1 := blk_put (cs := #[.slice A7 (ns.length + 1) c7, v2]) HD8.out 0 (.slice none 0 0) rfl
          have p2 := blk_put (cs := #[.slice none 0 0, v2]) p1 1 (.slice none 0 0) rfl
          have e0 := (blk_cell p2 0).trans rfl
          have e1 := (blk_cell p2 1).trans rfl
          refine bodyPost_ret (v := .tuple #[.agg #[.slice none 0 0, .slice none 0 0], .bool false]) (by simp [results, Tryz.results72, go_sem, e0, e1]) rfl ⟨?_, ?_⟩
          · rw [HSort.out, HR1.out]
            first | rfl | (rw [Option.map_none]; rfl)
          · first | exact below_set (below_set ((hbb.trans (HB8.out.mono hbb.size))) (Nat.le_refl _)) (Nat.le_refl _) | exact (hbb.trans (HB8.out.mono hbb.size))
      · rw [sortV, if_neg hc] at hr1
        have hcn : (((F[k]'hkx2).toNat : Int) == 110) = false := by
          rw [hbt]
          refine beq_eq_false_iff_ne.2 (fun h => hc ?_)
          have h1 : cb.toNat = 110 := by omega
          exact UInt8.toNat_inj.1 h1
        cases hv : numberV s.data.toList with
        | none =>
          rw [hv] at hr1
          have HR1 := Aside0.mk hr1
          have HN := Aside0.mk (number_bad s wr (HTW.out.below hu.out.bel HTW.out.low) hsz hv)
          clear hr1 hv
          obtain ⟨A1, c1, hv1⟩ := Kd.R_slice hu.out.r2
          subst hv1
          have HM := Aside0.mk hm100
          have HLn := Aside0.mk hl.out.2
          clear hbt hc q0 q1
          go_wp2_with (first | (go_at_call 117; refine HN.out.mono ?_; rintro e w6 ⟨⟨n, rfl⟩, hb6⟩; have HU6 := Aside0.mk (hu.out.below hb6); have q0 := (blk_cell HU6.out.box 0).trans rfl; have q1 := (blk_cell HU6.out.box 1).trans rfl; have HBig := Aside0.mk HU6.out.bel.size; have HB6 := Aside0.mk hb6; clear hb6) | (at_builtin; go_loud (refine Kd.R_append (Kd.int .i64) (w0 := W) W.heap.size rfl (.tmp 85) (.tmp 87) 64 3 (.int .i64 0) 8 rfl Tryz.underlying64 info3 rfl (by decide) (by omega) (.slice A1 is.length c1) is n [.int .i64 n] (fun j => W.heap.size ≤ j) (fun _ => False) rfl rfl rfl (fun _ hk => hk.elim) (fun j hj => Nat.le_trans HBig.out hj) HU6.out.r2 HU6.out.bel HBig.out (by have := HM.out; have := HLn.out; omega) ?_); intro v7 w7 hq7 hb7 hg7 hat7; obtain ⟨A7, c7, rfl⟩ := Kd.R_slice hq7; have HN7 := Aside0.mk (numbered HU6.out hq7 hb7 hg7 (Nat.le_refl _)); have p7 := blk_cell HN7.out.1 1; have z7 := blk_frozen HN7.out.1 1; have hd8 := HN7.out.2.box; rw [show (is ++ [n]).length = is.length + 1 by simp] at hd8; have y0 := (blk_cell hd8 0).trans rfl; have y1 := (blk_cell hd8 1).trans rfl; have z0 := blk_frozen hd8 0; have z1 := blk_frozen hd8 1; have HD8 := Aside0.mk hd8; clear hd8; clear hq7 hb7 hg7 hat7))
          have p1 := blk_put (cs := #[v1, .slice A7 (is.length + 1) c7]) HD8.out 0 (.slice none 0 0) rfl
          have p2 := blk_put (cs := #[.slice none 0 0, .slice A7 (is.length + 1) c7]) p1 1 (.slice none 0 0) rfl
          have e0 := (blk_cell p2 0).trans rfl
          have e1 := (blk_cell p2 1).trans rfl
          refine bodyPost_ret (v := .tuple #[.agg #[.slice none 0 0, .slice none 0 0], .bool false]) (by simp [results, Tryz.results72, go_sem, e0, e1]) rfl ⟨?_, ?_⟩
          · rw [HSort.out, HR1.out]
            first | rfl | (rw [Option.map_none]; rfl)
          · first | exact below_set (below_set ((by have h := HN7.out.2.bel; rwa [show (is ++ [n]).length = is.length + 1 by simp] at h)) (Nat.le_refl _)) (Nat.le_refl _) | exact (by have h := HN7.out.2.bel; rwa [show (is ++ [n]).length = is.length + 1 by simp] at h)
        | some n =>
          rw [hv] at hr1
          have HR1 := Aside0.mk hr1
          have HN := Aside0.mk (number_ok s n wr (HTW.out.below hu.out.bel HTW.out.low) hsz hv)
          clear hr1 hv
          obtain ⟨A1, c1, hv1⟩ := Kd.R_slice hu.out.r2
          subst hv1
          have HM := Aside0.mk hm100
          have HLn := Aside0.mk hl.out.2
          clear hbt hc q0 q1
          go_wp2_with (first | (go_at_call 117; refine HN.out.mono ?_; rintro e w6 ⟨rfl, hb6⟩; have HU6 := Aside0.mk (hu.out.below hb6); have q0 := (blk_cell HU6.out.box 0).trans rfl; have q1 := (blk_cell HU6.out.box 1).trans rfl; have HBig := Aside0.mk HU6.out.bel.size; have HB6 := Aside0.mk hb6; clear hb6) | (at_builtin; go_loud (refine Kd.R_append (Kd.int .i64) (w0 := W) W.heap.size rfl (.tmp 85) (.tmp 87) 64 3 (.int .i64 0) 8 rfl Tryz.underlying64 info3 rfl (by decide) (by omega) (.slice A1 is.length c1) is n [.int .i64 n] (fun j => W.heap.size ≤ j) (fun _ => False) rfl rfl rfl (fun _ hk => hk.elim) (fun j hj => Nat.le_trans HBig.out hj) HU6.out.r2 HU6.out.bel HBig.out (by have := HM.out; have := HLn.out; omega) ?_); intro v7 w7 hq7 hb7 hg7 hat7; obtain ⟨A7, c7, rfl⟩ := Kd.R_slice hq7; have HN7 := Aside0.mk (numbered HU6.out hq7 hb7 hg7 (Nat.le_refl _)); have p7 := blk_cell HN7.out.1 1; have z7 := blk_frozen HN7.out.1 1; clear hq7 hb7 hg7 hat7))
          have hl7 : (is ++ [n]).length = is.length + 1 := by simp
          rw [hl7] at HN7
          refine ⟨⟨k + 1, ns, is ++ [n], v1, .slice A7 (is.length + 1) c7, by omega, rfl, ⟨by simp; have := hl.out; omega⟩, ⟨?_⟩, ⟨HN7.out.2⟩⟩, by simp [intOf]; omega⟩
          rw [HR1.out, Option.map_map]
          congr 1
          funext r
          simp
    · have i1 : ¬ (k : Int) < (m : Int) := by omega
      have hr1 := hr.out
      rw [List.drop_of_length_le (by have := HLen.out.2; simp; omega)] at hr1
      simp only [sortV, Option.map_some, List.append_nil] at hr1
      obtain ⟨A1, c1, hv1⟩ := Kd.R_slice hu.out.r1
      obtain ⟨A2, c2, hv2⟩ := Kd.R_slice hu.out.r2
      subst hv1 hv2
      have HR1 := Aside0.mk hr1
      have q0 := (blk_cell hu.out.box 0).trans rfl
      have q1 := (blk_cell hu.out.box 1).trans rfl
      have z0 := blk_frozen hu.out.box 0
      have z1 := blk_frozen hu.out.box 1
      clear hr1
      go_wp2_with fail
      have p1 := blk_put (cs := #[.slice A1 ns.length c1, .slice A2 is.length c2]) hu.out.box 0 (.slice A1 ns.length c1) rfl
      have p2 := blk_put (cs := #[.slice A1 ns.length c1, .slice A2 is.length c2]) p1 1 (.slice A2 is.length c2) rfl
      have e0 := (blk_cell p2 0).trans rfl
      have e1 := (blk_cell p2 1).trans rfl
      refine bodyPost_ret (v := .tuple #[.agg #[.slice A1 ns.length c1, .slice A2 is.length c2], .bool true]) (by simp [results, Tryz.results72, go_sem, e0, e1]) rfl ⟨?_, below_set (below_set hu.out.bel (Nat.le_refl _)) (Nat.le_refl _)⟩
      rw [HSort.out, HR1.out]
      refine ⟨_, _, rfl, ?_, ?_⟩
      · exact Kd.R_mono (R_apart (R_apart hu.out.r1 rfl (fun k cells hk => Below.heap_setCell _ _ _ k (type_ne hk hu.out.box (show (9 : Nat) ≠ 110 by decide)))) rfl (fun k cells hk => Below.heap_setCell _ _ _ k (type_ne hk p1 (show (9 : Nat) ≠ 110 by decide)))) (fun _ hj => hj.1)
      · exact R_apart (R_apart hu.out.r2 rfl (fun k cells hk => Below.heap_setCell _ _ _ k (type_ne hk hu.out.box (show (3 : Nat) ≠ 110 by decide)))) rfl (fun k cells hk => Below.heap_setCell _ _ _ k (type_ne hk p1 (show (3 : Nat) ≠ 110 by decide)))
end
end Go.Proofs.YtoeeipkiadbnpaaGreatDoor.Lib10
end

section
namespace Go.Proofs.YtoeeipkiadbnpaaGreatDoor.Lib10
open Go.RowKit Go.Proofs.YtoeeipkiadbnpaaGreatDoorW.PrintWords Go.Proofs.YtoeeipkiadbnpaaGreatDoorW.PrintLast Go.Proofs.YtoeeipkiadbnpaaGreatDoorW.PrintMore
set_option linter.unusedVariables false
set_option linter.unusedSimpArgs false
abbrev xPlus : ByteArray := ⟨#[110, 100, 43]⟩
abbrev xNd : ByteArray := ⟨#[110, 100]⟩
section
set_option maxRecDepth 100000
set_option maxHeartbeats 2000000
theorem cutPlus_yes (w : World) : Calls Tryz.prog 113 #[.string xPlus, .string ⟨#[43]⟩] w fun e w' => e = .returned (.tuple #[.string xNd, .bool true]) ∧ w = w' := by
  refine (Tryz.strings_CutSuffix xPlus ⟨#[43]⟩ w (by decide)).mono ?_
  rintro e w' ⟨rfl, rfl⟩
  have h1 : Lib.hasSuffix xPlus.data.toList (ByteArray.data ⟨#[43]⟩).toList = true := by kernel_rfl
  have h2 : (⟨(Lib.trimSuffix xPlus.data.toList (ByteArray.data ⟨#[43]⟩).toList).toArray⟩ : ByteArray) = xNd := by kernel_rfl
  rw [h1, h2]
  exact ⟨rfl, rfl⟩
theorem readp_few (text : ByteArray) (W : World) (hT : Tabs W) (hs : text.size < 4294967281) (m : Nat) (hw : (wordsB text).length = m + 1) (hm : m < 2 ∨ 9 < m) :
    Calls Tryz.prog 72 #[.string xPlus, .string text] W (ReadEnd none W) := by
  have HG := Aside0.mk (begun xPlus text W hT hs m hw)
  have HC := Aside0.mk (show ((W.alloc (.cells #[.slice none 0 0, .slice none 0 0] 110)).alloc (.cells ((wordsB text).map Value.string).toArray 9)).heap[W.heap.size]? = some (boxO (.slice none 0 0) (.slice none 0 0)) from (Below.heap_alloc _ _ _ (by simp)).trans (World.alloc_heap_new W (.cells #[.slice none 0 0, .slice none 0 0] 110)))
  have hwd : ((W.alloc (.cells #[.slice none 0 0, .slice none 0 0] 110)).alloc (.cells ((wordsB text).map Value.string).toArray 9)).heap[W.heap.size + 1]? = some (.cells ((wordsB text).map Value.string).toArray 9 (0, 0)) := by
    have hn := World.alloc_heap_new (W.alloc (.cells #[.slice none 0 0, .slice none 0 0] 110)) (.cells ((wordsB text).map Value.string).toArray 9)
    rw [World.size_alloc] at hn
    exact hn
  have HWd := Aside0.mk hwd
  have HTW := Aside0.mk hT
  have hc := HC.out
  have k0 := (blk_cell hc 0).trans rfl
  have k1 := (blk_cell hc 1).trans rfl
  have z0 := blk_frozen hc 0
  have z1 := blk_frozen hc 1
  have d1 : ((m : Int) != 2) = true := bne_iff_ne.2 (by omega)
  by_cases h2 : m < 2
  · have d2 : decide ((2 : Int) ≤ (m : Int)) = false := decide_eq_false (by omega)
    clear hT hw hwd hc hm h2
    go_enter Tryz.func72, Tryz.ntmps72
    go_wp2_with (first | (go_at_call 36; refine HG.out.split.mono ?_; rintro e w' ⟨rfl, rfl⟩) | (go_at_call 113; refine (cutPlus_yes _).mono ?_; rintro e w' ⟨rfl, rfl⟩))
    all_goals
      have p1 := blk_put (cs := #[.slice none 0 0, .slice none 0 0]) HC.out 0 (.slice none 0 0) rfl
      have p2 := blk_put (cs := #[.slice none 0 0, .slice none 0 0]) p1 1 (.slice none 0 0) rfl
      have e0 := (blk_cell p2 0).trans rfl
      have e1 := (blk_cell p2 1).trans rfl
      refine bodyPost_ret (v := .tuple #[.agg #[.slice none 0 0, .slice none 0 0], .bool false]) (by simp [results, Tryz.results72, go_sem, e0, e1]) rfl ⟨?_, ?_⟩
      · rfl
      · first | exact below_set (below_set (HG.out.bel) (Nat.le_refl _)) (Nat.le_refl _) | exact HG.out.bel
  · have d2 : decide ((2 : Int) ≤ (m : Int)) = true := decide_eq_true (by omega)
    have d3 : decide ((m : Int) ≤ 9) = false := decide_eq_false (by omega)
    clear hT hw hwd hc hm h2
    go_enter Tryz.func72, Tryz.ntmps72
    go_wp2_with (first | (go_at_call 36; refine HG.out.split.mono ?_; rintro e w' ⟨rfl, rfl⟩) | (go_at_call 113; refine (cutPlus_yes _).mono ?_; rintro e w' ⟨rfl, rfl⟩))
    all_goals
      have p1 := blk_put (cs := #[.slice none 0 0, .slice none 0 0]) HC.out 0 (.slice none 0 0) rfl
      have p2 := blk_put (cs := #[.slice none 0 0, .slice none 0 0]) p1 1 (.slice none 0 0) rfl
      have e0 := (blk_cell p2 0).trans rfl
      have e1 := (blk_cell p2 1).trans rfl
      refine bodyPost_ret (v := .tuple #[.agg #[.slice none 0 0, .slice none 0 0], .bool false]) (by simp [results, Tryz.results72, go_sem, e0, e1]) rfl ⟨?_, ?_⟩
      · rfl
      · first | exact below_set (below_set (HG.out.bel) (Nat.le_refl _)) (Nat.le_refl _) | exact HG.out.bel
/-- The last sort, said so often. -/
def repD (q : Nat) : ByteArray := ⟨(Lib.repeatL (xNd.extract 1 2).data.toList q).toArray⟩
theorem repD_list (q : Nat) : (repD q).data.toList = List.replicate q 100 := by
  have h : (xNd.extract 1 2).data.toList = [100] := by kernel_rfl
  unfold repD
  rw [h]
  have h2 := Lib.repeatL_replicate 100 1 q
  rwa [show List.replicate 1 (100 : UInt8) = [100] from rfl, Nat.mul_one] at h2
theorem repD_size (q : Nat) : (repD q).size = q := by
  have h := congrArg List.length (repD_list q)
  simpa using h
theorem rep_calls (q : Nat) (hq : q ≤ 7) (w : World) : Calls Tryz.prog 114 #[.string (xNd.extract 1 2), .int .i64 (q : Int)] w fun e w' => e = .returned (.string (repD q)) ∧ Below w.heap.size w w' :=
  Tryz.strings_Repeat (xNd.extract 1 2) q w (by omega) (by
    have h : (xNd.extract 1 2).size = 1 := by kernel_rfl
    rw [h]; omega)
theorem full_size (q : Nat) : (xNd ++ repD q).size = q + 2 := by rw [ByteArray.size_append, repD_size]; show 2 + q = q + 2; omega
theorem readp_bad (q : Nat) (text : ByteArray) (W : World) (hT : Tabs W) (hs : text.size < 4294967281) (m : Nat) (hw : (wordsB text).length = m + 1) (hk : m = q + 2) (hq : q ≤ 7) (hline : isLineB text = false) :
    Calls Tryz.prog 72 #[.string xPlus, .string text] W (ReadEnd none W) := by
  have HG := Aside0.mk (begun xPlus text W hT hs m hw)
  have HC := Aside0.mk (show ((W.alloc (.cells #[.slice none 0 0, .slice none 0 0] 110)).alloc (.cells ((wordsB text).map Value.string).toArray 9)).heap[W.heap.size]? = some (boxO (.slice none 0 0) (.slice none 0 0)) from (Below.heap_alloc _ _ _ (by simp)).trans (World.alloc_heap_new W (.cells #[.slice none 0 0, .slice none 0 0] 110)))
  have hwd : ((W.alloc (.cells #[.slice none 0 0, .slice none 0 0] 110)).alloc (.cells ((wordsB text).map Value.string).toArray 9)).heap[W.heap.size + 1]? = some (.cells ((wordsB text).map Value.string).toArray 9 (0, 0)) := by
    have hn := World.alloc_heap_new (W.alloc (.cells #[.slice none 0 0, .slice none 0 0] 110)) (.cells ((wordsB text).map Value.string).toArray 9)
    rw [World.size_alloc] at hn
    exact hn
  have HWd := Aside0.mk hwd
  have HTW := Aside0.mk hT
  have HT := Aside0.mk hT
  have HLn := Aside0.mk (fun w (hT : Tabs w) => isLine_calls text w hT hs)
  rw [hline] at HLn
  have HRep := Aside0.mk (fun w => rep_calls q hq w)
  have hkI : ((m : Int) - 2) = (q : Int) := by omega
  have d2 : decide ((2 : Int) ≤ (m : Int)) = true := decide_eq_true (by omega)
  have d3 : decide ((m : Int) ≤ 9) = true := decide_eq_true (by omega)
  have m0 : m ≠ 0 := by omega
  have hfs := full_size q
  obtain ⟨rp, hrp⟩ : ∃ rp, rp = repD q := ⟨_, rfl⟩
  rw [← hrp] at HRep hfs
  have hsz : (xNd ++ rp).size = m := by omega
  have hrs : rp.size = q := by rw [hrp]; exact repD_size q
  have HRp := Aside0.mk hrp
  have hsI : ((2 : Int) + (rp.size : Int)) = (m : Int) := by omega
  have hsJ : ((2 : Int) + (q : Int)) = (m : Int) := by omega
  have d4 : ((m : Int) != (m : Int)) = false := bne_self_eq_false _
  clear hT hw hwd hk hline hrp hfs
  go_enter Tryz.func72, Tryz.ntmps72
  go_wp2_with (first | (go_at_call 36; refine HG.out.split.mono ?_; rintro e w' ⟨rfl, rfl⟩) | (go_at_call 113; refine (cutPlus_yes _).mono ?_; rintro e w' ⟨rfl, rfl⟩) | (go_at_call 114; refine (HRep.out _).mono ?_; rintro e w3 ⟨rfl, hb3⟩; have HB3 := Aside0.mk (HG.out.bel.trans (hb3.mono HG.out.bel.size)); have HC3 := Aside0.mk ((hb3.block W.heap.size (blk_lt HC.out)).trans HC.out); have HWd3 := Aside0.mk ((hb3.block (W.heap.size + 1) (blk_lt HWd.out)).trans HWd.out); clear hb3) | (go_at_call 115; refine (HLn.out _ (HT.out.below HB3.out HT.out.low)).mono ?_; rintro e w2 ⟨rfl, hb⟩; have HB2 := Aside0.mk hb; have hc2 := (hb.block W.heap.size (blk_lt HC3.out)).trans HC3.out; have k0 := (blk_cell hc2 0).trans rfl; have k1 := (blk_cell hc2 1).trans rfl; have z0 := blk_frozen hc2 0; have z1 := blk_frozen hc2 1; have HC2 := Aside0.mk hc2; clear hb hc2))
  all_goals
    have p1 := blk_put (cs := #[.slice none 0 0, .slice none 0 0]) HC2.out 0 (.slice none 0 0) rfl
    have p2 := blk_put (cs := #[.slice none 0 0, .slice none 0 0]) p1 1 (.slice none 0 0) rfl
    have e0 := (blk_cell p2 0).trans rfl
    have e1 := (blk_cell p2 1).trans rfl
    refine bodyPost_ret (v := .tuple #[.agg #[.slice none 0 0, .slice none 0 0], .bool false]) (by simp [results, Tryz.results72, go_sem, e0, e1]) rfl ⟨?_, ?_⟩
    · rfl
    · first | exact below_set (below_set ((HB3.out.trans (HB2.out.mono HB3.out.size))) (Nat.le_refl _)) (Nat.le_refl _) | exact (HB3.out.trans (HB2.out.mono HB3.out.size))
theorem readp_line (q : Nat) (text : ByteArray) (W : World) (hT : Tabs W) (hs : text.size < 4294967281) (m : Nat) (hw : (wordsB text).length = m + 1) (hk : m = q + 2) (hq : q ≤ 7) (hline : isLineB text = true) :
    Calls Tryz.prog 72 #[.string xPlus, .string text] W (ReadEnd (sortV (xNd ++ repD q).data.toList (wordsB text).tail) W) := by
  have hm100 : m ≤ 100 := by omega
  obtain ⟨res, hres⟩ : ∃ res, res = sortV (xNd ++ repD q).data.toList (wordsB text).tail := ⟨_, rfl⟩
  rw [← hres]
  have HG := Aside0.mk (begun xPlus text W hT hs m hw)
  have HC := Aside0.mk (show ((W.alloc (.cells #[.slice none 0 0, .slice none 0 0] 110)).alloc (.cells ((wordsB text).map Value.string).toArray 9)).heap[W.heap.size]? = some (boxO (.slice none 0 0) (.slice none 0 0)) from (Below.heap_alloc _ _ _ (by simp)).trans (World.alloc_heap_new W (.cells #[.slice none 0 0, .slice none 0 0] 110)))
  have hwd : ((W.alloc (.cells #[.slice none 0 0, .slice none 0 0] 110)).alloc (.cells ((wordsB text).map Value.string).toArray 9)).heap[W.heap.size + 1]? = some (.cells ((wordsB text).map Value.string).toArray 9 (0, 0)) := by
    have hn := World.alloc_heap_new (W.alloc (.cells #[.slice none 0 0, .slice none 0 0] 110)) (.cells ((wordsB text).map Value.string).toArray 9)
    rw [World.size_alloc] at hn
    exact hn
  have HWd := Aside0.mk hwd
  have HTW := Aside0.mk hT
  have HT := Aside0.mk hT
  have HLn := Aside0.mk (fun w (hT : Tabs w) => isLine_calls text w hT hs)
  rw [hline] at HLn
  have HRep := Aside0.mk (fun w => rep_calls q hq w)
  have hkI : ((m : Int) - 2) = (q : Int) := by omega
  have d2 : decide ((2 : Int) ≤ (m : Int)) = true := decide_eq_true (by omega)
  have d3 : decide ((m : Int) ≤ 9) = true := decide_eq_true (by omega)
  have m0 : m ≠ 0 := by omega
  have hfs := full_size q
  obtain ⟨rp, hrp⟩ : ∃ rp, rp = repD q := ⟨_, rfl⟩
  rw [← hrp] at HRep hfs
  have hsz : (xNd ++ rp).size = m := by omega
  have hrs : rp.size = q := by rw [hrp]; exact repD_size q
  have HRp := Aside0.mk hrp
  have hsI : ((2 : Int) + (rp.size : Int)) = (m : Int) := by omega
  have hsJ : ((2 : Int) + (q : Int)) = (m : Int) := by omega
  have d4 : ((m : Int) != (m : Int)) = false := bne_self_eq_false _
  have HTW := HT
  obtain ⟨F, hF⟩ : ∃ F, F = xNd ++ rp := ⟨_, rfl⟩
  rw [← hrp, ← hF] at hres
  have HSort := Aside0.mk hres
  rw [← hF] at hsz
  have HLen := Aside0.mk (And.intro hw hsz)
  have HFs := Aside0.mk hF.symm
  clear hT hw hwd hk hline hrp hfs hF hsz hres
  have hsz : (xNd ++ rp).size = m := by rw [HFs.out]; exact HLen.out.2
  go_enter Tryz.func72, Tryz.ntmps72
  go_wp2_with (first | (go_at_call 36; refine HG.out.split.mono ?_; rintro e w' ⟨rfl, rfl⟩) | (go_at_call 113; refine (cutPlus_yes _).mono ?_; rintro e w' ⟨rfl, rfl⟩) | (go_at_call 114; refine (HRep.out _).mono ?_; rintro e w3 ⟨rfl, hb3⟩; have HB3 := Aside0.mk (HG.out.bel.trans (hb3.mono HG.out.bel.size)); have HC3 := Aside0.mk ((hb3.block W.heap.size (blk_lt HC.out)).trans HC.out); have HWd3 := Aside0.mk ((hb3.block (W.heap.size + 1) (blk_lt HWd.out)).trans HWd.out); clear hb3) | (go_at_call 115; refine (HLn.out _ (HT.out.below HB3.out HT.out.low)).mono ?_; rintro e w2 ⟨rfl, hb⟩; have HB2 := Aside0.mk hb; clear hb))
  rw [HFs.out]
  have HU := Aside0.mk (show Under W W.heap.size ((wordsB text).map Value.string).toArray w2 (.slice none 0 0) (.slice none 0 0) [] [] from ⟨(HB2.out.block W.heap.size (blk_lt HC3.out)).trans HC3.out, (HB2.out.block _ (blk_lt HWd3.out)).trans HWd3.out, Kd.R_nil _ _ _ _ _, Kd.R_nil _ _ _ _ _, HB3.out.trans (HB2.out.mono HB3.out.size)⟩)
  go_loopw [62] (fun v62 wr => ∃ (k : Nat) (ns : List ByteArray) (is : List Int) (v1 v2 : Value), k ≤ m ∧ v62 = .int .i64 k ∧
      Aside0 (ns.length ≤ k ∧ is.length ≤ k) ∧ Aside0 (sortV F.data.toList (wordsB text).tail = (sortV (F.data.toList.drop k) ((wordsB text).tail.drop k)).map fun r => (ns ++ r.1, is ++ r.2)) ∧ Aside0 (Under W W.heap.size ((wordsB text).map Value.string).toArray wr v1 v2 ns is)) (fun v62 _ => m - (intOf v62).toNat)
  case atStart => exact ⟨0, [], [], _, _, Nat.zero_le _, rfl, ⟨⟨Nat.le_refl _, Nat.le_refl _⟩⟩, ⟨by simp⟩, HU⟩
  case round =>
    obtain ⟨k, ns, is, v1, v2, hk, rfl, hl, hr, hu⟩ := hrel
    by_cases hlt : k < m
    · have i0 : (0 : Int) ≤ (k : Int) := by omega
      have i1 : (k : Int) < (m : Int) := by omega
      have i2 : (k : Int) < (F.size : Int) := by have := HLen.out.2; omega
      have hkx : k < F.data.toList.length := by have := HLen.out.2; simp; omega
      have hkw : k < (wordsB text).tail.length := by have := HLen.out.1; simp; omega
      have hr1 := hr.out
      rw [List.drop_eq_getElem_cons hkx, List.drop_eq_getElem_cons hkw] at hr1
      obtain ⟨s, hs'⟩ : ∃ s, (wordsB text).tail[k] = s := ⟨_, rfl⟩
      obtain ⟨cb, hcb⟩ : ∃ cb, F.data.toList[k] = cb := ⟨_, rfl⟩
      rw [hs', hcb] at hr1
      have hkx2 : k < F.size := by simpa using hkx
      have hbt : F[k]'hkx2 = cb := hcb
      have hsz : s.size ≤ 140737488355328 := by
        have := word_size text s (by rw [← hs']; exact List.mem_of_mem_tail (List.getElem_mem _))
        omega
      have hx1 : wr.cell? ⟨W.heap.size + 1, 1 + k, none⟩ = some (.string s) := by
        rw [blk_cell hu.out.words (1 + k)]
        have hj2 : (wordsB text)[k + 1]? = some s := by
          rw [← hs', List.getElem_tail, List.getElem?_eq_getElem]
        simp [Nat.add_comm 1 k, hj2]
      have q0 := (blk_cell hu.out.box 0).trans rfl
      have q1 := (blk_cell hu.out.box 1).trans rfl
      have HHs := Aside0.mk hs'
      have HHc := Aside0.mk hcb
      clear hs' hcb
      replace i0 := eq_true i0
      replace i1 := eq_true i1
      by_cases hc : cb = 110
      · rw [sortV, if_pos hc] at hr1
        by_cases hn : isNameB s.data.toList = true
        · rw [if_pos hn] at hr1
          have HR1 := Aside0.mk hr1
          have hcn : (((F[k]'hkx2).toNat : Int) == 110) = true := by rw [hbt, hc]; rfl
          have HN := Aside0.mk (fun w => isName_calls s w hsz)
          rw [hn] at HN
          clear hr1 hn
          obtain ⟨A1, c1, hv1⟩ := Kd.R_slice hu.out.r1
          subst hv1
          have HBig := Aside0.mk hu.out.bel.size
          have HM := Aside0.mk hm100
          have HLt := Aside0.mk (blk_lt hu.out.words)
          have HLn := Aside0.mk hl.out.1
          clear hbt hc
          go_wp2_with (first | (go_at_call 116; refine (HN.out _).mono ?_; rintro e w8 ⟨rfl, hb8⟩; have HB8 := Aside0.mk hb8; clear hb8) | (at_builtin; go_loud (refine Kd.R_append Kd.string (w0 := W) W.heap.size rfl (.tmp 72) (.tmp 74) 22 9 (.string ByteArray.empty) 16 rfl Tryz.underlying22 info9 rfl (by decide) (by omega) (.slice A1 ns.length c1) ns s [.string s] (fun j => W.heap.size ≤ j ∧ j ≠ W.heap.size + 1) (fun _ => False) rfl rfl rfl (fun _ hk => hk.elim) (fun j hj => ⟨Nat.le_trans HBig.out hj, by have := HLt.out; omega⟩) hu.out.r1 hu.out.bel HBig.out (by have := HM.out; have := HLn.out; omega) ?_); intro v7 w7 hq7 hb7 hg7 hat7; obtain ⟨A7, c7, rfl⟩ := Kd.R_slice hq7; have HN7 := Aside0.mk (named hu.out hq7 hb7 hg7 (Nat.le_refl _)); have p7 := blk_cell HN7.out.1 0; have z7 := blk_frozen HN7.out.1 0; clear hq7 hb7 hg7 hat7))
          have hl7 : (ns ++ [s]).length = ns.length + 1 := by simp
          rw [hl7] at HN7
          refine ⟨⟨k + 1, ns ++ [s], is, .slice A7 (ns.length + 1) c7, v2, by omega, rfl, ⟨by simp; have := hl.out; omega⟩, ⟨?_⟩, ⟨HN7.out.2.below HB8.out⟩⟩, by simp [intOf]; omega⟩
          rw [HR1.out, Option.map_map]
          congr 1
          funext r
          simp
        · have hnf : isNameB s.data.toList = false := by simpa using hn
          rw [if_neg hn] at hr1
          have HR1 := Aside0.mk hr1
          have hcn : (((F[k]'hkx2).toNat : Int) == 110) = true := by rw [hbt, hc]; rfl
          have HN := Aside0.mk (fun w => isName_calls s w hsz)
          rw [hnf] at HN
          clear hr1 hn hnf
          obtain ⟨A1, c1, hv1⟩ := Kd.R_slice hu.out.r1
          subst hv1
          have HBig := Aside0.mk hu.out.bel.size
          have HM := Aside0.mk hm100
          have HLt := Aside0.mk (blk_lt hu.out.words)
          have HLn := Aside0.mk hl.out.1
          clear hbt hc
          go_wp2_with (first | (go_at_call 116; refine (HN.out _).mono ?_; rintro e w8 ⟨rfl, hb8⟩; have HB8 := Aside0.mk hb8; have HX8 := HN7.out.2.box; rw [show (ns ++ [s]).length = ns.length + 1 by simp] at HX8; go_loud (have hd8 := (hb8.block W.heap.size (blk_lt HX8)).trans HX8); go_loud (have z0 := blk_frozen hd8 0; have z1 := blk_frozen hd8 1; have y0 := (blk_cell hd8 0).trans rfl; have y1 := (blk_cell hd8 1).trans rfl); have HD8 := Aside0.mk hd8; clear hb8 HX8 hd8) | (at_builtin; go_loud (refine Kd.R_append Kd.string (w0 := W) W.heap.size rfl (.tmp 72) (.tmp 74) 22 9 (.string ByteArray.empty) 16 rfl Tryz.underlying22 info9 rfl (by decide) (by omega) (.slice A1 ns.length c1) ns s [.string s] (fun j => W.heap.size ≤ j ∧ j ≠ W.heap.size + 1) (fun _ => False) rfl rfl rfl (fun _ hk => hk.elim) (fun j hj => ⟨Nat.le_trans HBig.out hj, by have := HLt.out; omega⟩) hu.out.r1 hu.out.bel HBig.out (by have := HM.out; have := HLn.out; omega) ?_); intro v7 w7 hq7 hb7 hg7 hat7; obtain ⟨A7, c7, rfl⟩ := Kd.R_slice hq7; have HN7 := Aside0.mk (named hu.out hq7 hb7 hg7 (Nat.le_refl _)); have p7 := blk_cell HN7.out.1 0; have z7 := blk_frozen HN7.out.1 0; clear hq7 hb7 hg7 hat7))
          have hbb := HN7.out.2.bel
          rw [show (ns ++ [s]).length = ns.length + 1 by simp] at hbb
          have p1 := blk_put (cs := #[.slice A7 (ns.length + 1) c7, v2]) HD8.out 0 (.slice none 0 0) rfl
          have p2 := blk_put (cs := #[.slice none 0 0, v2]) p1 1 (.slice none 0 0) rfl
          have e0 := (blk_cell p2 0).trans rfl
          have e1 := (blk_cell p2 1).trans rfl
          refine bodyPost_ret (v := .tuple #[.agg #[.slice none 0 0, .slice none 0 0], .bool false]) (by simp [results, Tryz.results72, go_sem, e0, e1]) rfl ⟨?_, ?_⟩
          · rw [HSort.out, HR1.out]
            first | rfl | (rw [Option.map_none]; rfl)
          · first | exact below_set (below_set ((hbb.trans (HB8.out.mono hbb.size))) (Nat.le_refl _)) (Nat.le_refl _) | exact (hbb.trans (HB8.out.mono hbb.size))
      · rw [sortV, if_neg hc] at hr1
        have hcn : (((F[k]'hkx2).toNat : Int) == 110) = false := by
          rw [hbt]
          refine beq_eq_false_iff_ne.2 (fun h => hc ?_)
          have h1 : cb.toNat = 110 := by omega
          exact UInt8.toNat_inj.1 h1
        cases hv : numberV s.data.toList with
        | none =>
          rw [hv] at hr1
          have HR1 := Aside0.mk hr1
          have HN := Aside0.mk (number_bad s wr (HTW.out.below hu.out.bel HTW.out.low) hsz hv)
          clear hr1 hv
          obtain ⟨A1, c1, hv1⟩ := Kd.R_slice hu.out.r2
          subst hv1
          have HM := Aside0.mk hm100
          have HLn := Aside0.mk hl.out.2
          clear hbt hc q0 q1
          go_wp2_with (first | (go_at_call 117; refine HN.out.mono ?_; rintro e w6 ⟨⟨n, rfl⟩, hb6⟩; have HU6 := Aside0.mk (hu.out.below hb6); have q0 := (blk_cell HU6.out.box 0).trans rfl; have q1 := (blk_cell HU6.out.box 1).trans rfl; have HBig := Aside0.mk HU6.out.bel.size; have HB6 := Aside0.mk hb6; clear hb6) | (at_builtin; go_loud (refine Kd.R_append (Kd.int .i64) (w0 := W) W.heap.size rfl (.tmp 85) (.tmp 87) 64 3 (.int .i64 0) 8 rfl Tryz.underlying64 info3 rfl (by decide) (by omega) (.slice A1 is.length c1) is n [.int .i64 n] (fun j => W.heap.size ≤ j) (fun _ => False) rfl rfl rfl (fun _ hk => hk.elim) (fun j hj => Nat.le_trans HBig.out hj) HU6.out.r2 HU6.out.bel HBig.out (by have := HM.out; have := HLn.out; omega) ?_); intro v7 w7 hq7 hb7 hg7 hat7; obtain ⟨A7, c7, rfl⟩ := Kd.R_slice hq7; have HN7 := Aside0.mk (numbered HU6.out hq7 hb7 hg7 (Nat.le_refl _)); have p7 := blk_cell HN7.out.1 1; have z7 := blk_frozen HN7.out.1 1; have hd8 := HN7.out.2.box; rw [show (is ++ [n]).length = is.length + 1 by simp] at hd8; have y0 := (blk_cell hd8 0).trans rfl; have y1 := (blk_cell hd8 1).trans rfl; have z0 := blk_frozen hd8 0; have z1 := blk_frozen hd8 1; have HD8 := Aside0.mk hd8; clear hd8; clear hq7 hb7 hg7 hat7))
          have p1 := blk_put (cs := #[v1, .slice A7 (is.length + 1) c7]) HD8.out 0 (.slice none 0 0) rfl
          have p2 := blk_put (cs := #[.slice none 0 0, .slice A7 (is.length + 1) c7]) p1 1 (.slice none 0 0) rfl
          have e0 := (blk_cell p2 0).trans rfl
          have e1 := (blk_cell p2 1).trans rfl
          refine bodyPost_ret (v := .tuple #[.agg #[.slice none 0 0, .slice none 0 0], .bool false]) (by simp [results, Tryz.results72, go_sem, e0, e1]) rfl ⟨?_, ?_⟩
          · rw [HSort.out, HR1.out]
            first | rfl | (rw [Option.map_none]; rfl)
          · first | exact below_set (below_set ((by have h := HN7.out.2.bel; rwa [show (is ++ [n]).length = is.length + 1 by simp] at h)) (Nat.le_refl _)) (Nat.le_refl _) | exact (by have h := HN7.out.2.bel; rwa [show (is ++ [n]).length = is.length + 1 by simp] at h)
        | some n =>
          rw [hv] at hr1
          have HR1 := Aside0.mk hr1
          have HN := Aside0.mk (number_ok s n wr (HTW.out.below hu.out.bel HTW.out.low) hsz hv)
          clear hr1 hv
          obtain ⟨A1, c1, hv1⟩ := Kd.R_slice hu.out.r2
          subst hv1
          have HM := Aside0.mk hm100
          have HLn := Aside0.mk hl.out.2
          clear hbt hc q0 q1
          go_wp2_with (first | (go_at_call 117; refine HN.out.mono ?_; rintro e w6 ⟨rfl, hb6⟩; have HU6 := Aside0.mk (hu.out.below hb6); have q0 := (blk_cell HU6.out.box 0).trans rfl; have q1 := (blk_cell HU6.out.box 1).trans rfl; have HBig := Aside0.mk HU6.out.bel.size; have HB6 := Aside0.mk hb6; clear hb6) | (at_builtin; go_loud (refine Kd.R_append (Kd.int .i64) (w0 := W) W.heap.size rfl (.tmp 85) (.tmp 87) 64 3 (.int .i64 0) 8 rfl Tryz.underlying64 info3 rfl (by decide) (by omega) (.slice A1 is.length c1) is n [.int .i64 n] (fun j => W.heap.size ≤ j) (fun _ => False) rfl rfl rfl (fun _ hk => hk.elim) (fun j hj => Nat.le_trans HBig.out hj) HU6.out.r2 HU6.out.bel HBig.out (by have := HM.out; have := HLn.out; omega) ?_); intro v7 w7 hq7 hb7 hg7 hat7; obtain ⟨A7, c7, rfl⟩ := Kd.R_slice hq7; have HN7 := Aside0.mk (numbered HU6.out hq7 hb7 hg7 (Nat.le_refl _)); have p7 := blk_cell HN7.out.1 1; have z7 := blk_frozen HN7.out.1 1; clear hq7 hb7 hg7 hat7))
          have hl7 : (is ++ [n]).length = is.length + 1 := by simp
          rw [hl7] at HN7
          refine ⟨⟨k + 1, ns, is ++ [n], v1, .slice A7 (is.length + 1) c7, by omega, rfl, ⟨by simp; have := hl.out; omega⟩, ⟨?_⟩, ⟨HN7.out.2⟩⟩, by simp [intOf]; omega⟩
          rw [HR1.out, Option.map_map]
          congr 1
          funext r
          simp
    · have i1 : ¬ (k : Int) < (m : Int) := by omega
      have hr1 := hr.out
      rw [List.drop_of_length_le (by have := HLen.out.2; simp; omega)] at hr1
      simp only [sortV, Option.map_some, List.append_nil] at hr1
      obtain ⟨A1, c1, hv1⟩ := Kd.R_slice hu.out.r1
      obtain ⟨A2, c2, hv2⟩ := Kd.R_slice hu.out.r2
      subst hv1 hv2
      have HR1 := Aside0.mk hr1
      have q0 := (blk_cell hu.out.box 0).trans rfl
      have q1 := (blk_cell hu.out.box 1).trans rfl
      have z0 := blk_frozen hu.out.box 0
      have z1 := blk_frozen hu.out.box 1
      clear hr1
      go_wp2_with fail
      have p1 := blk_put (cs := #[.slice A1 ns.length c1, .slice A2 is.length c2]) hu.out.box 0 (.slice A1 ns.length c1) rfl
      have p2 := blk_put (cs := #[.slice A1 ns.length c1, .slice A2 is.length c2]) p1 1 (.slice A2 is.length c2) rfl
      have e0 := (blk_cell p2 0).trans rfl
      have e1 := (blk_cell p2 1).trans rfl
      refine bodyPost_ret (v := .tuple #[.agg #[.slice A1 ns.length c1, .slice A2 is.length c2], .bool true]) (by simp [results, Tryz.results72, go_sem, e0, e1]) rfl ⟨?_, below_set (below_set hu.out.bel (Nat.le_refl _)) (Nat.le_refl _)⟩
      rw [HSort.out, HR1.out]
      refine ⟨_, _, rfl, ?_, ?_⟩
      · exact Kd.R_mono (R_apart (R_apart hu.out.r1 rfl (fun k cells hk => Below.heap_setCell _ _ _ k (type_ne hk hu.out.box (show (9 : Nat) ≠ 110 by decide)))) rfl (fun k cells hk => Below.heap_setCell _ _ _ k (type_ne hk p1 (show (9 : Nat) ≠ 110 by decide)))) (fun _ hj => hj.1)
      · exact R_apart (R_apart hu.out.r2 rfl (fun k cells hk => Below.heap_setCell _ _ _ k (type_ne hk hu.out.box (show (3 : Nat) ≠ 110 by decide)))) rfl (fun k cells hk => Below.heap_setCell _ _ _ k (type_ne hk p1 (show (3 : Nat) ≠ 110 by decide)))
end
end Go.Proofs.YtoeeipkiadbnpaaGreatDoor.Lib10
end

section
namespace Go.Proofs.YtoeeipkiadbnpaaGreatDoor.Lib10
open Go.RowKit Go.Proofs.YtoeeipkiadbnpaaGreatDoorW.PrintWords Go.Proofs.YtoeeipkiadbnpaaGreatDoorW.PrintLast Go.Proofs.YtoeeipkiadbnpaaGreatDoorW.PrintMore
set_option linter.unusedVariables false
/-- No two have one chair. -/
def Apart (ch : List (Str × Int)) : Prop := ∀ k k' c, get ch k = some c → get ch k' = some c → k = k'
theorem sitterV_some {ch : List (Str × Int)} (hn : (keysOf ch).Nodup) (ha : Apart ch) {k : Str} {c : Int} (h : get ch k = some c) : sitterV ch c = some k := by
  unfold sitterV
  cases hf : ch.find? (fun p => decide (p.2 = c)) with
  | none =>
    have := List.find?_eq_none.1 hf _ (get_some_mem h)
    simp at this
  | some p =>
    have h1 := List.find?_some hf
    have h2 := List.mem_of_find?_eq_some hf
    have h3 : p.2 = c := by simpa using h1
    have h4 : get ch p.1 = some c := get_of_mem hn (by rw [← h3]; exact h2)
    simp [ha _ _ _ h4 h]
theorem sitterV_none {ch : List (Str × Int)} (hn : (keysOf ch).Nodup) {c : Int} (h : ∀ k, get ch k ≠ some c) : sitterV ch c = none := by
  unfold sitterV
  cases hf : ch.find? (fun p => decide (p.2 = c)) with
  | none => rfl
  | some p =>
    have h1 := List.find?_some hf
    have h2 := List.mem_of_find?_eq_some hf
    have h3 : p.2 = c := by simpa using h1
    exact absurd (get_of_mem hn (k := p.1) (v := c) (by rw [← h3]; exact h2)) (h p.1)
theorem grownBy_trans2 {a w w' : World} {row : Option Nat} (h : a.grownBy w row) (k : w.grownBy w' row) : a.grownBy w' row := by
  obtain ⟨a1, a2, a3, a4, a5⟩ := h
  obtain ⟨b1, b2, b3, b4, b5⟩ := k
  exact ⟨b1.trans a1, b2.trans a2, b3.trans a3, Nat.le_trans a4 b4, fun i hi hn => (b5 i (Nat.lt_of_lt_of_le hi a4) hn).trans (a5 i hi hn)⟩
section
set_option maxRecDepth 100000
set_option maxHeartbeats 2000000
theorem move_calls {L : Nat} {W : World} {g : Nat} {st : St} (h : StAt (fun k => L ≤ k) W g st) (hlen : st.chairs.length < 900) (ha : Apart st.chairs) (hk : ∀ k ∈ keysOf st.chairs, k.length ≤ 100) {v1 v2 : Value} {B1 B2 : Nat} {F1 F2 : Nat → Prop} (n : ByteArray) (c : Int) (hn : n.size ≤ 100)
    (h1 : Kd.string.R 9 W B1 F1 v1 [n]) (h2 : (Kd.int .i64).R 3 W B2 F2 v2 [c]) : Calls Tryz.prog 70 #[ptr g, .agg #[v1, v2]] W (ActPost L g (moveS st n.data.toList c) W) := by
  obtain ⟨m1, ⟨b1, b2, b3, s0, s1, s2, s3, n12, n13, n23, hr⟩, hpc⟩ := h
  obtain ⟨a1, c1, rfl, l1, k1⟩ := R_cells ByteArray.empty h1 (by simp)
  obtain ⟨a2, c2, rfl, l2, k2⟩ := R_cells (0 : Int) h2 (by simp)
  have kn0 := k1 0 n rfl
  have kv0 := k2 0 c rfl
  clear k1 k2
  have HLow := Aside0.mk (show L ≤ W.heap.size from Nat.le_trans s1 (Nat.le_of_lt hr.p1.lt))
  have HL := Aside0.mk (acting s0 s1 s2 s3 n12 n13 n23 hr hpc (.slice (some ⟨a1, 0, none⟩) 1 c1) (.slice (some ⟨a2, 0, none⟩) 1 c2))
  go_enter Tryz.func70, Tryz.ntmps70
  go_wp2_with fail
  obtain ⟨W1, hW1⟩ : ∃ W1, W1 = W.alloc (.cells #[.slice (some ⟨a1, 0, none⟩) 1 c1, .slice (some ⟨a2, 0, none⟩) 1 c2] 110) := ⟨_, rfl⟩
  rw [← hW1] at HL ⊢
  have r0 : W1.cell? ⟨g, 0, none⟩ = some (.map (some b1)) := (blk_cell HL.out.laid.st.cells 0).trans rfl
  have r1 : W1.cell? ⟨g, 1, none⟩ = some (.map (some b2)) := (blk_cell HL.out.laid.st.cells 1).trans rfl
  have r2 : W1.cell? ⟨g, 2, none⟩ = some (.map (some b3)) := (blk_cell HL.out.laid.st.cells 2).trans rfl
  replace kn0 : W1.cell? ⟨a1, 0, none⟩ = some (.string n) := by rw [hW1]; exact (cell_alloc l1 0).trans kn0
  replace kv0 : W1.cell? ⟨a2, 0, none⟩ = some (.int .i64 c) := by rw [hW1]; exact (cell_alloc l2 0).trans kv0
  have f0 := HL.out.laid.f0
  have f1 := HL.out.laid.f1
  clear hW1 l1 h1 hr hpc s0 s1 s2 s3 n12 n13 n23 l2 h2
  have HNd := Aside0.mk (show (keysOf st.chairs).Nodup by have h := HL.out.laid.st.p2.nodup; rwa [keys_ints] at h)
  have HArg := Aside0.mk (And.intro hlen (And.intro ha hk))
  clear ha hk
  go_quiet (fail)
  obtain ⟨W2, hW2⟩ : ∃ w, w = W1.drewN nq := ⟨_, rfl⟩
  have hb2 : Below W1.heap.size W1 W2 := by rw [hW2]; exact ⟨rfl, rfl, rfl, Nat.le_refl _, fun _ _ => rfl⟩
  have HL2 := Aside0.mk (HL.out.below hb2)
  replace r0 := cell_below r0 hb2
  replace r1 := cell_below r1 hb2
  replace r2 := cell_below r2 hb2
  replace kn0 := cell_below kn0 hb2
  replace kv0 := cell_below kv0 hb2
  replace f0 := cell_below f0 hb2
  replace f1 := cell_below f1 hb2
  rw [← hW2]
  clear hW2 hb2
  have hlk := HL2.out.laid.st.p2.look law9 Tryz.underlying125 (z := .int .i64 0) (by first | exact Tryz.zero3 _ | simp [go_sem]) (keyOf9 hn)
  rw [get_ints] at hlk
  cases hg : get st.chairs n.data.toList with
  | none =>
    rw [hg] at hlk
    have HG := Aside0.mk hg
    clear hg
    simp only [Option.map_none, Option.getD_none, Option.isSome_none] at hlk
    go_wp2_with fail
    go_ret
    refine HL2.out.no HLow.out ?_
    unfold moveS; rw [HG.out]
  | some old =>
    rw [hg] at hlk
    have HG := Aside0.mk hg
    clear hg
    simp only [Option.map_some, Option.getD_some, Option.isSome_some] at hlk
    have HCh := Aside0.mk (fun w => isChair_calls c w)
    obtain ⟨ic, hic⟩ : ∃ ic, ic = (decide (1 ≤ c) && decide (c ≤ 8)) := ⟨_, rfl⟩
    rw [← hic] at HCh
    have HIc := Aside0.mk hic
    clear hic
    cases ic with
    | false =>
      go_wp2_with (go_at_call 112; refine (HCh.out _).mono ?_; rintro e w ⟨rfl, rfl⟩)
      go_ret
      refine HL2.out.no HLow.out ?_
      unfold moveS; rw [HG.out]; simp only []; rw [← HIc.out]; rfl
    | true =>
      by_cases hoc : old = c
      ·
        have HOC := Aside0.mk hoc
        have d1 : (old == c) = true := beq_iff_eq.2 hoc
        clear hoc
        go_wp2_with (go_at_call 112; refine (HCh.out _).mono ?_; rintro e w ⟨rfl, rfl⟩)
        go_ret
        refine HL2.out.no HLow.out ?_
        unfold moveS; rw [HG.out]; simp only []; rw [← HIc.out]; rw [if_neg (by decide), if_pos HOC.out]
      ·
        have HOC := Aside0.mk hoc
        have d1 : (old == c) = false := beq_eq_false_iff_ne.2 hoc
        clear hoc
        have HS := Aside0.mk (sitter2 HL2.out.laid.st c)
        obtain ⟨tk, htk⟩ : ∃ tk, tk = takenB st.chairs c := ⟨_, rfl⟩
        rw [← htk] at HS
        have HTk := Aside0.mk htk
        clear htk
        cases tk with
        | false =>
          go_wp2_with (first | (go_at_call 112; refine (HCh.out _).mono ?_; rintro e w ⟨rfl, rfl⟩) | (go_at_call 111; refine HS.out.mono ?_; rintro e W3 ⟨⟨x, rfl, hx⟩, hb⟩; have HL3 := Aside0.mk (HL2.out.below hb); replace r0 := cell_below r0 hb; replace r1 := cell_below r1 hb; replace r2 := cell_below r2 hb; replace kn0 := cell_below kn0 hb; replace kv0 := cell_below kv0 hb; replace f0 := cell_below f0 hb; replace f1 := cell_below f1 hb; clear hb; have HX := Aside0.mk hx; clear hx) | (at_mapUpdate; go_loud (refine wpList_update_named _ rfl _ _ _ 125 rfl 9 3 law9 Tryz.underlying125 b2 (ints st.chairs) rfl HL3.out.laid.st.p2 (by rw [length_ints]; have := HArg.out.1; omega) (.string n) (.int .i64 c) _ rfl rfl (keyOf9 hn) ?_); intro W5 hm5 hg5 hs5; go_loud (have HM5 := Aside0.mk hm5; have HG5 := Aside0.mk hg5; clear hm5 hg5 hs5)))
          go_ret
          refine HL3.out.done2 HLow.out HG5.out (by have h := HM5.out; rw [put_ints] at h; exact h) ?_
          unfold moveS; rw [HG.out]; simp only []; rw [← HIc.out]; rw [if_neg (by decide), if_neg HOC.out, sitterV_none HNd.out (fun k hk => by have h := taken_of_get hk; rw [← HTk.out] at h; cases h)]
        | true =>
          go_wp2_with (first | (go_at_call 112; refine (HCh.out _).mono ?_; rintro e w ⟨rfl, rfl⟩) | (go_at_call 111; refine HS.out.mono ?_; rintro e W3 ⟨⟨x, rfl, hx⟩, hb⟩; have HL3 := Aside0.mk (HL2.out.below hb); replace r0 := cell_below r0 hb; replace r1 := cell_below r1 hb; replace r2 := cell_below r2 hb; replace kn0 := cell_below kn0 hb; replace kv0 := cell_below kv0 hb; replace f0 := cell_below f0 hb; replace f1 := cell_below f1 hb; clear hb; have HX := Aside0.mk hx; go_loud (have HXs := Aside0.mk (show x.size ≤ 100 by have h := HArg.out.2.2 _ (List.mem_map.2 ⟨_, get_some_mem (by first | exact hx rfl | exact hx trivial), rfl⟩); simpa using h)); clear hx) | (at_mapUpdate; go_loud (refine wpList_update_named _ rfl _ _ _ 125 rfl 9 3 law9 Tryz.underlying125 b2 (ints st.chairs) rfl HL3.out.laid.st.p2 (by rw [length_ints]; have := HArg.out.1; omega) (.string x) (.int .i64 old) _ rfl rfl (keyOf9 HXs.out) ?_); intro W5 hm5 hg5 hs5; go_loud (rw [put_ints] at hm5; have HM5 := Aside0.mk hm5; have HG5 := Aside0.mk hg5; have h5 := HL3.out.laid.st.put2 hg5 hm5 HL3.out.n12 HL3.out.n23.symm; replace r1 := (blk_cell h5.cells 1).trans rfl; clear hm5 hg5 hs5 h5)) | (at_mapUpdate; go_loud (refine wpList_update_named _ rfl _ _ _ 125 rfl 9 3 law9 Tryz.underlying125 b2 (ints (put st.chairs x.data.toList old)) rfl HM5.out (by rw [length_ints]; rw [length_put]; have := HArg.out.1; split <;> omega) (.string n) (.int .i64 c) _ rfl rfl (keyOf9 hn) ?_); intro W6 hm5 hg5 hs5; go_loud (rw [put_ints] at hm5; have HM6 := Aside0.mk hm5; have HG6 := Aside0.mk hg5; clear hm5 hg5 hs5)))
          go_ret
          refine HL3.out.done2 HLow.out (grownBy_trans2 HG5.out HG6.out) HM6.out ?_
          unfold moveS; rw [HG.out]; simp only []; rw [← HIc.out]; rw [if_neg (by decide), if_neg HOC.out, sitterV_some HNd.out HArg.out.2.1 (by first | exact HX.out rfl | exact HX.out trivial)]
end
end Go.Proofs.YtoeeipkiadbnpaaGreatDoor.Lib10
end

section
namespace Go.Proofs.YtoeeipkiadbnpaaGreatDoor.Lib10
open Go.RowKit Go.Proofs.YtoeeipkiadbnpaaGreatDoorW.PrintWords Go.Proofs.YtoeeipkiadbnpaaGreatDoorW.PrintLast Go.Proofs.YtoeeipkiadbnpaaGreatDoorW.PrintMore
set_option linter.unusedVariables false
set_option linter.unusedSimpArgs false
theorem sortV_spec : ∀ (f : List UInt8) (ws : List ByteArray) (r : List ByteArray × List Int), sortV f ws = some r → f.length = ws.length →
    r.1.length = f.countP (· == 110) ∧ r.2.length = f.countP (· != 110) ∧ (∀ n ∈ r.1, isNameB n.data.toList = true ∧ n ∈ ws) ∧ ∀ v ∈ r.2, 0 ≤ v ∧ v ≤ 9223372036854775807
  | [], [], r, h, _ => by
    simp only [sortV, Option.some.injEq] at h
    subst h
    simp
  | c :: f, w :: ws, r, h, hl => by
    have hl' : f.length = ws.length := by simpa using hl
    rw [sortV] at h
    by_cases hc : c = 110
    · rw [if_pos hc] at h
      by_cases hn : isNameB w.data.toList = true
      · rw [if_pos hn] at h
        obtain ⟨r', hr', rfl⟩ := Option.map_eq_some_iff.1 h
        obtain ⟨h1, h2, h3, h4⟩ := sortV_spec f ws r' hr' hl'
        subst hc
        refine ⟨by simp [h1], by simp [h2], fun n hm => ?_, h4⟩
        rcases List.mem_cons.1 hm with rfl | hm
        · exact ⟨hn, by simp⟩
        · exact ⟨(h3 n hm).1, List.mem_cons_of_mem _ (h3 n hm).2⟩
      · rw [if_neg hn] at h; cases h
    · rw [if_neg hc] at h
      cases hv : numberV w.data.toList with
      | none => rw [hv] at h; cases h
      | some n =>
        rw [hv] at h
        obtain ⟨r', hr', rfl⟩ := Option.map_eq_some_iff.1 h
        obtain ⟨h1, h2, h3, h4⟩ := sortV_spec f ws r' hr' hl'
        refine ⟨by simp [h1, hc], by simp [h2, hc], fun n hm => ⟨(h3 n hm).1, List.mem_cons_of_mem _ (h3 n hm).2⟩, fun v hm => ?_⟩
        rcases List.mem_cons.1 hm with rfl | hm
        · unfold numberV at hv
          split at hv
          · rename_i u hu
            by_cases c : 0 ≤ u ∧ w.data.toList.length ≤ 4 ∧ Lib.itoa u = w.data.toList
            · rw [if_pos c] at hv
              obtain rfl := Option.some.inj hv
              exact ⟨c.1, atoiAll_le hu⟩
            · rw [if_neg c] at hv; cases hv
          · cases hv
        · exact h4 v hm
  | [], _ :: _, _, _, hl => by simp at hl
  | _ :: _, [], _, _, hl => by simp at hl
theorem isNameB_len {l : List UInt8} (h : isNameB l = true) : l.length ≤ 8 := by
  unfold isNameB at h
  simp only [Bool.and_eq_true, decide_eq_true_eq] at h
  exact h.2.2
theorem name_size {n : ByteArray} (h : isNameB n.data.toList = true) : n.size ≤ 8 := by simpa using isNameB_len h
theorem readV_spec {f : List UInt8} {many : Bool} {text : ByteArray} {r : List ByteArray × List Int} (h : readV f many text = some r) :
    ∃ F, F = formV f many (wordsB text).tail.length ∧ (wordsB text).tail.length = F.length ∧ isLineB text = true ∧ sortV F (wordsB text).tail = some r := by
  unfold readV at h
  by_cases c : (wordsB text).tail.length = (formV f many (wordsB text).tail.length).length ∧ isLineB text = true
  · rw [if_pos c] at h; exact ⟨_, rfl, c.1, c.2, h⟩
  · rw [if_neg c] at h; cases h
theorem formV_false (f : List UInt8) (n : Nat) : formV f false n = f := by unfold formV; simp
theorem readV_few {f : List UInt8} {text : ByteArray} {r : List ByteArray × List Int} (h : readV f false text = some r) :
    r.1.length = f.countP (· == 110) ∧ r.2.length = f.countP (· != 110) ∧ (∀ n ∈ r.1, isNameB n.data.toList = true) ∧ (∀ v ∈ r.2, 0 ≤ v) ∧ isLineB text = true := by
  obtain ⟨F, hF, hl, hb, hs⟩ := readV_spec h
  rw [formV_false] at hF
  subst hF
  obtain ⟨h1, h2, h3, h4⟩ := sortV_spec _ _ _ hs hl.symm
  exact ⟨h1, h2, fun n hn => (h3 n hn).1, fun v hv => (h4 v hv).1, hb⟩
theorem readV_many {text : ByteArray} {r : List ByteArray × List Int} (h : readV [110, 100] true text = some r) :
    r.1.length = 1 ∧ 1 ≤ r.2.length ∧ r.2.length ≤ 8 ∧ (∀ n ∈ r.1, isNameB n.data.toList = true) ∧ (∀ v ∈ r.2, 0 ≤ v) ∧ isLineB text = true := by
  obtain ⟨F, hF, hl, hb, hs⟩ := readV_spec h
  obtain ⟨h1, h2, h3, h4⟩ := sortV_spec _ _ _ hs hl.symm
  have hq : ∃ q, q ≤ 7 ∧ F = [110, 100] ++ List.replicate q 100 := by
    unfold formV at hF
    by_cases c : true = true ∧ [(110 : UInt8), 100].length ≤ (wordsB text).tail.length ∧ (wordsB text).tail.length ≤ [(110 : UInt8), 100].length + 7
    · rw [if_pos c] at hF
      exact ⟨(wordsB text).tail.length - 2, by have := c.2.2; simp at this ⊢; omega, by rw [hF]; rfl⟩
    · rw [if_neg c] at hF
      exact ⟨0, by omega, by rw [hF]; rfl⟩
  obtain ⟨q, hq7, rfl⟩ := hq
  simp [List.countP_append, List.countP_cons, List.countP_replicate] at h1 h2
  refine ⟨h1, by omega, by omega, fun n hn => (h3 n hn).1, fun v hv => (h4 v hv).1, hb⟩
theorem line_size {text : ByteArray} (h : isLineB text = true) : text.size ≤ 60 := by
  unfold isLineB at h
  simp only [Bool.and_eq_true, decide_eq_true_eq] at h
  exact h.1
theorem one_of {α : Type} {l : List α} (h : l.length = 1) : ∃ a, l = [a] := List.length_eq_one_iff.1 h
theorem two_of {α : Type} {l : List α} (h : l.length = 2) : ∃ a b, l = [a, b] := by
  match l, h with
  | [a, b], _ => exact ⟨a, b, rfl⟩
structure Good (st : St) : Prop where
  nd1 : (keysOf st.pieces).Nodup
  nd2 : (keysOf st.chairs).Nodup
  nd3 : (keysOf st.loans).Nodup
  p8 : st.pieces.length ≤ 8
  seat : ∀ k c, get st.chairs k = some c → 1 ≤ c ∧ c ≤ 8
  apart : Apart st.chairs
  k1 : ∀ k ∈ keysOf st.pieces, isNameB k = true
  k2 : ∀ k ∈ keysOf st.chairs, isNameB k = true
  notes : ∀ k xs, get st.pieces k = some xs → xs ≠ [] ∧ xs.length ≤ 8 ∧ ∀ x ∈ xs, 0 ≤ x ∧ x ≤ 20
  loans : ∀ k n, get st.loans k = some n → (get st.pieces k).isSome = true ∧ (get st.chairs n.data.toList).isSome = true
theorem Good.begin : Good St.begin where
  nd1 := List.nodup_nil
  nd2 := List.nodup_nil
  nd3 := List.nodup_nil
  p8 := by decide
  seat := fun k c h => by cases h
  apart := fun k k' c h => by cases h
  k1 := fun k h => by cases h
  k2 := fun k h => by cases h
  notes := fun k xs h => by cases h
  loans := fun k n h => by cases h
theorem length_le_of_sub : ∀ (l S : List Int), l.Nodup → (∀ x ∈ l, x ∈ S) → l.length ≤ S.length
  | [], _, _, _ => Nat.zero_le _
  | x :: l, S, hn, hs => by
    obtain ⟨h1, h2⟩ := List.nodup_cons.1 hn
    have hx := hs x List.mem_cons_self
    have ih := length_le_of_sub l (S.erase x) h2 (fun y hy => (List.mem_erase_of_ne (fun e => h1 (by rw [← e]; exact hy))).2 (hs y (List.mem_cons_of_mem _ hy)))
    rw [List.length_erase_of_mem hx] at ih
    have : 0 < S.length := List.length_pos_of_mem hx
    simp only [List.length_cons]
    omega
theorem Good.c8 {st : St} (h : Good st) : st.chairs.length ≤ 8 := by
  have hn : (st.chairs.map (·.2)).Nodup := by
    have h2 := h.nd2
    have ha := h.apart
    have hseat : ∀ p ∈ st.chairs, get st.chairs p.1 = some p.2 := fun p hp => get_of_mem h.nd2 hp
    unfold keysOf at h2
    generalize st.chairs = ch at h2 ha hseat
    have key : ∀ l : List (Str × Int), (l.map (·.1)).Nodup → (∀ p ∈ l, get ch p.1 = some p.2) → (l.map (·.2)).Nodup := by
      intro l
      induction l with
      | nil => intro _ _; simp
      | cons p l ih =>
        intro hn hg
        simp only [List.map_cons, List.nodup_cons] at hn ⊢
        refine ⟨fun hm => ?_, ih hn.2 (fun q hq => hg q (List.mem_cons_of_mem _ hq))⟩
        obtain ⟨q, hq, e⟩ := List.mem_map.1 hm
        have e1 := hg q (List.mem_cons_of_mem _ hq)
        rw [e] at e1
        have e2 := ha _ _ _ e1 (hg p List.mem_cons_self)
        exact hn.1 (List.mem_map.2 ⟨q, hq, e2⟩)
    exact key ch h2 hseat
  have := length_le_of_sub (st.chairs.map (·.2)) [1, 2, 3, 4, 5, 6, 7, 8] hn (fun x hx => by
    obtain ⟨p, hp, rfl⟩ := List.mem_map.1 hx
    have := h.seat p.1 p.2 (get_of_mem h.nd2 hp)
    simp only [List.mem_cons, List.mem_nil_iff, or_false]
    omega)
  simpa using this
theorem Good.l8 {st : St} (h : Good st) : st.loans.length ≤ 8 := by
  have hs : ∀ (l S : List Str), l.Nodup → (∀ x ∈ l, x ∈ S) → l.length ≤ S.length := by
    intro l
    induction l with
    | nil => intro S _ _; exact Nat.zero_le _
    | cons x l ih =>
      intro S hn hs
      obtain ⟨h1, h2⟩ := List.nodup_cons.1 hn
      have hx := hs x List.mem_cons_self
      have ih := ih (S.erase x) h2 (fun y hy => (List.mem_erase_of_ne (fun e => h1 (by rw [← e]; exact hy))).2 (hs y (List.mem_cons_of_mem _ hy)))
      rw [List.length_erase_of_mem hx] at ih
      have : 0 < S.length := List.length_pos_of_mem hx
      simp only [List.length_cons]
      omega
  have := hs (keysOf st.loans) (keysOf st.pieces) h.nd3 (fun k hk => by
    cases hg : get st.loans k with
    | none => exact absurd hk (get_none_iff.1 hg)
    | some n =>
      have h1 := (h.loans k n hg).1
      cases hp : get st.pieces k with
      | none => rw [hp] at h1; cases h1
      | some xs => exact List.mem_map.2 ⟨_, get_some_mem hp, rfl⟩)
  have hp := h.p8
  simp only [keysOf, List.length_map] at this
  omega
theorem keys_put_mem {α : Type} {m : List (Str × α)} {k : Str} {v : α} {P : Str → Prop} (h : ∀ x ∈ keysOf m, P x) (hk : P k) : ∀ x ∈ keysOf (put m k v), P x := by
  intro x hx
  rw [keys_put] at hx
  split at hx
  · exact h x hx
  · rcases List.mem_append.1 hx with hx | hx
    · exact h x hx
    · rw [List.mem_singleton] at hx; subst hx; exact hk
theorem keys_del_mem {α : Type} {m : List (Str × α)} {k : Str} {P : Str → Prop} (h : ∀ x ∈ keysOf m, P x) : ∀ x ∈ keysOf (del m k), P x := by
  intro x hx
  obtain ⟨p, hp, rfl⟩ := List.mem_map.1 hx
  exact h _ (List.mem_map.2 ⟨p, (List.mem_filter.1 hp).1, rfl⟩)
theorem maxOf_ge : ∀ (l : List Int) (a : Int), a ≤ l.foldl max a ∧ ∀ x ∈ l, x ≤ l.foldl max a
  | [], a => ⟨Int.le_refl _, fun x h => by cases h⟩
  | y :: l, a => by
    obtain ⟨h1, h2⟩ := maxOf_ge l (max a y)
    rw [List.foldl_cons]
    refine ⟨by omega, fun x hx => ?_⟩
    rcases List.mem_cons.1 hx with rfl | hx
    · omega
    · exact h2 x hx
theorem le_maxOf {l : List Int} {x : Int} (h : x ∈ l) : x ≤ Lib.maxOf l := (maxOf_ge l _).2 x h
theorem good_piece {st : St} (h : Good st) {n : Str} {xs : List Int} (hn : isNameB n = true) (h0 : xs ≠ []) (h8 : xs.length ≤ 8) (hx : ∀ x ∈ xs, 0 ≤ x) : Good (pieceS st n xs).2 := by
  unfold pieceS
  split
  · exact h
  · next hp =>
    split
    · exact h
    · next hm =>
      split
      · exact h
      · next h88 =>
        have hp8 := h.p8
        refine ⟨nodup_put h.nd1 _ _, h.nd2, h.nd3, ?_, h.seat, h.apart, keys_put_mem h.k1 hn, h.k2, fun k ys hk => ?_, fun k m hk => ?_⟩
        · show (put st.pieces n xs).length ≤ 8
          rw [length_put]; split <;> omega
        · simp only [get_put] at hk
          split at hk
          · obtain rfl := Option.some.inj hk
            exact ⟨h0, h8, fun x hxm => ⟨hx x hxm, by have := le_maxOf hxm; omega⟩⟩
          · exact h.notes k ys hk
        · have := h.loans k m hk
          refine ⟨?_, this.2⟩
          simp only [get_put]
          split
          · rfl
          · exact this.1
theorem taken_none {st : St} (h : Good st) {c : Int} (ht : takenB st.chairs c = false) : ∀ k, get st.chairs k ≠ some c := fun k hk => by rw [taken_of_get hk] at ht; cases ht
theorem good_player {st : St} (h : Good st) {n : Str} {c : Int} (hn : isNameB n = true) : Good (playerS st n c).2 := by
  unfold playerS
  split
  · exact h
  · next ht =>
    split
    · next hc =>
      simp only [Bool.or_eq_true, not_or, Bool.not_eq_true] at ht
      simp only [Bool.and_eq_true, decide_eq_true_eq] at hc
      have hno := taken_none h ht.2
      refine ⟨h.nd1, nodup_put h.nd2 _ _, h.nd3, h.p8, fun k d hk => ?_, fun k k' d hk hk' => ?_, h.k1, keys_put_mem h.k2 hn, h.notes, fun k m hk => ?_⟩
      · simp only [get_put] at hk
        split at hk
        · obtain rfl := Option.some.inj hk; exact hc
        · exact h.seat k d hk
      · simp only [get_put] at hk hk'
        split at hk <;> split at hk'
        · next e1 e2 => rw [e1, e2]
        · obtain rfl := Option.some.inj hk; exact absurd hk' (hno _)
        · obtain rfl := Option.some.inj hk'; exact absurd hk (hno _)
        · exact h.apart k k' d hk hk'
      · have := h.loans k m hk
        refine ⟨this.1, ?_⟩
        simp only [get_put]
        split
        · rfl
        · exact this.2
    · exact h
theorem good_lend {st : St} (h : Good st) {p : Str} {n : ByteArray} : Good (lendS st p n).2 := by
  unfold lendS
  split
  · exact h
  · next hb =>
    split
    · exact h
    · have hb' : ((get st.pieces p).isSome && (get st.chairs n.data.toList).isSome) = true := by revert hb; cases ((get st.pieces p).isSome && (get st.chairs n.data.toList).isSome) <;> simp
      rw [Bool.and_eq_true] at hb'
      refine ⟨h.nd1, h.nd2, nodup_put h.nd3 _ _, h.p8, h.seat, h.apart, h.k1, h.k2, h.notes, fun k m hk => ?_⟩
      simp only [get_put] at hk
      split at hk
      · next e => obtain rfl := Option.some.inj hk; rw [e]; exact hb'
      · exact h.loans k m hk
theorem good_back {st : St} (h : Good st) {p : Str} : Good (backS st p).2 := by
  unfold backS
  split
  · exact h
  · split
    · exact h
    · refine ⟨h.nd1, h.nd2, nodup_del h.nd3 _, h.p8, h.seat, h.apart, h.k1, h.k2, h.notes, fun k m hk => ?_⟩
      simp only [get_del] at hk
      split at hk
      · cases hk
      · exact h.loans k m hk
theorem good_burn {st : St} (h : Good st) {p : Str} : Good (burnS st p).2 := by
  unfold burnS
  split
  · exact h
  · split
    · exact h
    · next hl =>
      refine ⟨nodup_del h.nd1 _, h.nd2, h.nd3, ?_, h.seat, h.apart, keys_del_mem h.k1, h.k2, fun k ys hk => ?_, fun k m hk => ?_⟩
      · have := length_del h.nd1 p
        have := h.p8
        show (del st.pieces p).length ≤ 8
        omega
      · simp only [get_del] at hk
        split at hk
        · cases hk
        · exact h.notes k ys hk
      · have := h.loans k m hk
        refine ⟨?_, this.2⟩
        simp only [get_del]
        split
        · next e => subst e; rw [hk] at hl; exact absurd rfl hl
        · exact this.1
theorem good_move {st : St} (h : Good st) {n : Str} {c : Int} : Good (moveS st n c).2 := by
  unfold moveS
  split
  · exact h
  · next old ho =>
    split
    · exact h
    · next hc0 =>
      have hc : 1 ≤ c ∧ c ≤ 8 := by
        have : (decide (1 ≤ c) && decide (c ≤ 8)) = true := by simpa using hc0
        simpa using this
      split
      · exact h
      · next hne =>
        have hold := h.seat n old ho
        have hnk : isNameB n = true := h.k2 n (List.mem_map.2 ⟨_, get_some_mem ho, rfl⟩)
        split
        · next other hs =>
          have hot : get st.chairs other = some c := by
            unfold sitterV at hs
            obtain ⟨p, hp, rfl⟩ := Option.map_eq_some_iff.1 hs
            have h1 := List.find?_some hp
            have h3 : p.2 = c := by simpa using h1
            exact get_of_mem h.nd2 (by rw [← h3]; exact List.mem_of_find?_eq_some hp)
          have hno : n ≠ other := fun e => by subst e; rw [ho] at hot; exact hne (Option.some.inj hot)
          have hok : isNameB other = true := h.k2 other (List.mem_map.2 ⟨_, get_some_mem hot, rfl⟩)
          refine ⟨h.nd1, nodup_put (nodup_put h.nd2 _ _) _ _, h.nd3, h.p8, fun k d hk => ?_, fun k k' d hk hk' => ?_, h.k1, keys_put_mem (keys_put_mem h.k2 hok) hnk, h.notes, fun k m hk => ?_⟩
          · simp only [get_put] at hk
            split at hk
            · obtain rfl := Option.some.inj hk; exact hc
            · split at hk
              · obtain rfl := Option.some.inj hk; exact hold
              · exact h.seat k d hk
          · simp only [get_put] at hk hk'
            split at hk <;> split at hk'
            · next e1 e2 => rw [e1, e2]
            · obtain rfl := Option.some.inj hk
              split at hk'
              · exact absurd (Option.some.inj hk') hne
              · next e1 e2 => exact absurd (h.apart _ _ _ hk' hot) e2
            · obtain rfl := Option.some.inj hk'
              split at hk
              · exact absurd (Option.some.inj hk) hne
              · next e1 e2 => exact absurd (h.apart _ _ _ hk hot) e2
            · split at hk <;> split at hk'
              · next e1 e2 => rw [e1, e2]
              · obtain rfl := Option.some.inj hk
                next e1 _ => exact absurd (h.apart _ _ _ hk' ho) (by assumption)
              · obtain rfl := Option.some.inj hk'
                exact absurd (h.apart _ _ _ hk ho) (by assumption)
              · exact h.apart k k' d hk hk'
          · have := h.loans k m hk
            refine ⟨this.1, ?_⟩
            simp only [get_put]
            split
            · rfl
            · split
              · rfl
              · exact this.2
        · next hs =>
          have hno : ∀ k, get st.chairs k ≠ some c := fun k hk => by rw [sitterV_some h.nd2 h.apart hk] at hs; cases hs
          refine ⟨h.nd1, nodup_put h.nd2 _ _, h.nd3, h.p8, fun k d hk => ?_, fun k k' d hk hk' => ?_, h.k1, keys_put_mem h.k2 hnk, h.notes, fun k m hk => ?_⟩
          · simp only [get_put] at hk
            split at hk
            · obtain rfl := Option.some.inj hk; exact hc
            · exact h.seat k d hk
          · simp only [get_put] at hk hk'
            split at hk <;> split at hk'
            · next e1 e2 => rw [e1, e2]
            · obtain rfl := Option.some.inj hk; exact absurd hk' (hno _)
            · obtain rfl := Option.some.inj hk'; exact absurd hk (hno _)
            · exact h.apart k k' d hk hk'
          · have := h.loans k m hk
            refine ⟨this.1, ?_⟩
            simp only [get_put]
            split
            · rfl
            · exact this.2
theorem good_do {st : St} (h : Good st) (text : ByteArray) : Good (doS st text).2 := by
  unfold doS
  repeat' split
  all_goals first
    | exact h
    | exact good_lend h
    | exact good_back h
    | exact good_burn h
    | exact good_move h
    | (next r hr => obtain ⟨h1, h2, h3, h4, _⟩ := readV_few hr; obtain ⟨a, ha⟩ := one_of (l := r.1) h1; exact good_player h (by show isNameB (r.1.getD 0 ByteArray.empty).data.toList = true; rw [ha]; exact h3 a (by rw [ha]; exact List.mem_cons_self)))
    | (next r hr => obtain ⟨h1, h2, h3, h4, h5, _⟩ := readV_many hr; obtain ⟨a, ha⟩ := one_of (l := r.1) h1; exact good_piece h (by show isNameB (r.1.getD 0 ByteArray.empty).data.toList = true; rw [ha]; exact h4 a (by rw [ha]; exact List.mem_cons_self)) (by intro e; rw [e] at h2; simp at h2) h3 h5)
end Go.Proofs.YtoeeipkiadbnpaaGreatDoor.Lib10
end

section
namespace Go.Proofs.YtoeeipkiadbnpaaGreatDoor.Lib10
open Go.RowKit Go.Proofs.YtoeeipkiadbnpaaGreatDoorW.PrintWords Go.Proofs.YtoeeipkiadbnpaaGreatDoorW.PrintLast Go.Proofs.YtoeeipkiadbnpaaGreatDoorW.PrintMore
set_option linter.unusedVariables false
set_option linter.unusedSimpArgs false
theorem words_m (text : ByteArray) : ∃ m, (wordsB text).length = m + 1 := ⟨_, wordsB_length text⟩
theorem read_form (x text : ByteArray) (W : World) (hT : Tabs W) (hs : text.size < 4294967281) (hx : Lib.hasSuffix x.data.toList [43] = false) (hx1 : 1 ≤ x.size) (hm100 : x.size ≤ 100) : Calls Tryz.prog 72 #[.string x, .string text] W (ReadEnd (readV x.data.toList false text) W) := by
  obtain ⟨m, hw⟩ := words_m text
  have ht : (wordsB text).tail.length = m := by simp [hw]
  have hxl : x.data.toList.length = x.size := by simp
  unfold readV
  rw [formV_false, ht, hxl]
  by_cases hm : m = x.size
  · cases hl : isLineB text with
    | false => rw [if_neg (fun c => by cases c.2)]; exact read_bad x text W hT hs hx hm100 m hw hm hl
    | true => rw [if_pos ⟨hm, rfl⟩]; exact read_line x text W hT hs hx (by omega) (by omega) hw hm.symm hl
  · rw [if_neg (fun c => hm c.1)]; exact read_few x text W hT hs hx hm100 m hw hm
theorem read_plus (text : ByteArray) (W : World) (hT : Tabs W) (hs : text.size < 4294967281) : Calls Tryz.prog 72 #[.string xPlus, .string text] W (ReadEnd (readV [110, 100] true text) W) := by
  obtain ⟨m, hw⟩ := words_m text
  have ht : (wordsB text).tail.length = m := by simp [hw]
  unfold readV
  rw [ht]
  by_cases hm : m < 2 ∨ 9 < m
  · have : formV [110, 100] true m = [110, 100] := by
      unfold formV
      rw [if_neg (fun c => by have := c.2; simp at this; omega)]
    rw [this, if_neg (fun c => by have := c.1; simp at this; omega)]
    exact readp_few text W hT hs m hw hm
  · have hf : formV [110, 100] true m = (xNd ++ repD (m - 2)).data.toList := by
      unfold formV
      rw [if_pos ⟨rfl, by simp; omega, by simp; omega⟩, ByteArray.data_append, Array.toList_append, repD_list]
      rfl
    have hfl : (xNd ++ repD (m - 2)).data.toList.length = m := by
      have key : ∀ x : ByteArray, x.data.toList.length = x.size := fun x => by simp
      rw [key, full_size]
      omega
    rw [hf, hfl]
    cases hl : isLineB text with
    | false => rw [if_neg (fun c => by cases c.2)]; exact readp_bad (m - 2) text W hT hs m hw (by omega) (by omega) hl
    | true => rw [if_pos ⟨rfl, rfl⟩]; exact readp_line (m - 2) text W hT hs m hw (by omega) (by omega) hl
theorem StAt.mono {S S' : Nat → Prop} {W : World} {g : Nat} {st : St} (h : StAt S W g st) (hs : ∀ k, S k → S' k) : StAt S' W g st := by
  obtain ⟨m1, h1, h2⟩ := h
  exact ⟨m1, h1.mono hs, h2⟩
/-- What do answers. -/
def DoEnd (st : St) (g : Nat) (text : ByteArray) (W : World) (e : Ending) (w' : World) : Prop :=
  (if (doS st text).1 = 0 then ∃ g', e = .returned (.tuple #[ptr g', .string (headW text), .int .i64 0]) ∧ StAt (fun k => W.heap.size ≤ k) w' g' (doS st text).2
    else e = .returned (.tuple #[ptr g, .string ByteArray.empty, .int .i64 (doS st text).1])) ∧ Below W.heap.size W w'
theorem doEnd_no {st : St} {g : Nat} {text : ByteArray} {W w' : World} {z : Int} (hd : doS st text = (z, st)) (hz : z ≠ 0) (hb : Below W.heap.size W w') : DoEnd st g text W (.returned (.tuple #[ptr g, .string ByteArray.empty, .int .i64 z])) w' := by
  unfold DoEnd
  rw [hd, if_neg hz]
  exact ⟨rfl, hb⟩
theorem doEnd_err {st : St} {g : Nat} {text : ByteArray} {W w' : World} {r : Int × St} (hd : doS st text = r) (hz : r.1 ≠ 0) (hb : Below W.heap.size W w') : DoEnd st g text W (.returned (.tuple #[ptr g, .string ByteArray.empty, .int .i64 r.1])) w' := by
  unfold DoEnd
  rw [hd, if_neg hz]
  exact ⟨rfl, hb⟩
theorem doEnd_ok {st : St} {g g' : Nat} {text w : ByteArray} {W w' : World} {r : Int × St} (hd : doS st text = r) (hz : r.1 = 0) (hw : headW text = w) (hs : StAt (fun k => W.heap.size ≤ k) w' g' r.2) (hb : Below W.heap.size W w') : DoEnd st g text W (.returned (.tuple #[ptr g', .string w, .int .i64 0])) w' := by
  unfold DoEnd
  rw [hd, if_pos hz]
  exact ⟨⟨g', by rw [hw], hs⟩, hb⟩
section
set_option maxRecDepth 100000
set_option maxHeartbeats 2000000
theorem cloneS_calls {S : Nat → Prop} {W : World} {g : Nat} {st : St} (h : StAt S W g st) : Calls Tryz.prog 65 #[ptr g] W fun e w' => (∃ g', e = .returned (ptr g') ∧ StAt (fun k => W.heap.size ≤ k) w' g' st) ∧ Below W.heap.size W w' := by
  obtain ⟨m1, h1, h2⟩ := h
  refine (clone_calls h1).mono ?_
  rintro e w' ⟨⟨g', rfl, hi⟩, hb⟩
  exact ⟨⟨g', rfl, m1, hi, h2.below hb⟩, hb⟩
theorem doS_Piece {st : St} {text : ByteArray} (hword : headW text = wPiece) : doS st text = (match readV [110, 100] true text with | some r => pieceS st (nameAt r 0).data.toList r.2 | none => (3, st)) := by
  unfold doS
  rw [if_pos hword]
  all_goals (cases readV [110, 100] true text <;> rfl)
theorem doS_Player {st : St} {text : ByteArray} (hword : headW text = wPlayer) : doS st text = (match readV [110, 100] false text with | some r => playerS st (nameAt r 0).data.toList (numAt r 0) | none => (3, st)) := by
  unfold doS
  rw [if_neg (by rw [hword]; decide)]
  rw [if_pos hword]
  all_goals (cases readV [110, 100] false text <;> rfl)
theorem doS_Lend {st : St} {text : ByteArray} (hword : headW text = wLend) : doS st text = (match readV [110, 110] false text with | some r => lendS st (nameAt r 0).data.toList (nameAt r 1) | none => (3, st)) := by
  unfold doS
  rw [if_neg (by rw [hword]; decide)]
  rw [if_neg (by rw [hword]; decide)]
  rw [if_pos hword]
  all_goals (cases readV [110, 110] false text <;> rfl)
theorem doS_Back {st : St} {text : ByteArray} (hword : headW text = wBack) : doS st text = (match readV [110] false text with | some r => backS st (nameAt r 0).data.toList | none => (3, st)) := by
  unfold doS
  rw [if_neg (by rw [hword]; decide)]
  rw [if_neg (by rw [hword]; decide)]
  rw [if_neg (by rw [hword]; decide)]
  rw [if_pos hword]
  all_goals (cases readV [110] false text <;> rfl)
theorem doS_Move {st : St} {text : ByteArray} (hword : headW text = wMove) : doS st text = (match readV [110, 100] false text with | some r => moveS st (nameAt r 0).data.toList (numAt r 0) | none => (3, st)) := by
  unfold doS
  rw [if_neg (by rw [hword]; decide)]
  rw [if_neg (by rw [hword]; decide)]
  rw [if_neg (by rw [hword]; decide)]
  rw [if_neg (by rw [hword]; decide)]
  rw [if_pos hword]
  all_goals (cases readV [110, 100] false text <;> rfl)
theorem doS_Burn {st : St} {text : ByteArray} (hword : headW text = wBurn) : doS st text = (match readV [110] false text with | some r => burnS st (nameAt r 0).data.toList | none => (3, st)) := by
  unfold doS
  rw [if_neg (by rw [hword]; decide)]
  rw [if_neg (by rw [hword]; decide)]
  rw [if_neg (by rw [hword]; decide)]
  rw [if_neg (by rw [hword]; decide)]
  rw [if_neg (by rw [hword]; decide)]
  rw [if_pos hword]
  all_goals (cases readV [110] false text <;> rfl)
theorem playerS_calls {L : Nat} {W : World} {g : Nat} {st : St} (h : StAt (fun k => L ≤ k) W g st) (hlen : st.chairs.length < 1000) {v1 v2 : Value} {B1 B2 : Nat} {F1 F2 : Nat → Prop} (n : ByteArray) (c : Int) (hn : n.size ≤ 100)
    (h1 : Kd.string.R 9 W B1 F1 v1 [n]) (h2 : (Kd.int .i64).R 3 W B2 F2 v2 [c]) : Calls Tryz.prog 67 #[ptr g, .agg #[v1, v2]] W (ActPost L g (playerS st n.data.toList c) W) := by
  obtain ⟨m1, ⟨b1, b2, b3, s0, s1, s2, s3, n1, n2, n3, hr⟩, hp⟩ := h
  refine (player_calls hr n1 (fun e => n3 e.symm) hlen n c hn h1 h2).mono ?_
  rintro e w' ⟨he, hst, hk, hb⟩
  have hp' : Pcs w' m1 st.pieces := hp.same (fun k cells hc => hk.2 k (blk_lt hc) (fun e => by
    obtain ⟨D, ⟨es, clock, hbl, _⟩, _⟩ := hr.p2
    rw [e, hbl] at hc; injection hc with hc; cases hc))
  have hE : playerS st n.data.toList c = (playerE st.chairs n c, { st with chairs := if playerE st.chairs n c = 0 then put st.chairs n.data.toList c else st.chairs }) := by
    unfold playerS playerE
    split
    · rfl
    · split <;> rfl
  refine ⟨by rw [he, hE], ?_, hb.mono s2⟩
  rw [hE]
  exact ⟨m1, ⟨b1, b2, b3, s0, s1, s2, s3, n1, n2, n3, hst⟩, hp'⟩
theorem doPiece_calls {S : Nat → Prop} {W : World} {g : Nat} {st : St} (h : StAt S W g st) (hg : Good st) (hT : Tabs W) (text : ByteArray) (hs : text.size < 4294967281) (hword : headW text = wPiece) : Calls Tryz.prog 40 #[ptr g, .string text] W (DoEnd st g text W) := by
  have HD := Aside0.mk (doS_Piece (st := st) hword)
  have HWd := Aside0.mk hword
  have HT := Aside0.mk hT
  have HH := Aside0.mk h
  have HC := Aside0.mk (cut_calls text W hT hs)
  rw [hword] at HC
  have HR := Aside0.mk (fun (w : World) (hT : Tabs w) => read_plus text w hT hs)
  have HL := Aside0.mk (show st.pieces.length < 1000 by have := hg.p8; omega)
  obtain ⟨rv, hrv⟩ : ∃ rv, rv = readV [110, 100] true text := ⟨_, rfl⟩
  replace HR : Aside0 (∀ w, Tabs w → Calls Tryz.prog 72 #[.string xPlus, .string text] w (ReadEnd rv w)) := ⟨fun w hT => by rw [hrv]; exact HR.out w hT⟩
  rw [← hrv] at HD
  have HRv := Aside0.mk hrv
  clear h hg hT hword hrv
  cases rv with
  | none =>
    go_enter Tryz.func40, Tryz.ntmps40
    go_wp2_with (first | (go_at_call 37; refine HC.out.mono ?_; rintro e w1 ⟨⟨s1, s2, rfl⟩, hb⟩; have HB1 := Aside0.mk hb; have HCl := Aside0.mk (cloneS_calls (HH.out.below hb)); clear hb) | (go_at_call 65; refine HCl.out.mono ?_; rintro e w2 ⟨⟨g', rfl, hi⟩, hb⟩; have HI2 := Aside0.mk hi; have HB2 := Aside0.mk (HB1.out.trans (hb.mono HB1.out.size)); clear hi hb) | (go_at_call 72; refine (HR.out _ (HT.out.below HB2.out HT.out.low)).mono ?_; rintro e w3 ⟨rfl, hb⟩; have HB3 := Aside0.mk (HB2.out.trans (hb.mono HB2.out.size)); clear hb))
    go_ret3
    exact doEnd_no HD.out (by decide) (by first | exact HB3.out | exact below_alloc HB3.out _)
  | some r =>
    obtain ⟨f1, f2, f3, f4, f5, _⟩ := readV_many HRv.out.symm
    obtain ⟨n, hn⟩ := one_of (l := r.1) f1
    obtain ⟨xs, hxs⟩ : ∃ xs, r.2 = xs := ⟨_, rfl⟩
    have HX := Aside0.mk (show xs ≠ [] ∧ xs.length ≤ 1000 from ⟨fun e => by rw [hxs, e] at f2; simp at f2, by rw [hxs] at f3; omega⟩)
    have HN := Aside0.mk (show n.size ≤ 100 by have := name_size (f4 n (by rw [hn]; simp)); omega)
    have hrr : r = ([n], xs) := by rw [← hn, ← hxs]
    obtain ⟨r1, r2⟩ := r
    simp only [] at hn hxs
    subst hn hxs
    have HD2 := Aside0.mk (show doS st text = pieceS st n.data.toList r2 from HD.out)
    obtain ⟨res, hres⟩ : ∃ res, res = pieceS st n.data.toList r2 := ⟨_, rfl⟩
    rw [← hres] at HD2
    have HRes := Aside0.mk hres
    clear f1 f2 f4 f5 hrr hres HD f3
    obtain ⟨z, st2⟩ := res
    by_cases hz : z = 0
    · have HZ := Aside0.mk hz
      subst hz
      go_enter Tryz.func40, Tryz.ntmps40
      go_wp2_with (first | (go_at_call 37; refine HC.out.mono ?_; rintro e w1 ⟨⟨s1, s2, rfl⟩, hb⟩; have HB1 := Aside0.mk hb; have HCl := Aside0.mk (cloneS_calls (HH.out.below hb)); clear hb) | (go_at_call 65; refine HCl.out.mono ?_; rintro e w2 ⟨⟨g', rfl, hi⟩, hb⟩; have HI2 := Aside0.mk hi; have HB2 := Aside0.mk (HB1.out.trans (hb.mono HB1.out.size)); clear hi hb) | (go_at_call 72; refine (HR.out _ (HT.out.below HB2.out HT.out.low)).mono ?_; rintro e w3 ⟨⟨v1, v2, rfl, hr1, hr2⟩, hb⟩; obtain ⟨A1, c1, rfl⟩ := Kd.R_slice hr1; obtain ⟨A2, c2, rfl⟩ := Kd.R_slice hr2; have HB3 := Aside0.mk (HB2.out.trans (hb.mono HB2.out.size)); have HI3 := Aside0.mk (HI2.out.below hb); have HB9 := Aside0.mk (Nat.le_trans HT.out.low HB2.out.size); go_loud (have HAc := Aside0.mk (fun (o : Obj) => piece_calls (HI3.out.below (below_alloc (Below.refl _ _) o)) HL.out n r2 HX.out.1 HX.out.2 HN.out (Kd.R_below hr1 (below_alloc (Below.refl _ _) o)) (Kd.R_below hr2 (below_alloc (Below.refl _ _) o)) HB9.out)); clear hr1 hr2 hb) | (go_at_call 66; refine (HAc.out _).mono ?_; rintro e w5 ⟨he, hi, hb⟩; rw [← HRes.out] at he hi; subst he; have HI5 := Aside0.mk hi; have HB5 := Aside0.mk ((below_alloc HB3.out _).trans (hb.mono HB1.out.size)); clear hi hb))
      go_ret3
      exact doEnd_ok HD2.out rfl HWd.out (HI5.out.mono (fun k hk => Nat.le_trans HB1.out.size hk)) HB5.out
    · have HZ := Aside0.mk hz
      have d1 : (z != 0) = true := bne_iff_ne.2 hz
      clear hz
      go_enter Tryz.func40, Tryz.ntmps40
      go_wp2_with (first | (go_at_call 37; refine HC.out.mono ?_; rintro e w1 ⟨⟨s1, s2, rfl⟩, hb⟩; have HB1 := Aside0.mk hb; have HCl := Aside0.mk (cloneS_calls (HH.out.below hb)); clear hb) | (go_at_call 65; refine HCl.out.mono ?_; rintro e w2 ⟨⟨g', rfl, hi⟩, hb⟩; have HI2 := Aside0.mk hi; have HB2 := Aside0.mk (HB1.out.trans (hb.mono HB1.out.size)); clear hi hb) | (go_at_call 72; refine (HR.out _ (HT.out.below HB2.out HT.out.low)).mono ?_; rintro e w3 ⟨⟨v1, v2, rfl, hr1, hr2⟩, hb⟩; obtain ⟨A1, c1, rfl⟩ := Kd.R_slice hr1; obtain ⟨A2, c2, rfl⟩ := Kd.R_slice hr2; have HB3 := Aside0.mk (HB2.out.trans (hb.mono HB2.out.size)); have HI3 := Aside0.mk (HI2.out.below hb); have HB9 := Aside0.mk (Nat.le_trans HT.out.low HB2.out.size); go_loud (have HAc := Aside0.mk (fun (o : Obj) => piece_calls (HI3.out.below (below_alloc (Below.refl _ _) o)) HL.out n r2 HX.out.1 HX.out.2 HN.out (Kd.R_below hr1 (below_alloc (Below.refl _ _) o)) (Kd.R_below hr2 (below_alloc (Below.refl _ _) o)) HB9.out)); clear hr1 hr2 hb) | (go_at_call 66; refine (HAc.out _).mono ?_; rintro e w5 ⟨he, hi, hb⟩; rw [← HRes.out] at he hi; subst he; have HI5 := Aside0.mk hi; have HB5 := Aside0.mk ((below_alloc HB3.out _).trans (hb.mono HB1.out.size)); clear hi hb))
      go_ret3
      exact doEnd_err HD2.out HZ.out HB5.out
theorem doPlayer_calls {S : Nat → Prop} {W : World} {g : Nat} {st : St} (h : StAt S W g st) (hg : Good st) (hT : Tabs W) (text : ByteArray) (hs : text.size < 4294967281) (hword : headW text = wPlayer) : Calls Tryz.prog 40 #[ptr g, .string text] W (DoEnd st g text W) := by
  have HD := Aside0.mk (doS_Player (st := st) hword)
  have HWd := Aside0.mk hword
  have HT := Aside0.mk hT
  have HH := Aside0.mk h
  have HC := Aside0.mk (cut_calls text W hT hs)
  rw [hword] at HC
  have HR := Aside0.mk (fun (w : World) (hT : Tabs w) => read_form ⟨#[110, 100]⟩ text w hT hs rfl (by decide) (by decide))
  have HL := Aside0.mk (show st.chairs.length < 1000 by have := hg.c8; omega)
  obtain ⟨rv, hrv⟩ : ∃ rv, rv = readV [110, 100] false text := ⟨_, rfl⟩
  replace HR : Aside0 (∀ w, Tabs w → Calls Tryz.prog 72 #[.string ⟨#[110, 100]⟩, .string text] w (ReadEnd rv w)) := ⟨fun w hT => by rw [hrv]; exact HR.out w hT⟩
  rw [← hrv] at HD
  have HRv := Aside0.mk hrv
  clear h hg hT hword hrv
  cases rv with
  | none =>
    go_enter Tryz.func40, Tryz.ntmps40
    go_wp2_with (first | (go_at_call 37; refine HC.out.mono ?_; rintro e w1 ⟨⟨s1, s2, rfl⟩, hb⟩; have HB1 := Aside0.mk hb; have HCl := Aside0.mk (cloneS_calls (HH.out.below hb)); clear hb) | (go_at_call 65; refine HCl.out.mono ?_; rintro e w2 ⟨⟨g', rfl, hi⟩, hb⟩; have HI2 := Aside0.mk hi; have HB2 := Aside0.mk (HB1.out.trans (hb.mono HB1.out.size)); clear hi hb) | (go_at_call 72; refine (HR.out _ (HT.out.below HB2.out HT.out.low)).mono ?_; rintro e w3 ⟨rfl, hb⟩; have HB3 := Aside0.mk (HB2.out.trans (hb.mono HB2.out.size)); clear hb))
    go_ret3
    exact doEnd_no HD.out (by decide) (by first | exact HB3.out | exact below_alloc HB3.out _)
  | some r =>
    obtain ⟨f1, f2, f4, f5, _⟩ := readV_few HRv.out.symm
    obtain ⟨n, hn⟩ := one_of (l := r.1) f1
    obtain ⟨c, hc⟩ := one_of (l := r.2) f2
    have HN := Aside0.mk (show n.size ≤ 100 by have := name_size (f4 n (by rw [hn]; simp)); omega)
    have hrr : r = ([n], [c]) := by rw [← hn, ← hc]
    obtain ⟨r1, r2⟩ := r
    simp only [] at hn hc
    subst hn hc
    have HD2 := Aside0.mk (show doS st text = playerS st n.data.toList c from HD.out)
    obtain ⟨res, hres⟩ : ∃ res, res = playerS st n.data.toList c := ⟨_, rfl⟩
    rw [← hres] at HD2
    have HRes := Aside0.mk hres
    clear f1 f2 f4 f5 hrr hres HD
    obtain ⟨z, st2⟩ := res
    by_cases hz : z = 0
    · have HZ := Aside0.mk hz
      subst hz
      go_enter Tryz.func40, Tryz.ntmps40
      go_wp2_with (first | (go_at_call 37; refine HC.out.mono ?_; rintro e w1 ⟨⟨s1, s2, rfl⟩, hb⟩; have HB1 := Aside0.mk hb; have HCl := Aside0.mk (cloneS_calls (HH.out.below hb)); clear hb) | (go_at_call 65; refine HCl.out.mono ?_; rintro e w2 ⟨⟨g', rfl, hi⟩, hb⟩; have HI2 := Aside0.mk hi; have HB2 := Aside0.mk (HB1.out.trans (hb.mono HB1.out.size)); clear hi hb) | (go_at_call 72; refine (HR.out _ (HT.out.below HB2.out HT.out.low)).mono ?_; rintro e w3 ⟨⟨v1, v2, rfl, hr1, hr2⟩, hb⟩; obtain ⟨A1, c1, rfl⟩ := Kd.R_slice hr1; obtain ⟨A2, c2, rfl⟩ := Kd.R_slice hr2; have HB3 := Aside0.mk (HB2.out.trans (hb.mono HB2.out.size)); have HI3 := Aside0.mk (HI2.out.below hb); have HB9 := Aside0.mk (Nat.le_trans HT.out.low HB2.out.size); go_loud (have HAc := Aside0.mk (fun (o : Obj) => playerS_calls (HI3.out.below (below_alloc (Below.refl _ _) o)) HL.out n c HN.out (Kd.R_below hr1 (below_alloc (Below.refl _ _) o)) (Kd.R_below hr2 (below_alloc (Below.refl _ _) o)))); clear hr1 hr2 hb) | (go_at_call 67; refine (HAc.out _).mono ?_; rintro e w5 ⟨he, hi, hb⟩; rw [← HRes.out] at he hi; subst he; have HI5 := Aside0.mk hi; have HB5 := Aside0.mk ((below_alloc HB3.out _).trans (hb.mono HB1.out.size)); clear hi hb))
      go_ret3
      exact doEnd_ok HD2.out rfl HWd.out (HI5.out.mono (fun k hk => Nat.le_trans HB1.out.size hk)) HB5.out
    · have HZ := Aside0.mk hz
      have d1 : (z != 0) = true := bne_iff_ne.2 hz
      clear hz
      go_enter Tryz.func40, Tryz.ntmps40
      go_wp2_with (first | (go_at_call 37; refine HC.out.mono ?_; rintro e w1 ⟨⟨s1, s2, rfl⟩, hb⟩; have HB1 := Aside0.mk hb; have HCl := Aside0.mk (cloneS_calls (HH.out.below hb)); clear hb) | (go_at_call 65; refine HCl.out.mono ?_; rintro e w2 ⟨⟨g', rfl, hi⟩, hb⟩; have HI2 := Aside0.mk hi; have HB2 := Aside0.mk (HB1.out.trans (hb.mono HB1.out.size)); clear hi hb) | (go_at_call 72; refine (HR.out _ (HT.out.below HB2.out HT.out.low)).mono ?_; rintro e w3 ⟨⟨v1, v2, rfl, hr1, hr2⟩, hb⟩; obtain ⟨A1, c1, rfl⟩ := Kd.R_slice hr1; obtain ⟨A2, c2, rfl⟩ := Kd.R_slice hr2; have HB3 := Aside0.mk (HB2.out.trans (hb.mono HB2.out.size)); have HI3 := Aside0.mk (HI2.out.below hb); have HB9 := Aside0.mk (Nat.le_trans HT.out.low HB2.out.size); go_loud (have HAc := Aside0.mk (fun (o : Obj) => playerS_calls (HI3.out.below (below_alloc (Below.refl _ _) o)) HL.out n c HN.out (Kd.R_below hr1 (below_alloc (Below.refl _ _) o)) (Kd.R_below hr2 (below_alloc (Below.refl _ _) o)))); clear hr1 hr2 hb) | (go_at_call 67; refine (HAc.out _).mono ?_; rintro e w5 ⟨he, hi, hb⟩; rw [← HRes.out] at he hi; subst he; have HI5 := Aside0.mk hi; have HB5 := Aside0.mk ((below_alloc HB3.out _).trans (hb.mono HB1.out.size)); clear hi hb))
      go_ret3
      exact doEnd_err HD2.out HZ.out HB5.out
theorem doLend_calls {S : Nat → Prop} {W : World} {g : Nat} {st : St} (h : StAt S W g st) (hg : Good st) (hT : Tabs W) (text : ByteArray) (hs : text.size < 4294967281) (hword : headW text = wLend) : Calls Tryz.prog 40 #[ptr g, .string text] W (DoEnd st g text W) := by
  have HD := Aside0.mk (doS_Lend (st := st) hword)
  have HWd := Aside0.mk hword
  have HT := Aside0.mk hT
  have HH := Aside0.mk h
  have HC := Aside0.mk (cut_calls text W hT hs)
  rw [hword] at HC
  have HR := Aside0.mk (fun (w : World) (hT : Tabs w) => read_form ⟨#[110, 110]⟩ text w hT hs rfl (by decide) (by decide))
  have HL := Aside0.mk (show st.loans.length < 1000 by have := hg.l8; omega)
  obtain ⟨rv, hrv⟩ : ∃ rv, rv = readV [110, 110] false text := ⟨_, rfl⟩
  replace HR : Aside0 (∀ w, Tabs w → Calls Tryz.prog 72 #[.string ⟨#[110, 110]⟩, .string text] w (ReadEnd rv w)) := ⟨fun w hT => by rw [hrv]; exact HR.out w hT⟩
  rw [← hrv] at HD
  have HRv := Aside0.mk hrv
  clear h hg hT hword hrv
  cases rv with
  | none =>
    go_enter Tryz.func40, Tryz.ntmps40
    go_wp2_with (first | (go_at_call 37; refine HC.out.mono ?_; rintro e w1 ⟨⟨s1, s2, rfl⟩, hb⟩; have HB1 := Aside0.mk hb; have HCl := Aside0.mk (cloneS_calls (HH.out.below hb)); clear hb) | (go_at_call 65; refine HCl.out.mono ?_; rintro e w2 ⟨⟨g', rfl, hi⟩, hb⟩; have HI2 := Aside0.mk hi; have HB2 := Aside0.mk (HB1.out.trans (hb.mono HB1.out.size)); clear hi hb) | (go_at_call 72; refine (HR.out _ (HT.out.below HB2.out HT.out.low)).mono ?_; rintro e w3 ⟨rfl, hb⟩; have HB3 := Aside0.mk (HB2.out.trans (hb.mono HB2.out.size)); clear hb))
    go_ret3
    exact doEnd_no HD.out (by decide) (by first | exact HB3.out | exact below_alloc HB3.out _)
  | some r =>
    obtain ⟨f1, f2, f4, f5, _⟩ := readV_few HRv.out.symm
    obtain ⟨n, m, hn⟩ := two_of (l := r.1) f1
    have HN := Aside0.mk (And.intro (show n.size ≤ 100 by have := name_size (f4 n (by rw [hn]; simp)); omega) (show m.size ≤ 100 by have := name_size (f4 m (by rw [hn]; simp)); omega))
    have hrr : r = ([n, m], r.2) := by rw [← hn]
    obtain ⟨r1, r2⟩ := r
    simp only [] at hn
    subst hn
    have HD2 := Aside0.mk (show doS st text = lendS st n.data.toList m from HD.out)
    obtain ⟨res, hres⟩ : ∃ res, res = lendS st n.data.toList m := ⟨_, rfl⟩
    rw [← hres] at HD2
    have HRes := Aside0.mk hres
    clear f1 f2 f4 f5 hrr hres HD
    obtain ⟨z, st2⟩ := res
    by_cases hz : z = 0
    · have HZ := Aside0.mk hz
      subst hz
      go_enter Tryz.func40, Tryz.ntmps40
      go_wp2_with (first | (go_at_call 37; refine HC.out.mono ?_; rintro e w1 ⟨⟨s1, s2, rfl⟩, hb⟩; have HB1 := Aside0.mk hb; have HCl := Aside0.mk (cloneS_calls (HH.out.below hb)); clear hb) | (go_at_call 65; refine HCl.out.mono ?_; rintro e w2 ⟨⟨g', rfl, hi⟩, hb⟩; have HI2 := Aside0.mk hi; have HB2 := Aside0.mk (HB1.out.trans (hb.mono HB1.out.size)); clear hi hb) | (go_at_call 72; refine (HR.out _ (HT.out.below HB2.out HT.out.low)).mono ?_; rintro e w3 ⟨⟨v1, v2, rfl, hr1, hr2⟩, hb⟩; obtain ⟨A1, c1, rfl⟩ := Kd.R_slice hr1; obtain ⟨A2, c2, rfl⟩ := Kd.R_slice hr2; have HB3 := Aside0.mk (HB2.out.trans (hb.mono HB2.out.size)); have HI3 := Aside0.mk (HI2.out.below hb); have HB9 := Aside0.mk (Nat.le_trans HT.out.low HB2.out.size); go_loud (have HAc := Aside0.mk (fun (o : Obj) => lend_calls (v2 := .slice A2 r2.length c2) (HI3.out.below (below_alloc (Below.refl _ _) o)) HL.out n m HN.out.1 HN.out.2 (Kd.R_below hr1 (below_alloc (Below.refl _ _) o)))); clear hr1 hr2 hb) | (go_at_call 68; refine (HAc.out _).mono ?_; rintro e w5 ⟨he, hi, hb⟩; rw [← HRes.out] at he hi; subst he; have HI5 := Aside0.mk hi; have HB5 := Aside0.mk ((below_alloc HB3.out _).trans (hb.mono HB1.out.size)); clear hi hb))
      go_ret3
      exact doEnd_ok HD2.out rfl HWd.out (HI5.out.mono (fun k hk => Nat.le_trans HB1.out.size hk)) HB5.out
    · have HZ := Aside0.mk hz
      have d1 : (z != 0) = true := bne_iff_ne.2 hz
      clear hz
      go_enter Tryz.func40, Tryz.ntmps40
      go_wp2_with (first | (go_at_call 37; refine HC.out.mono ?_; rintro e w1 ⟨⟨s1, s2, rfl⟩, hb⟩; have HB1 := Aside0.mk hb; have HCl := Aside0.mk (cloneS_calls (HH.out.below hb)); clear hb) | (go_at_call 65; refine HCl.out.mono ?_; rintro e w2 ⟨⟨g', rfl, hi⟩, hb⟩; have HI2 := Aside0.mk hi; have HB2 := Aside0.mk (HB1.out.trans (hb.mono HB1.out.size)); clear hi hb) | (go_at_call 72; refine (HR.out _ (HT.out.below HB2.out HT.out.low)).mono ?_; rintro e w3 ⟨⟨v1, v2, rfl, hr1, hr2⟩, hb⟩; obtain ⟨A1, c1, rfl⟩ := Kd.R_slice hr1; obtain ⟨A2, c2, rfl⟩ := Kd.R_slice hr2; have HB3 := Aside0.mk (HB2.out.trans (hb.mono HB2.out.size)); have HI3 := Aside0.mk (HI2.out.below hb); have HB9 := Aside0.mk (Nat.le_trans HT.out.low HB2.out.size); go_loud (have HAc := Aside0.mk (fun (o : Obj) => lend_calls (v2 := .slice A2 r2.length c2) (HI3.out.below (below_alloc (Below.refl _ _) o)) HL.out n m HN.out.1 HN.out.2 (Kd.R_below hr1 (below_alloc (Below.refl _ _) o)))); clear hr1 hr2 hb) | (go_at_call 68; refine (HAc.out _).mono ?_; rintro e w5 ⟨he, hi, hb⟩; rw [← HRes.out] at he hi; subst he; have HI5 := Aside0.mk hi; have HB5 := Aside0.mk ((below_alloc HB3.out _).trans (hb.mono HB1.out.size)); clear hi hb))
      go_ret3
      exact doEnd_err HD2.out HZ.out HB5.out
theorem doBack_calls {S : Nat → Prop} {W : World} {g : Nat} {st : St} (h : StAt S W g st) (hg : Good st) (hT : Tabs W) (text : ByteArray) (hs : text.size < 4294967281) (hword : headW text = wBack) : Calls Tryz.prog 40 #[ptr g, .string text] W (DoEnd st g text W) := by
  have HD := Aside0.mk (doS_Back (st := st) hword)
  have HWd := Aside0.mk hword
  have HT := Aside0.mk hT
  have HH := Aside0.mk h
  have HC := Aside0.mk (cut_calls text W hT hs)
  rw [hword] at HC
  have HR := Aside0.mk (fun (w : World) (hT : Tabs w) => read_form ⟨#[110]⟩ text w hT hs rfl (by decide) (by decide))
  obtain ⟨rv, hrv⟩ : ∃ rv, rv = readV [110] false text := ⟨_, rfl⟩
  replace HR : Aside0 (∀ w, Tabs w → Calls Tryz.prog 72 #[.string ⟨#[110]⟩, .string text] w (ReadEnd rv w)) := ⟨fun w hT => by rw [hrv]; exact HR.out w hT⟩
  rw [← hrv] at HD
  have HRv := Aside0.mk hrv
  clear h hg hT hword hrv
  cases rv with
  | none =>
    go_enter Tryz.func40, Tryz.ntmps40
    go_wp2_with (first | (go_at_call 37; refine HC.out.mono ?_; rintro e w1 ⟨⟨s1, s2, rfl⟩, hb⟩; have HB1 := Aside0.mk hb; have HCl := Aside0.mk (cloneS_calls (HH.out.below hb)); clear hb) | (go_at_call 65; refine HCl.out.mono ?_; rintro e w2 ⟨⟨g', rfl, hi⟩, hb⟩; have HI2 := Aside0.mk hi; have HB2 := Aside0.mk (HB1.out.trans (hb.mono HB1.out.size)); clear hi hb) | (go_at_call 72; refine (HR.out _ (HT.out.below HB2.out HT.out.low)).mono ?_; rintro e w3 ⟨rfl, hb⟩; have HB3 := Aside0.mk (HB2.out.trans (hb.mono HB2.out.size)); clear hb))
    go_ret3
    exact doEnd_no HD.out (by decide) (by first | exact HB3.out | exact below_alloc HB3.out _)
  | some r =>
    obtain ⟨f1, f2, f4, f5, _⟩ := readV_few HRv.out.symm
    obtain ⟨n, hn⟩ := one_of (l := r.1) f1
    have HN := Aside0.mk (show n.size ≤ 100 by have := name_size (f4 n (by rw [hn]; simp)); omega)
    have hrr : r = ([n], r.2) := by rw [← hn]
    obtain ⟨r1, r2⟩ := r
    simp only [] at hn
    subst hn
    have HD2 := Aside0.mk (show doS st text = backS st n.data.toList from HD.out)
    obtain ⟨res, hres⟩ : ∃ res, res = backS st n.data.toList := ⟨_, rfl⟩
    rw [← hres] at HD2
    have HRes := Aside0.mk hres
    clear f1 f2 f4 f5 hrr hres HD
    obtain ⟨z, st2⟩ := res
    by_cases hz : z = 0
    · have HZ := Aside0.mk hz
      subst hz
      go_enter Tryz.func40, Tryz.ntmps40
      go_wp2_with (first | (go_at_call 37; refine HC.out.mono ?_; rintro e w1 ⟨⟨s1, s2, rfl⟩, hb⟩; have HB1 := Aside0.mk hb; have HCl := Aside0.mk (cloneS_calls (HH.out.below hb)); clear hb) | (go_at_call 65; refine HCl.out.mono ?_; rintro e w2 ⟨⟨g', rfl, hi⟩, hb⟩; have HI2 := Aside0.mk hi; have HB2 := Aside0.mk (HB1.out.trans (hb.mono HB1.out.size)); clear hi hb) | (go_at_call 72; refine (HR.out _ (HT.out.below HB2.out HT.out.low)).mono ?_; rintro e w3 ⟨⟨v1, v2, rfl, hr1, hr2⟩, hb⟩; obtain ⟨A1, c1, rfl⟩ := Kd.R_slice hr1; obtain ⟨A2, c2, rfl⟩ := Kd.R_slice hr2; have HB3 := Aside0.mk (HB2.out.trans (hb.mono HB2.out.size)); have HI3 := Aside0.mk (HI2.out.below hb); have HB9 := Aside0.mk (Nat.le_trans HT.out.low HB2.out.size); go_loud (have HAc := Aside0.mk (fun (o : Obj) => back_calls (v2 := .slice A2 r2.length c2) (HI3.out.below (below_alloc (Below.refl _ _) o)) n HN.out (Kd.R_below hr1 (below_alloc (Below.refl _ _) o)))); clear hr1 hr2 hb) | (go_at_call 69; refine (HAc.out _).mono ?_; rintro e w5 ⟨he, hi, hb⟩; rw [← HRes.out] at he hi; subst he; have HI5 := Aside0.mk hi; have HB5 := Aside0.mk ((below_alloc HB3.out _).trans (hb.mono HB1.out.size)); clear hi hb))
      go_ret3
      exact doEnd_ok HD2.out rfl HWd.out (HI5.out.mono (fun k hk => Nat.le_trans HB1.out.size hk)) HB5.out
    · have HZ := Aside0.mk hz
      have d1 : (z != 0) = true := bne_iff_ne.2 hz
      clear hz
      go_enter Tryz.func40, Tryz.ntmps40
      go_wp2_with (first | (go_at_call 37; refine HC.out.mono ?_; rintro e w1 ⟨⟨s1, s2, rfl⟩, hb⟩; have HB1 := Aside0.mk hb; have HCl := Aside0.mk (cloneS_calls (HH.out.below hb)); clear hb) | (go_at_call 65; refine HCl.out.mono ?_; rintro e w2 ⟨⟨g', rfl, hi⟩, hb⟩; have HI2 := Aside0.mk hi; have HB2 := Aside0.mk (HB1.out.trans (hb.mono HB1.out.size)); clear hi hb) | (go_at_call 72; refine (HR.out _ (HT.out.below HB2.out HT.out.low)).mono ?_; rintro e w3 ⟨⟨v1, v2, rfl, hr1, hr2⟩, hb⟩; obtain ⟨A1, c1, rfl⟩ := Kd.R_slice hr1; obtain ⟨A2, c2, rfl⟩ := Kd.R_slice hr2; have HB3 := Aside0.mk (HB2.out.trans (hb.mono HB2.out.size)); have HI3 := Aside0.mk (HI2.out.below hb); have HB9 := Aside0.mk (Nat.le_trans HT.out.low HB2.out.size); go_loud (have HAc := Aside0.mk (fun (o : Obj) => back_calls (v2 := .slice A2 r2.length c2) (HI3.out.below (below_alloc (Below.refl _ _) o)) n HN.out (Kd.R_below hr1 (below_alloc (Below.refl _ _) o)))); clear hr1 hr2 hb) | (go_at_call 69; refine (HAc.out _).mono ?_; rintro e w5 ⟨he, hi, hb⟩; rw [← HRes.out] at he hi; subst he; have HI5 := Aside0.mk hi; have HB5 := Aside0.mk ((below_alloc HB3.out _).trans (hb.mono HB1.out.size)); clear hi hb))
      go_ret3
      exact doEnd_err HD2.out HZ.out HB5.out
theorem doMove_calls {S : Nat → Prop} {W : World} {g : Nat} {st : St} (h : StAt S W g st) (hg : Good st) (hT : Tabs W) (text : ByteArray) (hs : text.size < 4294967281) (hword : headW text = wMove) : Calls Tryz.prog 40 #[ptr g, .string text] W (DoEnd st g text W) := by
  have HD := Aside0.mk (doS_Move (st := st) hword)
  have HWd := Aside0.mk hword
  have HT := Aside0.mk hT
  have HH := Aside0.mk h
  have HC := Aside0.mk (cut_calls text W hT hs)
  rw [hword] at HC
  have HR := Aside0.mk (fun (w : World) (hT : Tabs w) => read_form ⟨#[110, 100]⟩ text w hT hs rfl (by decide) (by decide))
  have HL := Aside0.mk (And.intro (show st.chairs.length < 900 by have := hg.c8; omega) (And.intro hg.apart (show ∀ k ∈ keysOf st.chairs, k.length ≤ 100 from fun k hk => by have := isNameB_len (hg.k2 k hk); omega)))
  obtain ⟨rv, hrv⟩ : ∃ rv, rv = readV [110, 100] false text := ⟨_, rfl⟩
  replace HR : Aside0 (∀ w, Tabs w → Calls Tryz.prog 72 #[.string ⟨#[110, 100]⟩, .string text] w (ReadEnd rv w)) := ⟨fun w hT => by rw [hrv]; exact HR.out w hT⟩
  rw [← hrv] at HD
  have HRv := Aside0.mk hrv
  clear h hg hT hword hrv
  cases rv with
  | none =>
    go_enter Tryz.func40, Tryz.ntmps40
    go_wp2_with (first | (go_at_call 37; refine HC.out.mono ?_; rintro e w1 ⟨⟨s1, s2, rfl⟩, hb⟩; have HB1 := Aside0.mk hb; have HCl := Aside0.mk (cloneS_calls (HH.out.below hb)); clear hb) | (go_at_call 65; refine HCl.out.mono ?_; rintro e w2 ⟨⟨g', rfl, hi⟩, hb⟩; have HI2 := Aside0.mk hi; have HB2 := Aside0.mk (HB1.out.trans (hb.mono HB1.out.size)); clear hi hb) | (go_at_call 72; refine (HR.out _ (HT.out.below HB2.out HT.out.low)).mono ?_; rintro e w3 ⟨rfl, hb⟩; have HB3 := Aside0.mk (HB2.out.trans (hb.mono HB2.out.size)); clear hb))
    go_ret3
    exact doEnd_no HD.out (by decide) (by first | exact HB3.out | exact below_alloc HB3.out _)
  | some r =>
    obtain ⟨f1, f2, f4, f5, _⟩ := readV_few HRv.out.symm
    obtain ⟨n, hn⟩ := one_of (l := r.1) f1
    obtain ⟨c, hc⟩ := one_of (l := r.2) f2
    have HN := Aside0.mk (show n.size ≤ 100 by have := name_size (f4 n (by rw [hn]; simp)); omega)
    have hrr : r = ([n], [c]) := by rw [← hn, ← hc]
    obtain ⟨r1, r2⟩ := r
    simp only [] at hn hc
    subst hn hc
    have HD2 := Aside0.mk (show doS st text = moveS st n.data.toList c from HD.out)
    obtain ⟨res, hres⟩ : ∃ res, res = moveS st n.data.toList c := ⟨_, rfl⟩
    rw [← hres] at HD2
    have HRes := Aside0.mk hres
    clear f1 f2 f4 f5 hrr hres HD
    obtain ⟨z, st2⟩ := res
    by_cases hz : z = 0
    · have HZ := Aside0.mk hz
      subst hz
      go_enter Tryz.func40, Tryz.ntmps40
      go_wp2_with (first | (go_at_call 37; refine HC.out.mono ?_; rintro e w1 ⟨⟨s1, s2, rfl⟩, hb⟩; have HB1 := Aside0.mk hb; have HCl := Aside0.mk (cloneS_calls (HH.out.below hb)); clear hb) | (go_at_call 65; refine HCl.out.mono ?_; rintro e w2 ⟨⟨g', rfl, hi⟩, hb⟩; have HI2 := Aside0.mk hi; have HB2 := Aside0.mk (HB1.out.trans (hb.mono HB1.out.size)); clear hi hb) | (go_at_call 72; refine (HR.out _ (HT.out.below HB2.out HT.out.low)).mono ?_; rintro e w3 ⟨⟨v1, v2, rfl, hr1, hr2⟩, hb⟩; obtain ⟨A1, c1, rfl⟩ := Kd.R_slice hr1; obtain ⟨A2, c2, rfl⟩ := Kd.R_slice hr2; have HB3 := Aside0.mk (HB2.out.trans (hb.mono HB2.out.size)); have HI3 := Aside0.mk (HI2.out.below hb); have HB9 := Aside0.mk (Nat.le_trans HT.out.low HB2.out.size); go_loud (have HAc := Aside0.mk (fun (o : Obj) => move_calls (HI3.out.below (below_alloc (Below.refl _ _) o)) HL.out.1 HL.out.2.1 HL.out.2.2 n c HN.out (Kd.R_below hr1 (below_alloc (Below.refl _ _) o)) (Kd.R_below hr2 (below_alloc (Below.refl _ _) o)))); clear hr1 hr2 hb) | (go_at_call 70; refine (HAc.out _).mono ?_; rintro e w5 ⟨he, hi, hb⟩; rw [← HRes.out] at he hi; subst he; have HI5 := Aside0.mk hi; have HB5 := Aside0.mk ((below_alloc HB3.out _).trans (hb.mono HB1.out.size)); clear hi hb))
      go_ret3
      exact doEnd_ok HD2.out rfl HWd.out (HI5.out.mono (fun k hk => Nat.le_trans HB1.out.size hk)) HB5.out
    · have HZ := Aside0.mk hz
      have d1 : (z != 0) = true := bne_iff_ne.2 hz
      clear hz
      go_enter Tryz.func40, Tryz.ntmps40
      go_wp2_with (first | (go_at_call 37; refine HC.out.mono ?_; rintro e w1 ⟨⟨s1, s2, rfl⟩, hb⟩; have HB1 := Aside0.mk hb; have HCl := Aside0.mk (cloneS_calls (HH.out.below hb)); clear hb) | (go_at_call 65; refine HCl.out.mono ?_; rintro e w2 ⟨⟨g', rfl, hi⟩, hb⟩; have HI2 := Aside0.mk hi; have HB2 := Aside0.mk (HB1.out.trans (hb.mono HB1.out.size)); clear hi hb) | (go_at_call 72; refine (HR.out _ (HT.out.below HB2.out HT.out.low)).mono ?_; rintro e w3 ⟨⟨v1, v2, rfl, hr1, hr2⟩, hb⟩; obtain ⟨A1, c1, rfl⟩ := Kd.R_slice hr1; obtain ⟨A2, c2, rfl⟩ := Kd.R_slice hr2; have HB3 := Aside0.mk (HB2.out.trans (hb.mono HB2.out.size)); have HI3 := Aside0.mk (HI2.out.below hb); have HB9 := Aside0.mk (Nat.le_trans HT.out.low HB2.out.size); go_loud (have HAc := Aside0.mk (fun (o : Obj) => move_calls (HI3.out.below (below_alloc (Below.refl _ _) o)) HL.out.1 HL.out.2.1 HL.out.2.2 n c HN.out (Kd.R_below hr1 (below_alloc (Below.refl _ _) o)) (Kd.R_below hr2 (below_alloc (Below.refl _ _) o)))); clear hr1 hr2 hb) | (go_at_call 70; refine (HAc.out _).mono ?_; rintro e w5 ⟨he, hi, hb⟩; rw [← HRes.out] at he hi; subst he; have HI5 := Aside0.mk hi; have HB5 := Aside0.mk ((below_alloc HB3.out _).trans (hb.mono HB1.out.size)); clear hi hb))
      go_ret3
      exact doEnd_err HD2.out HZ.out HB5.out
theorem doBurn_calls {S : Nat → Prop} {W : World} {g : Nat} {st : St} (h : StAt S W g st) (hg : Good st) (hT : Tabs W) (text : ByteArray) (hs : text.size < 4294967281) (hword : headW text = wBurn) : Calls Tryz.prog 40 #[ptr g, .string text] W (DoEnd st g text W) := by
  have HD := Aside0.mk (doS_Burn (st := st) hword)
  have HWd := Aside0.mk hword
  have HT := Aside0.mk hT
  have HH := Aside0.mk h
  have HC := Aside0.mk (cut_calls text W hT hs)
  rw [hword] at HC
  have HR := Aside0.mk (fun (w : World) (hT : Tabs w) => read_form ⟨#[110]⟩ text w hT hs rfl (by decide) (by decide))
  obtain ⟨rv, hrv⟩ : ∃ rv, rv = readV [110] false text := ⟨_, rfl⟩
  replace HR : Aside0 (∀ w, Tabs w → Calls Tryz.prog 72 #[.string ⟨#[110]⟩, .string text] w (ReadEnd rv w)) := ⟨fun w hT => by rw [hrv]; exact HR.out w hT⟩
  rw [← hrv] at HD
  have HRv := Aside0.mk hrv
  clear h hg hT hword hrv
  cases rv with
  | none =>
    go_enter Tryz.func40, Tryz.ntmps40
    go_wp2_with (first | (go_at_call 37; refine HC.out.mono ?_; rintro e w1 ⟨⟨s1, s2, rfl⟩, hb⟩; have HB1 := Aside0.mk hb; have HCl := Aside0.mk (cloneS_calls (HH.out.below hb)); clear hb) | (go_at_call 65; refine HCl.out.mono ?_; rintro e w2 ⟨⟨g', rfl, hi⟩, hb⟩; have HI2 := Aside0.mk hi; have HB2 := Aside0.mk (HB1.out.trans (hb.mono HB1.out.size)); clear hi hb) | (go_at_call 72; refine (HR.out _ (HT.out.below HB2.out HT.out.low)).mono ?_; rintro e w3 ⟨rfl, hb⟩; have HB3 := Aside0.mk (HB2.out.trans (hb.mono HB2.out.size)); clear hb))
    go_ret3
    exact doEnd_no HD.out (by decide) (by first | exact HB3.out | exact below_alloc HB3.out _)
  | some r =>
    obtain ⟨f1, f2, f4, f5, _⟩ := readV_few HRv.out.symm
    obtain ⟨n, hn⟩ := one_of (l := r.1) f1
    have HN := Aside0.mk (show n.size ≤ 100 by have := name_size (f4 n (by rw [hn]; simp)); omega)
    have hrr : r = ([n], r.2) := by rw [← hn]
    obtain ⟨r1, r2⟩ := r
    simp only [] at hn
    subst hn
    have HD2 := Aside0.mk (show doS st text = burnS st n.data.toList from HD.out)
    obtain ⟨res, hres⟩ : ∃ res, res = burnS st n.data.toList := ⟨_, rfl⟩
    rw [← hres] at HD2
    have HRes := Aside0.mk hres
    clear f1 f2 f4 f5 hrr hres HD
    obtain ⟨z, st2⟩ := res
    by_cases hz : z = 0
    · have HZ := Aside0.mk hz
      subst hz
      go_enter Tryz.func40, Tryz.ntmps40
      go_wp2_with (first | (go_at_call 37; refine HC.out.mono ?_; rintro e w1 ⟨⟨s1, s2, rfl⟩, hb⟩; have HB1 := Aside0.mk hb; have HCl := Aside0.mk (cloneS_calls (HH.out.below hb)); clear hb) | (go_at_call 65; refine HCl.out.mono ?_; rintro e w2 ⟨⟨g', rfl, hi⟩, hb⟩; have HI2 := Aside0.mk hi; have HB2 := Aside0.mk (HB1.out.trans (hb.mono HB1.out.size)); clear hi hb) | (go_at_call 72; refine (HR.out _ (HT.out.below HB2.out HT.out.low)).mono ?_; rintro e w3 ⟨⟨v1, v2, rfl, hr1, hr2⟩, hb⟩; obtain ⟨A1, c1, rfl⟩ := Kd.R_slice hr1; obtain ⟨A2, c2, rfl⟩ := Kd.R_slice hr2; have HB3 := Aside0.mk (HB2.out.trans (hb.mono HB2.out.size)); have HI3 := Aside0.mk (HI2.out.below hb); have HB9 := Aside0.mk (Nat.le_trans HT.out.low HB2.out.size); go_loud (have HAc := Aside0.mk (fun (o : Obj) => burn_calls (v2 := .slice A2 r2.length c2) (HI3.out.below (below_alloc (Below.refl _ _) o)) n HN.out (Kd.R_below hr1 (below_alloc (Below.refl _ _) o)))); clear hr1 hr2 hb) | (go_at_call 71; refine (HAc.out _).mono ?_; rintro e w5 ⟨he, hi, hb⟩; rw [← HRes.out] at he hi; subst he; have HI5 := Aside0.mk hi; have HB5 := Aside0.mk ((below_alloc HB3.out _).trans (hb.mono HB1.out.size)); clear hi hb))
      go_ret3
      exact doEnd_ok HD2.out rfl HWd.out (HI5.out.mono (fun k hk => Nat.le_trans HB1.out.size hk)) HB5.out
    · have HZ := Aside0.mk hz
      have d1 : (z != 0) = true := bne_iff_ne.2 hz
      clear hz
      go_enter Tryz.func40, Tryz.ntmps40
      go_wp2_with (first | (go_at_call 37; refine HC.out.mono ?_; rintro e w1 ⟨⟨s1, s2, rfl⟩, hb⟩; have HB1 := Aside0.mk hb; have HCl := Aside0.mk (cloneS_calls (HH.out.below hb)); clear hb) | (go_at_call 65; refine HCl.out.mono ?_; rintro e w2 ⟨⟨g', rfl, hi⟩, hb⟩; have HI2 := Aside0.mk hi; have HB2 := Aside0.mk (HB1.out.trans (hb.mono HB1.out.size)); clear hi hb) | (go_at_call 72; refine (HR.out _ (HT.out.below HB2.out HT.out.low)).mono ?_; rintro e w3 ⟨⟨v1, v2, rfl, hr1, hr2⟩, hb⟩; obtain ⟨A1, c1, rfl⟩ := Kd.R_slice hr1; obtain ⟨A2, c2, rfl⟩ := Kd.R_slice hr2; have HB3 := Aside0.mk (HB2.out.trans (hb.mono HB2.out.size)); have HI3 := Aside0.mk (HI2.out.below hb); have HB9 := Aside0.mk (Nat.le_trans HT.out.low HB2.out.size); go_loud (have HAc := Aside0.mk (fun (o : Obj) => burn_calls (v2 := .slice A2 r2.length c2) (HI3.out.below (below_alloc (Below.refl _ _) o)) n HN.out (Kd.R_below hr1 (below_alloc (Below.refl _ _) o)))); clear hr1 hr2 hb) | (go_at_call 71; refine (HAc.out _).mono ?_; rintro e w5 ⟨he, hi, hb⟩; rw [← HRes.out] at he hi; subst he; have HI5 := Aside0.mk hi; have HB5 := Aside0.mk ((below_alloc HB3.out _).trans (hb.mono HB1.out.size)); clear hi hb))
      go_ret3
      exact doEnd_err HD2.out HZ.out HB5.out
theorem doOther_calls {S : Nat → Prop} {W : World} {g : Nat} {st : St} (h : StAt S W g st) (hg : Good st) (hT : Tabs W) (text : ByteArray) (hs : text.size < 4294967281) (h1 : headW text ≠ wPiece) (h2 : headW text ≠ wPlayer) (h3 : headW text ≠ wLend) (h4 : headW text ≠ wBack) (h5 : headW text ≠ wMove) (h6 : headW text ≠ wBurn) : Calls Tryz.prog 40 #[ptr g, .string text] W (DoEnd st g text W) := by
  have HD := Aside0.mk (show doS st text = (3, st) by unfold doS; rw [if_neg h1, if_neg h2, if_neg h3, if_neg h4, if_neg h5, if_neg h6])
  have HH := Aside0.mk h
  have HC := Aside0.mk (cut_calls text W hT hs)
  obtain ⟨hw, hhw⟩ : ∃ hw, hw = headW text := ⟨_, rfl⟩
  rw [← hhw] at HC h1 h2 h3 h4 h5 h6
  have e1 : (hw.toList == wPiece.data.toList) = false := beq_eq_false_iff_ne.2 (fun e => h1 (ByteArray.ext (Array.toList_inj.1 (by rw [← e, ByteArray.toList_eq]))))
  have e2 : (hw.toList == wPlayer.data.toList) = false := beq_eq_false_iff_ne.2 (fun e => h2 (ByteArray.ext (Array.toList_inj.1 (by rw [← e, ByteArray.toList_eq]))))
  have e3 : (hw.toList == wLend.data.toList) = false := beq_eq_false_iff_ne.2 (fun e => h3 (ByteArray.ext (Array.toList_inj.1 (by rw [← e, ByteArray.toList_eq]))))
  have e4 : (hw.toList == wBack.data.toList) = false := beq_eq_false_iff_ne.2 (fun e => h4 (ByteArray.ext (Array.toList_inj.1 (by rw [← e, ByteArray.toList_eq]))))
  have e5 : (hw.toList == wMove.data.toList) = false := beq_eq_false_iff_ne.2 (fun e => h5 (ByteArray.ext (Array.toList_inj.1 (by rw [← e, ByteArray.toList_eq]))))
  have e6 : (hw.toList == wBurn.data.toList) = false := beq_eq_false_iff_ne.2 (fun e => h6 (ByteArray.ext (Array.toList_inj.1 (by rw [← e, ByteArray.toList_eq]))))
  clear h hg hT hhw h1 h2 h3 h4 h5 h6
  go_enter Tryz.func40, Tryz.ntmps40
  go_wp2_with (first | (go_at_call 37; refine HC.out.mono ?_; rintro e w1 ⟨⟨s1, s2, rfl⟩, hb⟩; have HB1 := Aside0.mk hb; have HCl := Aside0.mk (cloneS_calls (HH.out.below hb)); clear hb) | (go_at_call 65; refine HCl.out.mono ?_; rintro e w2 ⟨⟨g', rfl, hi⟩, hb⟩; have HI2 := Aside0.mk hi; have HB2 := Aside0.mk (HB1.out.trans (hb.mono HB1.out.size)); clear hi hb))
  go_ret3
  exact doEnd_no HD.out (by decide) HB2.out
theorem do_calls {S : Nat → Prop} {W : World} {g : Nat} {st : St} (h : StAt S W g st) (hg : Good st) (hT : Tabs W) (text : ByteArray) (hs : text.size < 4294967281) : Calls Tryz.prog 40 #[ptr g, .string text] W (DoEnd st g text W) := by
  by_cases h1 : headW text = wPiece
  · exact doPiece_calls h hg hT text hs h1
  by_cases h2 : headW text = wPlayer
  · exact doPlayer_calls h hg hT text hs h2
  by_cases h3 : headW text = wLend
  · exact doLend_calls h hg hT text hs h3
  by_cases h4 : headW text = wBack
  · exact doBack_calls h hg hT text hs h4
  by_cases h5 : headW text = wMove
  · exact doMove_calls h hg hT text hs h5
  by_cases h6 : headW text = wBurn
  · exact doBurn_calls h hg hT text hs h6
  exact doOther_calls h hg hT text hs h1 h2 h3 h4 h5 h6
end
end Go.Proofs.YtoeeipkiadbnpaaGreatDoor.Lib10
end

section
namespace Go.Proofs.YtoeeipkiadbnpaaGreatDoor.Lib10
open Go.RowKit Go.Proofs.YtoeeipkiadbnpaaGreatDoorW.PrintWords Go.Proofs.YtoeeipkiadbnpaaGreatDoorW.PrintLast Go.Proofs.YtoeeipkiadbnpaaGreatDoorW.PrintMore
set_option linter.unusedVariables false
/-- What a byte reads as. -/
def decV (b : Int) : Int × Bool := (P.library_decode.f 20 b).getD (0, false)
set_option maxRecDepth 100000 in
theorem dec_all : (List.range 256).all (fun b => decide (P.library_decode.f 20 (b : Nat) = some (decV (b : Nat)) ∧ 0 ≤ (decV (b : Nat)).1 ∧ (decV (b : Nat)).1 ≤ 15)) = true := by decide +kernel
theorem dec_at {b : Int} (h : 0 ≤ b ∧ b ≤ 255) : P.library_decode.f 20 b = some (decV b) ∧ 0 ≤ (decV b).1 ∧ (decV b).1 ≤ 15 := by
  have h1 := List.all_eq_true.1 dec_all b.toNat (List.mem_range.2 (by omega))
  have e : ((b.toNat : Nat) : Int) = b := by omega
  rw [e] at h1
  exact of_decide_eq_true h1
theorem dec_calls {b : Int} (h : 0 ≤ b ∧ b ≤ 255) (w : World) : Calls Tryz.prog 76 #[.int .u8 b] w fun e w' => e = .returned (.tuple #[.int .u8 (decV b).1, .bool (decV b).2]) ∧ ∃ q, w' = w.drewN q :=
  (P.library_decode.calls 20 b (decV b).1 (decV b).2 w (dec_at h).1).mono fun e w' h => ⟨h.1, by obtain ⟨q, hq⟩ := h.2; exact ⟨q, hq⟩⟩
/-- Two halves of a byte. -/
def joinV (lo hi : Int) : Int := Go.bits .or .u8 (hi * 16 % 256) lo
def textOf (now : List Int) : ByteArray := strOfNums now
/-- The changes that bytes hold, and the state behind them. -/
def readM : St → List ByteArray → List Int → List Int → List ByteArray × St
  | s, done, now, lo :: hi :: rest => if (decV lo).2 = true ∧ (decV hi).2 = true then
      (if joinV (decV lo).1 (decV hi).1 = 10 then (if (doS s (textOf now)).1 = 0 then readM (doS s (textOf now)).2 (done ++ [textOf now]) [] rest else (done, s))
        else readM s done (now ++ [joinV (decV lo).1 (decV hi).1]) rest) else (done, s)
  | s, done, _, _ => (done, s)
def lenOf : Value → Nat
  | .slice _ n _ => n
  | _ => 0
theorem StAt.grown {S : Nat → Prop} {W W' : World} {g : Nat} {st : St} {row : Option Nat} (h : StAt S W g st) (hg : W.grownBy W' row) (hr : ∀ k, some k = row → ∃ cells t, W.heap[k]? = some (.cells cells t (0, 0)) ∧ t ≠ 3 ∧ t ≠ 128) : StAt S W' g st := by
  obtain ⟨m1, ⟨b1, b2, b3, s0, s1, s2, s3, n1, n2, n3, hr'⟩, hp⟩ := h
  have hno : ∀ k cells t, W.heap[k]? = some (.cells cells t (0, 0)) → (t = 3 ∨ t = 128) → some k ≠ row := fun k cells t hc ht e => by
    obtain ⟨c2, t2, hc2, h3, h128⟩ := hr k e
    rw [hc] at hc2
    injection hc2 with hc2
    injection hc2 with _ e2
    rcases ht with ht | ht
    · exact h3 (e2.symm.trans ht)
    · exact h128 (e2.symm.trans ht)
  have hmap : ∀ k m, MR W k m → some k ≠ row := fun k m hm e => by
    obtain ⟨c2, t2, hc2, _⟩ := hr k e
    obtain ⟨D, ⟨es, clock, hb, _⟩, _⟩ := hm
    rw [hb] at hc2
    injection hc2 with hc2
    cases hc2
  exact ⟨m1, ⟨b1, b2, b3, s0, s1, s2, s3, n1, n2, n3, hr'.same (hg.block g (blk_lt hr'.cells) (hno g _ _ hr'.cells (.inr rfl))) (hg.block b1 hr'.p1.lt (hmap _ _ hr'.p1)) (hg.block b2 hr'.p2.lt (hmap _ _ hr'.p2)) (hg.block b3 hr'.p3.lt (hmap _ _ hr'.p3))⟩, hp.same (fun k cells hc => hg.block k (blk_lt hc) (hno k _ _ hc (.inl rfl)))⟩
/-- The reading of the books under way. -/
structure Reading (W wr : World) (b rest now : List Int) (A : Option Addr) (n c g : Nat) (st : St) (done : List ByteArray) (v5 v6 : Value) : Prop where
  eq : readM St.begin [] [] b = readM st done now rest
  len : rest.length = n
  nc : n ≤ c
  rd : (Kd.int .u8).C W A n rest
  rng : ∀ x ∈ rest, 0 ≤ x ∧ x ≤ 255
  good : Good st
  stt : StAt (fun k => W.heap.size ≤ k) wr g st
  r5 : Kd.string.R 9 wr W.heap.size (fun j => W.heap.size ≤ j) v5 done
  r6 : (Kd.int .u8).R 5 wr W.heap.size (fun j => W.heap.size ≤ j) v6 now
  bel : Below W.heap.size W wr
  dl : done.length + n ≤ b.length
  nl : now.length + n ≤ b.length
theorem Reading.below {W wr w2 : World} {b rest now : List Int} {A : Option Addr} {n c g : Nat} {st : St} {done : List ByteArray} {v5 v6 : Value} (h : Reading W wr b rest now A n c g st done v5 v6) (hb : Below wr.heap.size wr w2) : Reading W w2 b rest now A n c g st done v5 v6 :=
  ⟨h.eq, h.len, h.nc, h.rd, h.rng, h.good, h.stt.below hb, Kd.R_below h.r5 hb, Kd.R_below h.r6 hb, h.bel.trans (hb.mono h.bel.size), h.dl, h.nl⟩
/-- What reading the books gives. -/
def BooksPost (b : List Int) (W : World) (e : Ending) (w' : World) : Prop :=
  ∃ vj g, e = .returned (.tuple #[vj, ptr g]) ∧ Kd.string.R 9 w' W.heap.size (fun j => W.heap.size ≤ j) vj (readM St.begin [] [] b).1 ∧ StAt (fun k => W.heap.size ≤ k) w' g (readM St.begin [] [] b).2 ∧ Good (readM St.begin [] [] b).2 ∧ Below W.heap.size W w'
theorem Reading.fin {W wr : World} {b rest now : List Int} {A : Option Addr} {n c g : Nat} {st : St} {done : List ByteArray} {v5 v6 : Value} (h : Reading W wr b rest now A n c g st done v5 v6) (he : readM st done now rest = (done, st)) : BooksPost b W (.returned (.tuple #[v5, ptr g])) wr := by
  refine ⟨v5, g, rfl, ?_⟩
  rw [h.eq, he]
  exact ⟨h.r5, h.stt, h.good, h.bel⟩
theorem readM_short (s : St) (done : List ByteArray) (now rest : List Int) (h : rest.length < 2) : readM s done now rest = (done, s) := by
  match rest, h with
  | [], _ => rw [readM]; intro lo hi r e; cases e
  | [x], _ => rw [readM]; intro lo hi r e; cases e
theorem readM_dead {s : St} {done : List ByteArray} {now rest : List Int} {lo hi : Int} (h : ¬ ((decV lo).2 = true ∧ (decV hi).2 = true)) : readM s done now (lo :: hi :: rest) = (done, s) := by rw [readM, if_neg h]
theorem readM_more {s : St} {done : List ByteArray} {now rest : List Int} {lo hi : Int} (h : (decV lo).2 = true ∧ (decV hi).2 = true) (hx : joinV (decV lo).1 (decV hi).1 ≠ 10) : readM s done now (lo :: hi :: rest) = readM s done (now ++ [joinV (decV lo).1 (decV hi).1]) rest := by rw [readM, if_pos h, if_neg hx]
theorem readM_no {s : St} {done : List ByteArray} {now rest : List Int} {lo hi : Int} (h : (decV lo).2 = true ∧ (decV hi).2 = true) (hx : joinV (decV lo).1 (decV hi).1 = 10) (hd : (doS s (textOf now)).1 ≠ 0) : readM s done now (lo :: hi :: rest) = (done, s) := by rw [readM, if_pos h, if_pos hx, if_neg hd]
theorem readM_do {s : St} {done : List ByteArray} {now rest : List Int} {lo hi : Int} (h : (decV lo).2 = true ∧ (decV hi).2 = true) (hx : joinV (decV lo).1 (decV hi).1 = 10) (hd : (doS s (textOf now)).1 = 0) : readM s done now (lo :: hi :: rest) = readM (doS s (textOf now)).2 (done ++ [textOf now]) [] rest := by rw [readM, if_pos h, if_pos hx, if_pos hd]
section
set_option maxRecDepth 100000
set_option maxHeartbeats 2000000
theorem drew_below (w : World) (q : Nat) : Below w.heap.size w (w.drewN q) := ⟨rfl, rfl, rfl, Nat.le_refl _, fun _ _ => rfl⟩
theorem books_read {A : Option Addr} {n c : Nat} {b : List Int} {W : World} (hC : (Kd.int .u8).C W A n b) (hn : b.length = n) (hnc : n ≤ c) (hr : ∀ x ∈ b, 0 ≤ x ∧ x ≤ 255) (hm : n ≤ 1000000) (hT : Tabs W) : Calls Tryz.prog 46 #[.slice A n c] W (BooksPost b W) := by
  have HM := Aside0.mk (And.intro hn hm)
  have HT := Aside0.mk hT
  have HB := Aside0.mk (begin_calls W)
  have HI := Aside0.mk (fun (wr : World) (g : Nat) (hst : IsSt (fun k => W.heap.size ≤ k) wr g [] [] []) (hb : Below W.heap.size W wr) => (show Reading W wr b b [] A n c g St.begin [] (.slice none 0 0) (.slice none 0 0) from ⟨rfl, hn, hnc, hC, hr, Good.begin, ⟨[], hst, trivial⟩, Kd.R_nil _ _ _ _ _, Kd.R_nil _ _ _ _ _, hb, by simp; omega, by simp; omega⟩))
  clear hC hn hnc hr hm hT
  go_enter Tryz.func46, Tryz.ntmps46
  go_wp2_with (go_at_call 75; refine HB.out.mono ?_; rintro e w1 ⟨⟨g, rfl, hst⟩, hb⟩; have HR0 := Aside0.mk (HI.out _ g hst hb); clear hst hb)
  go_loopw [0, 4, 5, 6] (fun v0 v4 v5 v6 wr => ∃ (A : Option Addr) (n c g : Nat) (rest now : List Int) (st : St) (done : List ByteArray), v0 = .slice A n c ∧ v4 = ptr g ∧ Aside0 (Reading W wr b rest now A n c g st done v5 v6)) (fun v0 _ _ _ _ => lenOf v0)
  case atStart => exact ⟨A, n, c, g, b, [], St.begin, [], rfl, rfl, HR0⟩
  case round =>
    obtain ⟨A, n, c, g, rest, now, st, done, rfl, rfl, hrd⟩ := hrel
    obtain ⟨A5, c5, h5⟩ := Kd.R_slice hrd.out.r5
    obtain ⟨A6, c6, h6⟩ := Kd.R_slice hrd.out.r6
    subst h5 h6
    by_cases h2 : 2 ≤ n
    · have hlen := hrd.out.len
      obtain ⟨lo, hi, rest2, rfl⟩ : ∃ lo hi r, rest = lo :: hi :: r := by
        match rest, hlen with
        | lo :: hi :: r, _ => exact ⟨lo, hi, r, rfl⟩
        | [x], e => simp at e; omega
        | [], e => simp at e; omega
      have d1 : decide ((2 : Int) ≤ (n : Int)) = true := decide_eq_true (by omega)
      have i0 : (0 : Int) < (n : Int) := by omega
      have i1 : (1 : Int) < (n : Int) := by omega
      have hCr := Kd.C_below hrd.out.rd hrd.out.bel
      obtain ⟨ad, e167, hx0⟩ := Kd.at_int hCr 0 (by omega) (by omega)
      obtain ⟨ad2, e168, hx1⟩ := Kd.at_int hCr 1 (by omega) (by omega)
      cases e167
      cases e168
      replace hx0 : wr.cell? ad = some (.int .u8 lo) := by rw [show ad = ad.add (Int.toNat 0) by cases ad; rfl]; exact hx0
      replace hx1 : wr.cell? (ad.add 1) = some (.int .u8 hi) := hx1
      replace hx1 : wr.cell? { block := ad.block, off := ad.off + 1 } = some (.int .u8 hi) := hx1
      have hlo := hrd.out.rng lo (by simp)
      have hhi := hrd.out.rng hi (by simp)
      have HDl := Aside0.mk (fun w => dec_calls hlo w)
      have HDh := Aside0.mk (fun w => dec_calls hhi w)
      obtain ⟨dl, hdl⟩ : ∃ d, d = decV lo := ⟨_, rfl⟩
      obtain ⟨dh, hdh⟩ : ∃ d, d = decV hi := ⟨_, rfl⟩
      rw [← hdl] at HDl
      rw [← hdh] at HDh
      have HEl := Aside0.mk hdl
      have HEh := Aside0.mk hdh
      have HBl := Aside0.mk (dec_at hlo).2
      have HBh := Aside0.mk (dec_at hhi).2
      rw [← hdl] at HBl
      rw [← hdh] at HBh
      obtain ⟨xl, bl⟩ := dl
      obtain ⟨xh, bh⟩ := dh
      clear hlo hhi hdl hdh hCr hlen
      by_cases hb : bl = true ∧ bh = true
      · obtain ⟨rfl, rfl⟩ := hb
        have HAl := Aside0.mk (show (decV lo).2 = true ∧ (decV hi).2 = true by rw [← HEl.out, ← HEh.out]; exact ⟨rfl, rfl⟩)
        obtain ⟨i5, hi5, hs5⟩ := Option.map_eq_some_iff.1 info5
        obtain ⟨A', hcut, hcr⟩ := print_cut_of (P := Tryz.prog) (Value.int .u8) (0 : Int) 45 5 .i64 Tryz.underlying45 hi5 (by injection hs5 with _ h; injection h) (some ad) n c 2 h2
        replace hcut : ∀ W, (Instr.slice 45 (.slice (some ad) n c) (some (.int .i64 2)) none none).run Tryz.prog W = .ok (.slice A' (n - 2) (c - 2)) W := hcut
        have HJ0 := Aside0.mk (show joinV (decV lo).1 (decV hi).1 = Go.bits .or .u8 (xh * 16 % 256) xl by rw [← HEl.out, ← HEh.out]; rfl)
        obtain ⟨x, hx⟩ : ∃ x, Go.bits .or .u8 (xh * 16 % 256) xl = x := ⟨_, rfl⟩
        rw [hx] at HJ0
        have HCut := Aside0.mk (And.intro (show n - 2 ≤ c - 2 by have := hrd.out.nc; omega) (show (Kd.int .u8).C W A' (n - 2) rest2 from Kd.C_of_reads (enc := Value.int .u8) (d := (0 : Int)) (h1 := fun _ => rfl) (hcr W (lo :: hi :: rest2) hrd.out.nc (Kd.reads_of_C (enc := Value.int .u8) (d := (0 : Int)) (h1 := fun _ => rfl) hrd.out.rd))))
        clear hcr hi5 hs5
        have HRD := Aside0.mk (fun q => hrd.out.below (drew_below wr q))
        by_cases hx10 : x = 10
        · have HX := Aside0.mk (show joinV (decV lo).1 (decV hi).1 = 10 by rw [HJ0.out]; exact hx10)
          have d3 : (x != 10) = false := bne_eq_false_iff_eq.2 hx10
          clear hx10
          obtain ⟨tx, htx⟩ : ∃ tx, strOfNums now = tx := ⟨_, rfl⟩
          have hcv : ∀ q, (convert 45 9 (.slice A6 now.length c6)).run Tryz.prog (wr.drewN q) = .ok (.string tx) (wr.drewN q) := fun q => by rw [← htx]; exact Kd.C_string Tryz.underlying45 Tryz.underlying5 Tryz.underlying9 (Kd.R_reads' (HRD.out q).r6).2.2
          have HTx := Aside0.mk (show textOf now = tx from htx)
          have HTs := Aside0.mk (show tx.size ≤ 1000000 by rw [← htx, strOfNums_size]; have := hrd.out.nl; have := HM.out; omega)
          have HDo := Aside0.mk (fun q => do_calls (HRD.out q).stt hrd.out.good (HT.out.below (HRD.out q).bel HT.out.low) tx (by have := HTs.out; omega))
          obtain ⟨res, hres⟩ : ∃ res, res = doS st tx := ⟨_, rfl⟩
          have HRes := Aside0.mk hres
          clear htx hres
          by_cases hz : res.1 = 0
          · have HZ := Aside0.mk hz
            have HDo2 := Aside0.mk (fun q => show Calls Tryz.prog 40 #[ptr g, .string tx] (wr.drewN q) (fun e w' => (∃ g', e = .returned (.tuple #[ptr g', .string (headW tx), .int .i64 0]) ∧ StAt (fun k => (wr.drewN q).heap.size ≤ k) w' g' res.2) ∧ Below (wr.drewN q).heap.size (wr.drewN q) w') from (HDo.out q).mono (fun e w' h => by unfold DoEnd at h; rw [← HRes.out, if_pos hz] at h; exact h))
            clear HDo hz
            have HDl1 := Aside0.mk (show (done.length + 1) * 16 ≤ 140737488355328 by have := hrd.out.dl; have := HM.out; omega)
            go_wp2_with (first | (go_at_call 76; first | (with_reducible refine (HDl.out _).mono ?_; rintro e w2 ⟨rfl, ⟨q1, rfl⟩⟩) | (with_reducible refine (HDh.out _).mono ?_; rintro e w3 ⟨rfl, ⟨q2, rfl⟩⟩)) | (go_at_call 40; refine (HDo2.out _).mono ?_; rintro e w4 ⟨⟨g', rfl, hst⟩, hb⟩; have HR4 := Aside0.mk ((HRD.out (q1 + q2)).below hb); have HS4 := Aside0.mk (hst.mono (fun k hk => Nat.le_trans (HRD.out (q1 + q2)).bel.size hk)); have hcv4 : (convert 45 9 (.slice A6 now.length c6)).run Tryz.prog w4 = .ok (.string tx) w4 := (by rw [← HTx.out]; exact Kd.C_string Tryz.underlying45 Tryz.underlying5 Tryz.underlying9 (Kd.R_reads' HR4.out.r6).2.2); clear hst hb) | (at_builtin; go_loud (refine Kd.R_append Kd.string (w0 := W) W.heap.size rfl (.tmp 62) (.tmp 65) 22 9 (.string ByteArray.empty) 16 rfl Tryz.underlying22 info9 rfl (by decide) (by omega) (.slice A5 done.length c5) done tx [.string tx] (fun j => W.heap.size ≤ j) (fun _ => False) rfl rfl rfl (fun _ hk => hk.elim) (fun j hj => Nat.le_trans HR4.out.bel.size hj) HR4.out.r5 HR4.out.bel HR4.out.bel.size (by have := HDl1.out; omega) ?_); intro v7 w7 hq7 hb7 hg7 hat7; have HQ7 := Aside0.mk hq7; have HB7 := Aside0.mk hb7; have HG7 := Aside0.mk hg7; clear hq7 hb7 hg7 hat7))
            have hR := HR4.out
            refine ⟨⟨A', n - 2, c - 2, g', rest2, [], res.2, done ++ [tx], rfl, rfl, ⟨?_⟩⟩, by simp [lenOf]; omega⟩
            refine ⟨?_, by have := hR.len; simp at this; omega, HCut.out.1, HCut.out.2, fun y hy => hR.rng y (by simp [hy]), by rw [HRes.out]; exact good_do hR.good tx, HS4.out.grown HG7.out (fun k hk => by obtain ⟨cells, hc⟩ := own_type hR.r5 k hk; exact ⟨cells, 9, hc, by decide, by decide⟩), HQ7.out, Kd.R_nil _ _ _ _ _, HB7.out, by have := hR.dl; simp; omega, by have := hR.dl; simp; omega⟩
            rw [hR.eq, readM_do HAl.out HX.out (by rw [HTx.out, ← HRes.out]; exact HZ.out), HTx.out, ← HRes.out]
          · have HZ := Aside0.mk hz
            have d4 : (res.1 != 0) = true := bne_iff_ne.2 hz
            have HDo2 := Aside0.mk (fun q => show Calls Tryz.prog 40 #[ptr g, .string tx] (wr.drewN q) (fun e w' => e = .returned (.tuple #[ptr g, .string ByteArray.empty, .int .i64 res.1]) ∧ Below (wr.drewN q).heap.size (wr.drewN q) w') from (HDo.out q).mono (fun e w' h => by unfold DoEnd at h; rw [← HRes.out, if_neg hz] at h; exact h))
            clear HDo hz
            go_wp2_with (first | (go_at_call 76; first | (with_reducible refine (HDl.out _).mono ?_; rintro e w2 ⟨rfl, ⟨q1, rfl⟩⟩) | (with_reducible refine (HDh.out _).mono ?_; rintro e w3 ⟨rfl, ⟨q2, rfl⟩⟩)) | (go_at_call 40; refine (HDo2.out _).mono ?_; rintro e w4 ⟨rfl, hb⟩; have HR4 := Aside0.mk ((HRD.out (q1 + q2)).below hb); clear hb))
            go_ret2
            exact HR4.out.fin (readM_no HAl.out HX.out (by rw [HTx.out, ← HRes.out]; exact HZ.out))
        · have HX := Aside0.mk (show joinV (decV lo).1 (decV hi).1 ≠ 10 by rw [HJ0.out]; exact hx10)
          have d3 : (x != 10) = true := bne_iff_ne.2 hx10
          clear hx10
          have HNl := Aside0.mk (show (now.length + 1) * 1 ≤ 140737488355328 by have := hrd.out.nl; have := HM.out; omega)
          go_wp2_with (first | (go_at_call 76; first | (with_reducible refine (HDl.out _).mono ?_; rintro e w2 ⟨rfl, ⟨q1, rfl⟩⟩) | (with_reducible refine (HDh.out _).mono ?_; rintro e w3 ⟨rfl, ⟨q2, rfl⟩⟩)) | (at_builtin; go_loud (refine Kd.R_append (Kd.int .u8) (w0 := W) W.heap.size rfl (.tmp 47) (.tmp 49) 45 5 (.int .u8 0) 1 rfl Tryz.underlying45 info5 rfl (by decide) (by omega) (.slice A6 now.length c6) now x [.int .u8 x] (fun j => W.heap.size ≤ j) (fun _ => False) rfl rfl rfl (fun _ hk => hk.elim) (fun j hj => Nat.le_trans (HRD.out _).bel.size hj) (HRD.out _).r6 (HRD.out _).bel (HRD.out _).bel.size (by have := HNl.out; omega) ?_); intro v7 w7 hq7 hb7 hg7 hat7; have HQ7 := Aside0.mk hq7; have HB7 := Aside0.mk hb7; have HG7 := Aside0.mk hg7; clear hq7 hb7 hg7 hat7))
          have hR := HRD.out (q1 + q2)
          refine ⟨⟨A', n - 2, c - 2, g, rest2, now ++ [x], st, done, rfl, rfl, ⟨?_⟩⟩, by simp [lenOf]; omega⟩
          refine ⟨?_, by have := hR.len; simp at this; omega, HCut.out.1, HCut.out.2, fun y hy => hR.rng y (by simp [hy]), hR.good, hR.stt.grown HG7.out (fun k hk => by obtain ⟨cells, hc⟩ := own_type hR.r6 k hk; exact ⟨cells, 5, hc, by decide, by decide⟩), R_apart hR.r5 rfl (fun k cells hc => HG7.out.block k (blk_lt hc) (fun e => by obtain ⟨cells2, hc2⟩ := own_type hR.r6 k e; exact type_ne hc hc2 (show (9 : Nat) ≠ 5 by decide) rfl)), HQ7.out, HB7.out, by have := hR.dl; omega, by have := hR.nl; simp; omega⟩
          rw [hR.eq, readM_more HAl.out HX.out, HJ0.out]
      · have HAl := Aside0.mk (show ¬ ((decV lo).2 = true ∧ (decV hi).2 = true) by rw [← HEl.out, ← HEh.out]; exact hb)
        cases bl with
        | false =>
          go_wp2_with ((go_at_call 76; first | (with_reducible refine (HDl.out _).mono ?_; rintro e w2 ⟨rfl, ⟨q1, rfl⟩⟩) | (with_reducible refine (HDh.out _).mono ?_; rintro e w3 ⟨rfl, ⟨q2, rfl⟩⟩)))
          go_ret2
          exact (hrd.out.below (drew_below _ _)).fin (readM_dead HAl.out)
        | true =>
          cases bh with
          | false =>
            go_wp2_with ((go_at_call 76; first | (with_reducible refine (HDl.out _).mono ?_; rintro e w2 ⟨rfl, ⟨q1, rfl⟩⟩) | (with_reducible refine (HDh.out _).mono ?_; rintro e w3 ⟨rfl, ⟨q2, rfl⟩⟩)))
            go_ret2
            exact (hrd.out.below (drew_below _ _)).fin (readM_dead HAl.out)
          | true => exact absurd ⟨rfl, rfl⟩ hb
    · have d1 : decide ((2 : Int) ≤ (n : Int)) = false := decide_eq_false (by omega)
      go_wp2_with fail
      go_ret2
      exact hrd.out.fin (readM_short _ _ _ _ (by have := hrd.out.len; omega))
end
end Go.Proofs.YtoeeipkiadbnpaaGreatDoor.Lib10
end

section
namespace Go.Proofs.YtoeeipkiadbnpaaGreatDoor.Lib10
open Go.RowKit Go.Proofs.YtoeeipkiadbnpaaGreatDoorW.PrintWords Go.Proofs.YtoeeipkiadbnpaaGreatDoorW.PrintLast Go.Proofs.YtoeeipkiadbnpaaGreatDoorW.PrintMore
set_option linter.unusedVariables false
variable {B : Nat}
theorem R_set1 {W : World} {e base : Nat} {ok : Nat → Prop} {g n cap : Nat} {xs : List Int} (h : (Kd.int .u8).R e W base ok (.slice (some ⟨g, 0, none⟩) n cap) xs) (i : Nat) (hi : i < n) (v : Int) :
    (Kd.int .u8).R e (W.setCell ⟨g, i, none⟩ (.int .u8 v)) base ok (.slice (some ⟨g, 0, none⟩) n cap) (xs.set i v) ∧ W.grownBy (W.setCell ⟨g, i, none⟩ (.int .u8 v)) (some g) := by
  have hn := (Kd.R_reads' h).1
  have hs1 : (Kd.int .u8).sz = 1 := rfl
  have hc := (Kd.R_celln (0 : Int) h (i : Int) (by omega) (by omega)).1
  have h2 := Kd.R_seg (x' := v) (seg := [.int .u8 v]) (c := [.int .u8 (rdOf 0 xs (i : Int))]) (j := 0) (okp := fun _ => False) h (i : Int) (by omega) (by omega) rfl (fun j u hj => by
    match j, hj with
    | 0, hj => injection hj with hj; subst hj; simpa [hs1] using hc) (by show 0 + 1 ≤ 1; decide) (by first | rfl | exact ⟨rfl, trivial⟩ | exact ⟨_, rfl⟩) (fun k hk => hk.elim)
  simpa [World.setCells, hs1] using h2
/-- The blocks that a reel's methods may write. -/
def RF (rg : Nat) (A : Option Addr) (m c : Nat) (k : Nat) : Prop := k = rg ∨ some k = (Value.slice A m c).ownBlock
theorem ReelIs.own {W : World} {rg : Nat} {A : Option Addr} {m c : Nat} {x : ReelV} (h : ReelIs B W rg A m c x) : ∀ k, RF rg A m c k → B ≤ k ∧ k < W.heap.size := by
  rintro k (rfl | hk)
  · exact ⟨h.low, blk_lt h.rc⟩
  · obtain ⟨cells, hc⟩ := own_type h.row k hk
    exact ⟨Kd.R_base h.row k hk.symm, blk_lt hc⟩
/-- A method's end: the reel, and nothing else has turned. -/
structure ReelTo (B : Nat) (W : World) (rg : Nat) (A : Option Addr) (m c m' : Nat) (x' : ReelV) (w' : World) : Prop where
  reel : ReelIs B w' rg A m' c x'
  kept : Kept W w' (RF rg A m c)
  bel : Below B W w'
theorem ReelIs.to {W : World} {rg : Nat} {A : Option Addr} {m c : Nat} {x : ReelV} (h : ReelIs B W rg A m c x) : ReelTo B W rg A m c m x W := ⟨h, Kept.refl _ _, Below.refl _ _⟩
theorem ReelIs.turn {W w' : World} {rg : Nat} {A : Option Addr} {m c : Nat} {x x' : ReelV} (h : ReelIs B W rg A m c x) (ht : Turn W w' rg) (hr : Rec w' rg (.slice A m c) x') (hb : x'.b = x.b) (hf : Fine x') : ReelTo B W rg A m c m x' w' :=
  ⟨⟨hr, h.low, by rw [hb]; exact R_apart h.row rfl (fun k cells hc => ht.oth k (type_ne hc h.rc (show (5 : Nat) ≠ 70 by decide))), hf⟩, ht.kept (.inl rfl), ht.bel.mono h.low⟩
def fuseV (x : ReelV) (k : Int) : ReelV := { x with fuse := if k < -1 then -1 else k }
def powerV (x : ReelV) : ReelV := { x with off := false, fuse := -1 }
def cutV (x : ReelV) (n : Int) : Int × ReelV := if x.off = true then (8, x) else if n < 0 ∨ (x.b.length : Int) < n then (2, x) else (0, { x with b := x.b.take n.toNat })
def putV (x : ReelV) (i b : Int) : Int × ReelV := if x.off = true then (8, x) else if i < 0 ∨ (x.b.length : Int) ≤ i then (2, x) else if x.fuse = 0 then (8, { x with off := true }) else (0, { x with fuse := less x.fuse, b := x.b.set i.toNat b })
theorem Fine.s0 {x : ReelV} (h : Fine x) : x.size ≠ 0 := by have := h.size0; omega
theorem reel_fuse {W : World} {rg : Nat} {A : Option Addr} {m c : Nat} {x : ReelV} (h : ReelIs B W rg A m c x) (k : Int) (hk : k ≤ 9223372036854775807) : Calls Tryz.prog 19 #[ptr rg, .int .i64 k] W fun e w' => (∃ u, e = .returned u) ∧ ReelTo B W rg A m c m (fuseV x k) w' :=
  (fuse_calls k h.rc h.fine.s0).mono fun e w' hw => ⟨hw.1, h.turn hw.2.2 hw.2.1 rfl ⟨h.fine.size0, h.fine.size1, h.fine.len, by unfold fuseV; simp only []; split <;> omega, by unfold fuseV; simp only []; split <;> omega⟩⟩
theorem reel_power {W : World} {rg : Nat} {A : Option Addr} {m c : Nat} {x : ReelV} (h : ReelIs B W rg A m c x) : Calls Tryz.prog 21 #[ptr rg] W fun e w' => (∃ u, e = .returned u) ∧ ReelTo B W rg A m c m (powerV x) w' :=
  (power_calls h.rc h.fine.s0).mono fun e w' hw => ⟨hw.1, h.turn hw.2.2 hw.2.1 rfl ⟨h.fine.size0, h.fine.size1, h.fine.len, by show (-1 : Int) ≤ -1; decide, by show (-1 : Int) ≤ 9223372036854775807; decide⟩⟩
theorem reel_cut {W : World} {rg : Nat} {A : Option Addr} {m c : Nat} {x : ReelV} (h : ReelIs B W rg A m c x) (n : Int) : Calls Tryz.prog 33 #[ptr rg, .int .i64 n] W fun e w' => e = .returned (.int .i64 (cutV x n).1) ∧ ∃ m', ReelTo B W rg A m c m' (cutV x n).2 w' := by
  obtain ⟨hm, hc⟩ := h.len
  unfold cutV
  by_cases ho : x.off = true
  · rw [if_pos ho]
    exact (cut_off n h.rc h.fine.s0 ho).mono fun e w' hw => by obtain ⟨rfl, rfl⟩ := hw; exact ⟨rfl, m, h.to⟩
  · rw [if_neg ho]
    have ho' : x.off = false := by simpa using ho
    by_cases hn : n < 0 ∨ (x.b.length : Int) < n
    · rw [if_pos hn]
      exact (cut_no n h.rc h.fine.s0 ho' (by omega)).mono fun e w' hw => by obtain ⟨rfl, rfl⟩ := hw; exact ⟨rfl, m, h.to⟩
    · rw [if_neg hn]
      obtain ⟨q, rfl⟩ : ∃ q : Nat, n = q := ⟨n.toNat, by omega⟩
      rw [Int.toNat_natCast]
      refine (cut_ok q h.rc h.fine.s0 ho' (by omega) hc (x.b.take q)).mono fun e w' hw => ?_
      obtain ⟨rfl, hr, ht⟩ := hw
      have hrow := Kd.R_take (m := q) h.row (by omega)
      refine ⟨rfl, q, ⟨⟨hr, h.low, R_apart hrow rfl (fun k cells hc => ht.oth k (type_ne hc h.rc (show (5 : Nat) ≠ 70 by decide))), ⟨h.fine.size0, h.fine.size1, ?_, h.fine.fuse0, h.fine.fuse1⟩⟩, ht.kept (.inl rfl), ht.bel.mono h.low⟩⟩
      have := h.fine.len
      simp only [List.length_take]
      omega
theorem ReelIs.addr {W : World} {rg : Nat} {A : Option Addr} {m c : Nat} {x : ReelV} (h : ReelIs B W rg A m c x) (hm : 0 < m) : ∃ g, A = some ⟨g, 0, none⟩ := by
  obtain ⟨g, cap, e, _⟩ := Kd.R_form h.row (by have := h.len.1; omega)
  injection e with e
  exact ⟨g, e⟩
theorem reel_put {W : World} {rg : Nat} {A : Option Addr} {m c : Nat} {x : ReelV} (h : ReelIs B W rg A m c x) (i b : Int) : Calls Tryz.prog 32 #[ptr rg, .int .i64 i, .int .u8 b] W fun e w' => e = .returned (.int .i64 (putV x i b).1) ∧ ReelTo B W rg A m c m (putV x i b).2 w' := by
  obtain ⟨hm, hc⟩ := h.len
  unfold putV
  by_cases ho : x.off = true
  · rw [if_pos ho]
    exact (put_off i b h.rc h.fine.s0 ho).mono fun e w' hw => by obtain ⟨rfl, rfl⟩ := hw; exact ⟨rfl, h.to⟩
  · rw [if_neg ho]
    have ho' : x.off = false := by simpa using ho
    by_cases hn : i < 0 ∨ (x.b.length : Int) ≤ i
    · rw [if_pos hn]
      exact (put_no i b h.rc h.fine.s0 ho' (by omega)).mono fun e w' hw => by obtain ⟨rfl, rfl⟩ := hw; exact ⟨rfl, h.to⟩
    · rw [if_neg hn]
      obtain ⟨q, rfl⟩ : ∃ q : Nat, i = q := ⟨i.toNat, by omega⟩
      rw [Int.toNat_natCast]
      by_cases hf : x.fuse = 0
      · rw [if_pos hf]
        refine (put_burnt q b h.rc h.fine.s0 ho' (by omega) hf).mono fun e w' hw => ?_
        obtain ⟨rfl, hr, ht⟩ := hw
        exact ⟨rfl, h.turn ht hr rfl ⟨h.fine.size0, h.fine.size1, h.fine.len, h.fine.fuse0, h.fine.fuse1⟩⟩
      · rw [if_neg hf]
        obtain ⟨g, rfl⟩ := h.addr (by omega)
        have hg : g ≠ rg := fun e => by
          obtain ⟨cells, hc5⟩ := own_type h.row g rfl
          exact type_ne hc5 h.rc (show (5 : Nat) ≠ 70 by decide) e
        have hcell := Kd.R_celln (0 : Int) h.row (q : Int) (by omega) (by omega)
        obtain ⟨cells, hc5⟩ := own_type h.row g rfl
        refine (put_ok (bs := x.b) q b h.rc h.fine.s0 ho' (by omega) hf h.fine.fuse0 h.fine.fuse1 hg (cell := .int .u8 (rdOf 0 x.b (q : Int))) (by simpa using hcell.1) (blk_frozen hc5 _)).mono fun e w' hw => ?_
        obtain ⟨rfl, w1, hr, ht, rfl⟩ := hw
        have hrow1 : (Kd.int .u8).R 5 w1 B (fun _ => True) (.slice (some ⟨g, 0, none⟩) m c) x.b := R_apart h.row rfl (fun k cells hc => ht.oth k (type_ne hc h.rc (show (5 : Nat) ≠ 70 by decide)))
        obtain ⟨hs, hgr⟩ := R_set1 hrow1 q (by omega) b
        rw [Nat.zero_add]
        have hlr := less_range h.fine.fuse0 h.fine.fuse1 hf
        refine ⟨rfl, ⟨(hgr.block rg (blk_lt hr) (fun e => hg (Option.some.inj e).symm)).trans hr, h.low, hs, ⟨h.fine.size0, h.fine.size1, by simpa using h.fine.len, hlr.1, hlr.2⟩⟩, ?_, ?_⟩
        · exact (ht.kept (F := RF rg (some ⟨g, 0, none⟩) m c) (.inl rfl)).of_grown hgr (fun k e => .inl (.inr e.symm))
        · exact (ht.bel.mono h.low).grown hgr (by rw [ht.sz]; have := h.low; have := blk_lt h.rc; omega) (fun k e => by cases e; exact Kd.R_base h.row g rfl)
theorem reel_append {W : World} {rg : Nat} {A A6 : Option Addr} {m c n c6 : Nat} {x : ReelV} {bs : List Int} (h : ReelIs B W rg A m c x) (hn : bs.length = n) (hnc : n ≤ c6) (hC : ∀ W', Kept W W' (RF rg A m c) → (Kd.int .u8).C W' A6 n bs) :
    Calls Tryz.prog 31 #[ptr rg, .slice A6 n c6] W fun e w' => e = .returned (.int .i64 (if x.off = true then 8 else (appendV x bs).1)) ∧ (∃ A' m' c', ReelIs B w' rg A' m' c' (if x.off = true then x else (appendV x bs).2) ∧ ∀ k, RF rg A' m' c' k → RF rg A m c k ∨ W.heap.size ≤ k) ∧ Kept W w' (RF rg A m c) ∧ Below B W w' := by
  by_cases ho : x.off = true
  · rw [if_pos ho, if_pos ho]
    have H := Aside0.mk (ready_off h.rc h.fine.s0 ho)
    have HX := Aside0.mk h
    clear h hC hn
    go_enter Tryz.func31, Tryz.ntmps31
    go_wp2_with (go_at_call 45; refine H.out.mono ?_; rintro e w' ⟨rfl, rfl⟩)
    go_ret
    exact ⟨rfl, ⟨A, m, c, HX.out, fun k hk => .inl hk⟩, Kept.refl _ _, Below.refl _ _⟩
  · rw [if_neg ho, if_neg ho]
    have hrl := blk_lt h.rc
    refine (append_calls (bs := bs) h.rep h.fine (by simpa using ho) ?_ (by have := h.low; omega) hnc hC).mono ?_
    · rintro k (rfl | hk)
      · exact h.low
      · exact Kd.R_base h.row k hk.symm
    · rintro e w' ⟨rfl, hrep, hk, hb⟩
      obtain ⟨hF, v, hrec, hrow⟩ := hrep
      obtain ⟨A', c', rfl⟩ := Kd.R_slice hrow
      refine ⟨rfl, ⟨A', _, c', ⟨hrec, h.low, Kd.R_mono hrow (fun _ _ => trivial), fine_append _ _ h.fine⟩, ?_⟩, hk, hb⟩
      rintro k (rfl | hk2)
      · exact .inl (.inl rfl)
      · have := (hrow.1 k hk2.symm).1
        exact this
end Go.Proofs.YtoeeipkiadbnpaaGreatDoor.Lib10
end

section
namespace Go.Proofs.YtoeeipkiadbnpaaGreatDoor.Lib10
open Go.RowKit Go.Proofs.YtoeeipkiadbnpaaGreatDoorW.PrintWords Go.Proofs.YtoeeipkiadbnpaaGreatDoorW.PrintLast Go.Proofs.YtoeeipkiadbnpaaGreatDoorW.PrintMore
set_option linter.unusedVariables false
variable {B : Nat}
section
set_option maxRecDepth 100000
set_option maxHeartbeats 2000000
theorem R_empty (W : World) : (Kd.int .u8).R 5 (W.alloc (.cells #[] 5)) W.heap.size (fun j => W.heap.size ≤ j) (.slice (some ⟨W.heap.size, 0, none⟩) 0 0) [] := by
  refine ⟨fun k hk => ?_, [], ⟨rfl, .inr ⟨W.heap.size, 0, #[], rfl, Nat.le_refl _, World.alloc_heap_new W _, Nat.le_refl _, by unfold maxLen; omega, rfl, rfl⟩⟩, Reps.none _ _⟩
  have : W.heap.size = k := by simpa [Value.ownBlock] using hk
  omega
theorem bytes_fresh {W : World} {rg : Nat} {A : Option Addr} {m c : Nat} {x : ReelV} (h : ReelIs B W rg A m c x) : Calls Tryz.prog 22 #[ptr rg] W fun e w' => (∃ v, e = .returned v ∧ (Kd.int .u8).R 5 w' W.heap.size (fun j => W.heap.size ≤ j) v x.b) ∧ Below W.heap.size W w' := by
  have HN := Aside0.mk (none_calls h.rc h.fine.s0)
  have HR := Aside0.mk h
  have q0 := h.rc.c0
  obtain ⟨hm, hc⟩ := h.len
  have HM := Aside0.mk (And.intro hm h.fine.len)
  have HS := Aside0.mk h.fine.size1
  have q1 : (W.alloc (.cells #[] 5)).cell? ⟨rg, 0, none⟩ = some (.slice A m c) := (cell_alloc (blk_lt h.rc) 0).trans q0
  have HE := Aside0.mk (R_empty W)
  have HB := Aside0.mk (below_alloc (Below.refl W.heap.size W) (.cells #[] 5))
  have HC := Aside0.mk (show (Kd.int .u8).C (W.alloc (.cells #[] 5)) A m x.b by rw [hm]; exact Kd.C_below (Kd.R_reads' h.row).2.2 HB.out)
  clear h q0 hm hc
  go_enter Tryz.func22, Tryz.ntmps22
  go_wp2_with (first | (go_at_call 47; refine HN.out.mono ?_; rintro e w' ⟨rfl, rfl⟩) | (at_builtin; go_loud (refine Kd.R_append_rows (Kd.int .u8) (Rr := (Kd.int .u8).K (W.alloc (.cells #[] 5))) (w0 := W) W.heap.size rfl (.tmp 5) (.tmp 9) 45 5 (.int .u8 0) 1 rfl Tryz.underlying45 info5 rfl Nat.one_pos (by decide) (.slice (some ⟨W.heap.size, 0, none⟩) 0 0) [] x.b A m c (fun j => W.heap.size ≤ j) (fun _ => False) rfl rfl HE.out HC.out (fun _ _ h => h) (fun _ hk => hk.elim) (fun j hj => by have := HB.out.size; omega) HB.out HB.out.size (by have := HM.out; have := HS.out; simp; omega) ?_); intro v7 w7 hq7 hb7 hg7 hat7; have HQ7 := Aside0.mk hq7; have HB7 := Aside0.mk hb7; clear hq7 hb7 hg7 hat7))
  go_ret
  exact ⟨⟨_, rfl, by simpa using HQ7.out⟩, HB7.out⟩
def flipB (v b : Int) : Int := Go.bits .xor .u8 v (IntKind.u8.wrap (2 ^ b.toNat))
theorem flip_no {W : World} {rg : Nat} {A : Option Addr} {m c : Nat} {x : ReelV} (h : ReelIs B W rg A m c x) (i b : Int) (hno : ¬ (0 ≤ i ∧ i < (m : Int) ∧ 0 ≤ b ∧ b < 8)) : Calls Tryz.prog 23 #[ptr rg, .int .i64 i, .int .i64 b] W fun e w' => (∃ u, e = .returned u) ∧ W = w' := by
  have HN := Aside0.mk (none_calls h.rc h.fine.s0)
  have q0 := h.rc.c0
  clear h
  by_cases h1 : 0 ≤ i
  · by_cases h2 : i < (m : Int)
    · by_cases h3 : 0 ≤ b
      · have h4 : ¬ b < 8 := fun h4 => hno ⟨h1, h2, h3, h4⟩
        have d1 : decide ((0 : Int) ≤ i) = true := decide_eq_true h1
        have d2 : decide (i < (m : Int)) = true := decide_eq_true h2
        have d3 : decide ((0 : Int) ≤ b) = true := decide_eq_true h3
        have d4 : decide (b < 8) = false := decide_eq_false h4
        clear hno
        go_enter Tryz.func23, Tryz.ntmps23
        go_wp2_with (go_at_call 47; refine HN.out.mono ?_; rintro e w' ⟨rfl, rfl⟩)
        go_end0
        exact ⟨⟨_, rfl⟩, rfl⟩
      · have d1 : decide ((0 : Int) ≤ i) = true := decide_eq_true h1
        have d2 : decide (i < (m : Int)) = true := decide_eq_true h2
        have d3 : decide ((0 : Int) ≤ b) = false := decide_eq_false h3
        clear hno
        go_enter Tryz.func23, Tryz.ntmps23
        go_wp2_with (go_at_call 47; refine HN.out.mono ?_; rintro e w' ⟨rfl, rfl⟩)
        go_end0
        exact ⟨⟨_, rfl⟩, rfl⟩
    · have d1 : decide ((0 : Int) ≤ i) = true := decide_eq_true h1
      have d2 : decide (i < (m : Int)) = false := decide_eq_false h2
      clear hno
      go_enter Tryz.func23, Tryz.ntmps23
      go_wp2_with (go_at_call 47; refine HN.out.mono ?_; rintro e w' ⟨rfl, rfl⟩)
      go_end0
      exact ⟨⟨_, rfl⟩, rfl⟩
  · have d1 : decide ((0 : Int) ≤ i) = false := decide_eq_false h1
    clear hno
    go_enter Tryz.func23, Tryz.ntmps23
    go_wp2_with (go_at_call 47; refine HN.out.mono ?_; rintro e w' ⟨rfl, rfl⟩)
    go_end0
    exact ⟨⟨_, rfl⟩, rfl⟩
theorem flip_cell {W : World} {rg g : Nat} {m c : Nat} {x : ReelV} {i : Nat} {b v : Int} (h : Rec W rg (.slice (some ⟨g, 0, none⟩) m c) x) (hs : x.size ≠ 0) (hi : i < m) (hb0 : 0 ≤ b) (hb8 : b < 8) (hcell : W.cell? ⟨g, i, none⟩ = some (.int .u8 v)) (hfz : W.frozen? ⟨g, i, none⟩ = false) :
    Calls Tryz.prog 23 #[ptr rg, .int .i64 i, .int .i64 b] W fun e w' => (∃ u, e = .returned u) ∧ w' = W.drew.setCell ⟨g, i, none⟩ (.int .u8 (flipB v b)) := by
  have HN := Aside0.mk (none_calls h hs)
  have q0 := h.c0
  have d1 : decide ((0 : Int) ≤ (i : Int)) = true := decide_eq_true (by omega)
  have d2 : decide ((i : Int) < (m : Int)) = true := decide_eq_true (by omega)
  have d3 : decide ((0 : Int) ≤ b) = true := decide_eq_true hb0
  have d4 : decide (b < 8) = true := decide_eq_true hb8
  have i0 : (0 : Int) ≤ (i : Int) := by omega
  have i1 : (i : Int) < (m : Int) := by omega
  clear h hs
  go_enter Tryz.func23, Tryz.ntmps23
  go_wp2_with (go_at_call 47; refine HN.out.mono ?_; rintro e w' ⟨rfl, rfl⟩)
  go_still_tail 11, (by kernel_rfl)
  change wpList _ _ _ _ _ W.drew
  obtain ⟨w5, hw5⟩ : ∃ w5, w5 = W.drew := ⟨_, rfl⟩
  have hc5 : w5.cell? ⟨g, i, none⟩ = some (.int .u8 v) := by rw [hw5]; exact hcell
  have hf5 : w5.frozen? ⟨g, i, none⟩ = false := by rw [hw5]; exact hfz
  have HW5 := Aside0.mk hw5
  rw [← hw5]
  clear hw5 hcell hfz
  go_wp2_with fail
  go_end0
  exact ⟨⟨_, rfl⟩, by rw [← HW5.out]; rfl⟩
theorem flipB_all : (List.range 256).all (fun v => (List.range 8).all fun b => decide (0 ≤ flipB (v : Nat) (b : Nat) ∧ flipB (v : Nat) (b : Nat) ≤ 255)) = true := by decide +kernel
theorem flipB_range {v b : Int} (hv : 0 ≤ v ∧ v ≤ 255) (hb : 0 ≤ b ∧ b < 8) : 0 ≤ flipB v b ∧ flipB v b ≤ 255 := by
  have h := List.all_eq_true.1 (List.all_eq_true.1 flipB_all v.toNat (List.mem_range.2 (by omega))) b.toNat (List.mem_range.2 (by omega))
  rw [show ((v.toNat : Nat) : Int) = v by omega, show ((b.toNat : Nat) : Int) = b by omega] at h
  exact of_decide_eq_true h
def flipV (x : ReelV) (i b : Int) : ReelV := if 0 ≤ i ∧ i < (x.b.length : Int) ∧ 0 ≤ b ∧ b < 8 then { x with b := x.b.set i.toNat (flipB (x.b.getD i.toNat 0) b) } else x
theorem reel_flip {W : World} {rg : Nat} {A : Option Addr} {m c : Nat} {x : ReelV} (h : ReelIs B W rg A m c x) (i b : Int) : Calls Tryz.prog 23 #[ptr rg, .int .i64 i, .int .i64 b] W fun e w' => (∃ u, e = .returned u) ∧ ReelTo B W rg A m c m (flipV x i b) w' := by
  obtain ⟨hm, hc⟩ := h.len
  unfold flipV
  by_cases hc0 : 0 ≤ i ∧ i < (x.b.length : Int) ∧ 0 ≤ b ∧ b < 8
  · rw [if_pos hc0]
    obtain ⟨h1, h2, h3, h4⟩ := hc0
    obtain ⟨q, rfl⟩ : ∃ q : Nat, i = q := ⟨i.toNat, by omega⟩
    rw [Int.toNat_natCast]
    obtain ⟨g, rfl⟩ := h.addr (by omega)
    have hg : g ≠ rg := fun e => by
      obtain ⟨cells, hc5⟩ := own_type h.row g rfl
      exact type_ne hc5 h.rc (show (5 : Nat) ≠ 70 by decide) e
    have hcell := (Kd.R_celln (0 : Int) h.row (q : Int) (by omega) (by omega)).1
    obtain ⟨cells, hc5⟩ := own_type h.row g rfl
    refine (flip_cell h.rc h.fine.s0 (i := q) (v := x.b.getD q 0) (by omega) h3 h4 (by simpa [rdOf] using hcell) (blk_frozen hc5 _)).mono ?_
    rintro e w' ⟨hu, rfl⟩
    have hd : Below W.heap.size W W.drew := ⟨rfl, rfl, rfl, Nat.le_refl _, fun _ _ => rfl⟩
    have hrow1 := Kd.R_below h.row hd
    obtain ⟨hs, hgr⟩ := R_set1 hrow1 q (by omega) (flipB (x.b.getD q 0) b)
    have hr1 : Rec W.drew rg (.slice (some ⟨g, 0, none⟩) m c) x := h.rc
    refine ⟨hu, ⟨(hgr.block rg (blk_lt hr1) (fun e => hg (Option.some.inj e).symm)).trans hr1, h.low, hs, ⟨h.fine.size0, h.fine.size1, by simpa using h.fine.len, h.fine.fuse0, h.fine.fuse1⟩⟩, ?_, ?_⟩
    · exact (Kept.of_below hd (RF rg (some ⟨g, 0, none⟩) m c)).of_grown hgr (fun k e => .inl (.inr e.symm))
    · exact (hd.mono (by have := h.low; have := blk_lt h.rc; omega)).grown hgr (by have := h.low; have := blk_lt h.rc; have := hd.size; omega) (fun k e => by cases e; exact Kd.R_base h.row g rfl)
  · rw [if_neg hc0]
    refine (flip_no h i b (fun c => hc0 ⟨c.1, by omega, c.2.2⟩)).mono ?_
    rintro e w' ⟨hu, rfl⟩
    exact ⟨hu, h.to⟩
end
end Go.Proofs.YtoeeipkiadbnpaaGreatDoor.Lib10
end

section
namespace Go.Proofs.YtoeeipkiadbnpaaGreatDoor.Lib10
open Go.RowKit Go.Proofs.YtoeeipkiadbnpaaGreatDoorW.PrintWords Go.Proofs.YtoeeipkiadbnpaaGreatDoorW.PrintLast Go.Proofs.YtoeeipkiadbnpaaGreatDoorW.PrintMore
set_option linter.unusedVariables false
variable {B : Nat}
theorem StAt.keptT {S : Nat → Prop} {W W' : World} {g : Nat} {st : St} {F : Nat → Prop} (h : StAt S W g st) (hk : Kept W W' F) (hF : ∀ k, F k → ∃ cells t, W.heap[k]? = some (.cells cells t (0, 0)) ∧ t ≠ 3 ∧ t ≠ 128) : StAt S W' g st := by
  obtain ⟨m1, ⟨b1, b2, b3, s0, s1, s2, s3, n1, n2, n3, hr⟩, hp⟩ := h
  have hno : ∀ k cells t, W.heap[k]? = some (.cells cells t (0, 0)) → (t = 3 ∨ t = 128) → ¬ F k := fun k cells t hc ht hf => by
    obtain ⟨c2, t2, hc2, h3, h128⟩ := hF k hf
    rw [hc] at hc2
    injection hc2 with hc2
    injection hc2 with _ e2
    rcases ht with ht | ht
    · exact h3 (e2.symm.trans ht)
    · exact h128 (e2.symm.trans ht)
  have hmap : ∀ k m, MR W k m → ¬ F k := fun k m hm hf => by
    obtain ⟨c2, t2, hc2, _⟩ := hF k hf
    obtain ⟨D, ⟨es, clock, hb, _⟩, _⟩ := hm
    rw [hb] at hc2
    injection hc2 with hc2
    cases hc2
  exact ⟨m1, ⟨b1, b2, b3, s0, s1, s2, s3, n1, n2, n3, hr.same (hk.2 g (blk_lt hr.cells) (hno g _ _ hr.cells (.inr rfl))) (hk.2 b1 hr.p1.lt (hmap _ _ hr.p1)) (hk.2 b2 hr.p2.lt (hmap _ _ hr.p2)) (hk.2 b3 hr.p3.lt (hmap _ _ hr.p3))⟩, hp.same (fun k cells hc => hk.2 k (blk_lt hc) (hno k _ _ hc (.inl rfl)))⟩
/-- A library in memory. -/
structure LibS (B : Nat) (W : World) (lg sg rg : Nat) (vj : Value) (lines : List ByteArray) (st : St) : Prop where
  cells : W.heap[lg]? = some (.cells #[ptr sg, ptr rg, vj] 77 (0, 0))
  low : B ≤ lg
  jr : Kd.string.R 9 W B (fun _ => True) vj lines
  sat : StAt (fun k => B ≤ k) W sg st
  good : Good st
  short : ∀ l ∈ lines, l.size ≤ 60
  bk : (booksV lines).length ≤ 100000
theorem lines_le (l : List ByteArray) : 2 * l.length ≤ (booksV l).length := by
  induction l with
  | nil => exact Nat.le_refl _
  | cons x l ih =>
    have := writtenV_length x
    simp [booksV] at ih ⊢
    omega
theorem LibS.keptT {W W' : World} {lg sg rg : Nat} {vj : Value} {lines : List ByteArray} {st : St} (h : LibS B W lg sg rg vj lines st) {F : Nat → Prop} (hk : Kept W W' F) (hF : ∀ k, F k → ∃ cells t, W.heap[k]? = some (.cells cells t (0, 0)) ∧ t ≠ 3 ∧ t ≠ 128 ∧ t ≠ 77 ∧ t ≠ 9) : LibS B W' lg sg rg vj lines st := by
  have hno : ∀ k cells t, W.heap[k]? = some (.cells cells t (0, 0)) → (t = 77 ∨ t = 9) → ¬ F k := fun k cells t hc ht hf => by
    obtain ⟨c2, t2, hc2, _, _, h77, h9⟩ := hF k hf
    rw [hc] at hc2
    injection hc2 with hc2
    injection hc2 with _ e2
    rcases ht with ht | ht
    · exact h77 (e2.symm.trans ht)
    · exact h9 (e2.symm.trans ht)
  exact ⟨(hk.2 lg (blk_lt h.cells) (hno lg _ _ h.cells (.inl rfl))).trans h.cells, h.low, R_apart h.jr rfl (fun k cells hc => hk.2 k (blk_lt hc) (hno k _ _ hc (.inr rfl))), h.sat.keptT hk (fun k hf => by obtain ⟨c, t, h1, h2, h3, _⟩ := hF k hf; exact ⟨c, t, h1, h2, h3⟩), h.good, h.short, h.bk⟩
theorem LibS.kept {W W' : World} {lg sg rg : Nat} {vj : Value} {lines : List ByteArray} {st : St} (h : LibS B W lg sg rg vj lines st) {F : Nat → Prop} (hk : Kept W W' F) (hF : ∀ k, F k → ReelBlk W k) : LibS B W' lg sg rg vj lines st :=
  h.keptT hk (fun k hf => by obtain ⟨c, t, h1, rfl | rfl⟩ := hF k hf; exact ⟨c, 5, h1, by decide, by decide, by decide, by decide⟩; exact ⟨c, 70, h1, by decide, by decide, by decide, by decide⟩)
theorem LibS.below {W W' : World} {lg sg rg : Nat} {vj : Value} {lines : List ByteArray} {st : St} (h : LibS B W lg sg rg vj lines st) (hb : Below W.heap.size W W') : LibS B W' lg sg rg vj lines st := h.kept (Kept.of_below hb (fun _ => False)) (fun _ hk => hk.elim)
theorem LibS.read {W : World} {lg sg rg : Nat} {A4 : Option Addr} {c4 : Nat} {lines : List ByteArray} {st : St} {A : Option Addr} {m c : Nat} {x : ReelV} {B' : Nat} (h : LibS B W lg sg rg (.slice A4 lines.length c4) lines st) (hr : ReelIs B' W rg A m c x) : LibRead W lg sg rg A4 c4 lines A m c x := ⟨h.cells, hr.rc, (Kd.R_reads' h.jr).2.2⟩
theorem doS_line {st : St} {text : ByteArray} (h : (doS st text).1 = 0) : isLineB text = true := by
  unfold doS at h
  split at h
  · split at h
    · next r hr => exact (readV_many hr).2.2.2.2.2
    · cases h
  repeat (first
    | (split at h
       · split at h
         · next r hr => exact (readV_few hr).2.2.2.2
         · cases h)
    | cases h)
theorem readM_spec : ∀ (n : Nat) (s : St) (done : List ByteArray) (now rest : List Int), rest.length ≤ n → (∀ l ∈ done, l.size ≤ 60) →
    (∀ l ∈ (readM s done now rest).1, l.size ≤ 60) ∧ (booksV (readM s done now rest).1).length ≤ (booksV done).length + 2 * now.length + rest.length
  | 0, s, done, now, rest, hn, hd => by
    rw [readM_short _ _ _ _ (by omega)]
    exact ⟨hd, by show (booksV done).length ≤ _; omega⟩
  | n + 1, s, done, now, rest, hn, hd => by
    match rest, hn with
    | [], _ => rw [readM_short _ _ _ _ (by simp)]; exact ⟨hd, by show (booksV done).length ≤ _; omega⟩
    | [x], _ => rw [readM_short _ _ _ _ (by simp)]; exact ⟨hd, by show (booksV done).length ≤ _; omega⟩
    | lo :: hi :: rest, hn =>
      have hl : rest.length ≤ n := by simp at hn; omega
      by_cases h : (decV lo).2 = true ∧ (decV hi).2 = true
      · by_cases hx : joinV (decV lo).1 (decV hi).1 = 10
        · by_cases hz : (doS s (textOf now)).1 = 0
          · rw [readM_do h hx hz]
            have hsz : (textOf now).size = now.length := strOfNums_size now
            obtain ⟨h1, h2⟩ := readM_spec n (doS s (textOf now)).2 (done ++ [textOf now]) [] rest hl (fun l hm => by
              rcases List.mem_append.1 hm with hm | hm
              · exact hd l hm
              · rw [List.mem_singleton] at hm; subst hm; exact line_size (doS_line hz))
            refine ⟨h1, ?_⟩
            rw [booksV_snoc, List.length_append, writtenV_length, hsz] at h2
            simp at h2 ⊢
            omega
          · rw [readM_no h hx hz]; exact ⟨hd, by show (booksV done).length ≤ _; omega⟩
        · rw [readM_more h hx]
          obtain ⟨h1, h2⟩ := readM_spec n s done (now ++ [joinV (decV lo).1 (decV hi).1]) rest hl hd
          refine ⟨h1, ?_⟩
          simp at h2 ⊢
          omega
      · rw [readM_dead h]; exact ⟨hd, by show (booksV done).length ≤ _; omega⟩
/-- Opening: the journal and the state. -/
def openM (b : List Int) : List ByteArray × St := readM St.begin [] [] b
theorem openM_short (b : List Int) : ∀ l ∈ (openM b).1, l.size ≤ 60 := (readM_spec b.length St.begin [] [] b (Nat.le_refl _) (fun l h => by cases h)).1
theorem openM_books (b : List Int) : (booksV (openM b).1).length ≤ b.length := by
  have h := (readM_spec b.length St.begin [] [] b (Nat.le_refl _) (fun l h => by cases h)).2
  have e : (booksV ([] : List ByteArray)).length = 0 := rfl
  show (booksV (readM St.begin [] [] b).1).length ≤ _
  simp only [List.length_nil] at h
  omega
def Byt (b : List Int) : Prop := ∀ x ∈ b, 0 ≤ x ∧ x ≤ 255
theorem Filled.kept {w2 w3 : World} {lg : Nat} {v0 v1 v2 : Value} (h : Filled w2 w3 lg v0 v1 v2) : Kept w2 w3 (fun k => k = lg) := ⟨Nat.le_of_eq h.sz.symm, fun i _ hn => h.oth i hn⟩
section
set_option maxRecDepth 100000
set_option maxHeartbeats 2000000
theorem libOpen_on {W : World} {rg : Nat} {A : Option Addr} {m c : Nat} {x : ReelV} (h : ReelIs B W rg A m c x) (ho : x.off = false) (hx : Byt x.b) (hT : Tabs W) :
    Calls Tryz.prog 18 #[ptr rg] W fun e w' => e = .returned (.tuple #[ptr W.heap.size, .int .i64 0]) ∧ (∃ sg vj, LibS W.heap.size w' W.heap.size sg rg vj (openM x.b).1 (openM x.b).2) ∧ (∃ m', ReelIs B w' rg A m' c { x with b := x.b.take (booksV (openM x.b).1).length }) ∧ Kept W w' (RF rg A m c) ∧ Below B W w' := by
  have HR := Aside0.mk (ready_on h.rc h.fine.s0 ho)
  have H := Aside0.mk h
  obtain ⟨hm, hmc⟩ := h.len
  have h100 : m ≤ 100000 := by have := h.fine.len; have := h.fine.size1; omega
  have hb0 : Below W.heap.size W (W.alloc (.cells #[.pointer none, ptr rg, .slice none 0 0] 77)) := below_alloc (Below.refl _ _) _
  have HD1 := Aside0.mk (books_read (b := x.b) (show (Kd.int .u8).C (W.alloc (.cells #[.pointer none, ptr rg, .slice none 0 0] 77)) A m x.b by rw [hm]; exact Kd.C_below (Kd.R_reads' h.row).2.2 hb0) hm.symm hmc hx (by omega) (hT.below hb0 hT.low))
  have hsh := openM_short x.b
  have hbk := openM_books x.b
  obtain ⟨rd, hrd⟩ : ∃ r, r = openM x.b := ⟨_, rfl⟩
  unfold BooksPost at HD1
  change Aside0 (Calls _ _ _ _ (fun e w' => ∃ vj g, e = .returned (.tuple #[vj, ptr g]) ∧ Kd.string.R 9 w' _ _ vj (openM x.b).1 ∧ StAt _ w' g (openM x.b).2 ∧ Good (openM x.b).2 ∧ _)) at HD1
  rw [← hrd] at hsh hbk HD1 ⊢
  clear hrd
  obtain ⟨lines, st⟩ := rd
  simp only [] at hsh hbk HD1 ⊢
  have q0 := (cell_alloc (o := .cells #[.pointer none, ptr rg, .slice none 0 0] 77) (blk_lt h.rc) 0).trans h.rc.c0
  have HK := Aside0.mk (And.intro hsh (And.intro hbk (And.intro ho (show (booksV lines).length ≤ 100000 by omega))))
  have HA := Aside0.mk (World.alloc_heap_new W (.cells #[.pointer none, ptr rg, .slice none 0 0] 77))
  have HB0 := Aside0.mk hb0
  have HLn := Aside0.mk (show lines.length ≤ 1000000 by have := lines_le lines; omega)
  clear h hx hT hm hmc h100 hb0 hsh hbk ho
  go_enter Tryz.func18, Tryz.ntmps18
  go_wp2_with (first | (go_at_call 45; refine HR.out.mono ?_; rintro e w' ⟨rfl, rfl⟩) | (go_at_call 46; refine HD1.out.mono ?_; rintro e w2 ⟨vj, g, rfl, hj, hst, hgd, hb⟩; obtain ⟨A4, c4, rfl⟩ := Kd.R_slice hj; have hc2 := (hb.block W.heap.size (by simp)).trans HA.out; have k0 := (blk_cell hc2 0).trans rfl; have k2 := (blk_cell hc2 2).trans rfl; have z0 := blk_frozen hc2 0; have z2 := blk_frozen hc2 2; have HF := Aside0.mk (filled (ptr g) (.slice A4 lines.length c4) hc2); go_loud (have HL3 := Aside0.mk (show LibS W.heap.size ((w2.setCell ⟨W.heap.size, 2, none⟩ (.slice A4 lines.length c4)).setCell ⟨W.heap.size, 0, none⟩ (ptr g)) W.heap.size g rg (.slice A4 lines.length c4) lines st from ⟨HF.out.cells, Nat.le_refl _, R_apart (Kd.R_mono (Kd.R_lower hj (by simp)) (fun _ _ => trivial)) rfl (fun k cells hc => HF.out.oth k (type_ne hc hc2 (show (9 : Nat) ≠ 77 by decide))), (hst.mono (fun k hk => by simp at hk; omega)).keptT HF.out.kept (fun k hk => by subst hk; exact ⟨_, 77, hc2, by decide, by decide⟩), hgd, HK.out.1, HK.out.2.2.2⟩)); go_loud (have HR3 := Aside0.mk ((((H.out.below HB0.out).below hb).keptL HF.out.kept (fun k hk => by subst hk; exact ⟨_, 77, hc2, .inr rfl⟩)))); have HB2 := Aside0.mk hb; clear hj hst hgd hb hc2) | (go_at_call 42; go_loud (refine (books_calls (Kd.R_reads' HL3.out.jr).2.2 rfl HK.out.1 HLn.out).mono ?_); rintro e w4 ⟨⟨v5, rfl, hq5⟩, hb⟩; obtain ⟨A5, c5, rfl⟩ := Kd.R_slice hq5; have HB4 := Aside0.mk hb; have HR4 := Aside0.mk (HR3.out.below hb); have HL4 := Aside0.mk (HL3.out.below hb); clear hb hq5) | (go_at_call 33; go_loud (refine (reel_cut HR4.out ((booksV lines).length : Int)).mono ?_); rintro e w5 ⟨he, m', ht⟩; go_loud (have hcv : cutV x ((booksV lines).length : Int) = (0, { x with b := x.b.take (booksV lines).length }) := (by unfold cutV; rw [if_neg (by rw [HK.out.2.2.1]; decide), if_neg (by have := HK.out.2.1; omega), Int.toNat_natCast])); rw [hcv] at he ht; subst he; have HT5 := Aside0.mk ht; clear ht hcv))
  go_ret2
  have hw0 : W.heap.size + 1 ≤ w2.heap.size := by have := HB2.out.size; simpa using this
  have hF := HF.out
  have h5 := HT5.out
  refine ⟨rfl, ⟨g, _, HL4.out.kept h5.kept (fun k hk => HR4.out.blk k hk)⟩, ⟨m', h5.reel⟩, ?_, ?_⟩
  · have k1 : Kept W w4 (RF rg A m c) := by
      refine ⟨by have := HB4.out.size; have := hF.sz; omega, fun i hi hn => ?_⟩
      rw [HB4.out.block i (by have := hF.sz; omega), hF.oth i (by omega), HB2.out.block i (by simp; omega), Below.heap_alloc _ _ _ hi]
    exact k1.then_ h5.kept (fun j hj => .inl hj)
  · have hlow : B ≤ W.heap.size := by have := H.out.low; have := blk_lt H.out.rc; omega
    exact ((((HB0.out.mono hlow).trans (HB2.out.mono (by simp; omega))).trans (hF.bel.mono hlow)).trans (HB4.out.mono (by have := hF.sz; omega))).trans h5.bel
end
end Go.Proofs.YtoeeipkiadbnpaaGreatDoor.Lib10
end

section
namespace Go.Proofs.YtoeeipkiadbnpaaGreatDoor.Lib10
open Go.RowKit Go.Proofs.YtoeeipkiadbnpaaGreatDoorW.PrintWords Go.Proofs.YtoeeipkiadbnpaaGreatDoorW.PrintLast Go.Proofs.YtoeeipkiadbnpaaGreatDoorW.PrintMore
set_option linter.unusedVariables false
variable {B : Nat}
/-- The blocks that a library's change may write. -/
def LF (lg : Nat) (vj : Value) (rg : Nat) (A : Option Addr) (m c : Nat) (k : Nat) : Prop := (k = lg ∨ some k = vj.ownBlock) ∨ RF rg A m c k
/-- A change under way. -/
structure DoT (B : Nat) (W : World) (lg sg rg g' : Nat) (A4 : Option Addr) (c4 : Nat) (lines : List ByteArray) (st st' : St) (A : Option Addr) (m c : Nat) (x : ReelV) (w : World) : Prop where
  lib : LibS B w lg sg rg (.slice A4 lines.length c4) lines st
  reel : ReelIs B w rg A m c x
  nst : StAt (fun k => B ≤ k) w g' st'
  kept : Kept W w (LF lg (.slice A4 lines.length c4) rg A m c)
  bel : Below B W w
section
variable {W w w' : World} {lg sg rg g' : Nat} {A4 : Option Addr} {c4 : Nat} {lines : List ByteArray} {st st' : St} {A : Option Addr} {m c : Nat} {x : ReelV}
theorem DoT.below (h : DoT B W lg sg rg g' A4 c4 lines st st' A m c x w) (hb : Below w.heap.size w w') : DoT B W lg sg rg g' A4 c4 lines st st' A m c x w' :=
  ⟨h.lib.below hb, h.reel.below hb, h.nst.below hb, h.kept.then_ (Kept.of_below hb (fun _ => False)) (fun _ hk => hk.elim), h.bel.trans (hb.mono (by have := blk_lt h.lib.cells; have := h.lib.low; omega))⟩
theorem DoT.read (h : DoT B W lg sg rg g' A4 c4 lines st st' A m c x w) : LibRead w lg sg rg A4 c4 lines A m c x := h.lib.read h.reel
theorem DoT.to (h : DoT B W lg sg rg g' A4 c4 lines st st' A m c x w) (ht : ReelTo B w rg A m c m x w') : DoT B W lg sg rg g' A4 c4 lines st st' A m c x w' :=
  ⟨h.lib.kept ht.kept h.reel.blk, ht.reel, h.nst.keptT ht.kept (fun k hf => by obtain ⟨cs, t, h1, rfl | rfl⟩ := h.reel.blk k hf; exact ⟨cs, 5, h1, by decide, by decide⟩; exact ⟨cs, 70, h1, by decide, by decide⟩), h.kept.then_ ht.kept (fun _ hk => .inl (.inr hk)), h.bel.trans ht.bel⟩
theorem DoT.keep (h : Aside0 (DoT B W lg sg rg g' A4 c4 lines st st' A m c x w)) : w.cell? ⟨lg, 0, none⟩ = some (ptr sg) ∧ w.cell? ⟨lg, 1, none⟩ = some (ptr rg) ∧ w.cell? ⟨lg, 2, none⟩ = some (.slice A4 lines.length c4) ∧ w.cell? ⟨rg, 0, none⟩ = some (.slice A m c) ∧ w.cell? ⟨rg, 1, none⟩ = some (.int .i64 x.size) ∧ Aside0 (DoT B W lg sg rg g' A4 c4 lines st st' A m c x w) :=
  ⟨(blk_cell h.out.lib.cells 0).trans rfl, (blk_cell h.out.lib.cells 1).trans rfl, (blk_cell h.out.lib.cells 2).trans rfl, h.out.reel.rc.c0, h.out.reel.rc.c1, h⟩
end
/-- What Do answers: the reply, the error, the reel, the journal, the state. -/
structure DoRes where
  reply : ByteArray
  err : Int
  reel : ReelV
  lines : List ByteArray
  st : St
/-- Do's end. -/
def LibDoEnd (B : Nat) (W : World) (lg rg : Nat) (vj : Value) (A : Option Addr) (m c : Nat) (r : DoRes) (e : Ending) (w' : World) : Prop :=
  e = .returned (.tuple #[.string r.reply, .int .i64 r.err]) ∧ (∃ sg' vj' A' m' c', LibS B w' lg sg' rg vj' r.lines r.st ∧ ReelIs B w' rg A' m' c' r.reel ∧ ∀ k, LF lg vj' rg A' m' c' k → LF lg vj rg A m c k ∨ W.heap.size ≤ k) ∧ Kept W w' (LF lg vj rg A m c) ∧ Below B W w'
theorem DoT.same {W w : World} {lg sg rg g' : Nat} {A4 : Option Addr} {c4 : Nat} {lines : List ByteArray} {st st' : St} {A : Option Addr} {m c : Nat} {x : ReelV} {z : Int} (h : DoT B W lg sg rg g' A4 c4 lines st st' A m c x w) : LibDoEnd B W lg rg (.slice A4 lines.length c4) A m c ⟨ByteArray.empty, z, x, lines, st⟩ (.returned (.tuple #[.string ByteArray.empty, .int .i64 z])) w :=
  ⟨rfl, ⟨sg, _, A, m, c, h.lib, h.reel, fun _ hk => .inl hk⟩, h.kept, h.bel⟩
theorem StAt.keptL {S : Nat → Prop} {W W' : World} {g : Nat} {st : St} {F : Nat → Prop} (h : StAt S W g st) (hk : Kept W W' F) (hF : ∀ k, F k → LibBlk W k) : StAt S W' g st :=
  h.keptT hk (fun k hf => by obtain ⟨c, t, h1, rfl | rfl⟩ := hF k hf; exact ⟨c, 9, h1, by decide, by decide⟩; exact ⟨c, 77, h1, by decide, by decide⟩)
section
set_option maxRecDepth 100000
set_option maxHeartbeats 2000000
end
end Go.Proofs.YtoeeipkiadbnpaaGreatDoor.Lib10
end

section
namespace Go.Proofs.YtoeeipkiadbnpaaGreatDoor.Lib10
open Go.RowKit Go.Proofs.YtoeeipkiadbnpaaGreatDoorW.PrintWords Go.Proofs.YtoeeipkiadbnpaaGreatDoorW.PrintLast Go.Proofs.YtoeeipkiadbnpaaGreatDoorW.PrintMore
set_option linter.unusedVariables false
set_option maxRecDepth 100000 in
theorem code_dec_all : (List.range 16).all (fun d => decide (decV (codeF (d : Nat)) = (((d : Nat) : Int), true))) = true := by decide +kernel
theorem code_dec {d : Int} (h0 : 0 ≤ d) (h1 : d ≤ 15) : decV (codeF d) = (d, true) := by
  have h := List.all_eq_true.1 code_dec_all d.toNat (List.mem_range.2 (by omega))
  rw [show ((d.toNat : Nat) : Int) = d by omega] at h
  exact of_decide_eq_true h
set_option maxRecDepth 100000 in
theorem flip_dec_all : (List.range 16).all (fun d => (List.range 8).all fun k => decide (decV (flipB (codeF (d : Nat)) (k : Nat)) = (((d : Nat) : Int), true))) = true := by decide +kernel
theorem flip_dec {d k : Int} (h0 : 0 ≤ d) (h1 : d ≤ 15) (k0 : 0 ≤ k) (k8 : k < 8) : decV (flipB (codeF d) k) = (d, true) := by
  have h := List.all_eq_true.1 (List.all_eq_true.1 flip_dec_all d.toNat (List.mem_range.2 (by omega))) k.toNat (List.mem_range.2 (by omega))
  rw [show ((d.toNat : Nat) : Int) = d by omega, show ((k.toNat : Nat) : Int) = k by omega] at h
  exact of_decide_eq_true h
theorem halves_all : (List.range 256).all (fun b => decide (joinV (lowF (b : Nat)) ((b : Nat) / 16) = (b : Nat) ∧ 0 ≤ lowF (b : Nat) ∧ lowF (b : Nat) ≤ 15)) = true := by decide +kernel
theorem halves {b : Int} (h : 0 ≤ b ∧ b ≤ 255) : joinV (lowF b) (b / 16) = b ∧ 0 ≤ lowF b ∧ lowF b ≤ 15 := by
  have h1 := List.all_eq_true.1 halves_all b.toNat (List.mem_range.2 (by omega))
  rw [show ((b.toNat : Nat) : Int) = b by omega] at h1
  exact of_decide_eq_true h1
theorem bytesOf_text (s : ByteArray) : textOf (bytesOf s) = s := by
  unfold textOf
  apply ByteArray.ext
  apply Array.toList_inj.1
  rw [strOfNums_data]
  unfold bytesOf
  rw [List.map_map]
  conv => rhs; rw [← List.map_id s.data.toList]
  congr 1
  funext u
  simp
theorem byt_bytesOf (s : ByteArray) : ∀ b ∈ bytesOf s, 0 ≤ b ∧ b ≤ 255 := fun b hb => by
  obtain ⟨i, hi⟩ := List.mem_iff_getElem?.1 hb
  exact bytesOf_range s i b hi
theorem dec_lo {b : Int} (h : 0 ≤ b ∧ b ≤ 255) : decV (codeF (lowF b)) = (lowF b, true) := code_dec (halves h).2.1 (halves h).2.2
theorem dec_hi {b : Int} (h : 0 ≤ b ∧ b ≤ 255) : decV (codeF (b / 16)) = (b / 16, true) := code_dec (by omega) (by omega)
theorem read_bytes (s : St) (done : List ByteArray) (rest : List Int) : ∀ (bs now : List Int), (∀ b ∈ bs, (0 ≤ b ∧ b ≤ 255) ∧ b ≠ 10) → readM s done now (writtenI bs ++ rest) = readM s done (now ++ bs) rest
  | [], now, _ => by simp [writtenI]
  | b :: bs, now, h => by
    have hb := h b List.mem_cons_self
    have e : writtenI (b :: bs) ++ rest = codeF (lowF b) :: codeF (b / 16) :: (writtenI bs ++ rest) := by simp [writtenI]
    have hd : (decV (codeF (lowF b))).2 = true ∧ (decV (codeF (b / 16))).2 = true := by rw [dec_lo hb.1, dec_hi hb.1]; exact ⟨rfl, rfl⟩
    have hj : joinV (decV (codeF (lowF b))).1 (decV (codeF (b / 16))).1 = b := by rw [dec_lo hb.1, dec_hi hb.1]; exact (halves hb.1).1
    rw [e, readM_more hd (by rw [hj]; exact hb.2), hj, read_bytes s done rest bs (now ++ [b]) (fun x hx => h x (List.mem_cons_of_mem _ hx)), List.append_assoc]
    rfl
theorem lineB_eq (line : ByteArray) : lineB line = bytesOf line ++ [10] := by
  unfold lineB bytesOf
  rw [ByteArray.data_append, Array.toList_append, List.map_append]
  rfl
theorem writtenI_append (a b : List Int) : writtenI (a ++ b) = writtenI a ++ writtenI b := by simp [writtenI]
theorem line_bytes {line : ByteArray} (h : isLineB line = true) : ∀ b ∈ bytesOf line, (0 ≤ b ∧ b ≤ 255) ∧ b ≠ 10 := fun b hb => by
  refine ⟨byt_bytesOf line b hb, fun e => ?_⟩
  unfold isLineB at h
  simp only [Bool.and_eq_true, Bool.not_eq_true'] at h
  have h2 := List.any_eq_false.1 h.2.2 b hb
  rw [e] at h2
  exact h2 rfl
theorem read_line_end {s : St} {done : List ByteArray} {line : ByteArray} {rest : List Int} (h : (doS s line).1 = 0) : readM s done [] (writtenV line ++ rest) = readM (doS s line).2 (done ++ [line]) [] rest := by
  have hl := doS_line h
  unfold writtenV
  rw [lineB_eq, writtenI_append, List.append_assoc, read_bytes _ _ _ _ _ (line_bytes hl), List.nil_append]
  have e : writtenI [10] ++ rest = codeF (lowF 10) :: codeF ((10 : Int) / 16) :: rest := by simp [writtenI]
  have h10 : (0 : Int) ≤ 10 ∧ (10 : Int) ≤ 255 := by decide
  have hd : (decV (codeF (lowF 10))).2 = true ∧ (decV (codeF ((10 : Int) / 16))).2 = true := by rw [dec_lo h10, dec_hi h10]; exact ⟨rfl, rfl⟩
  have hj : joinV (decV (codeF (lowF 10))).1 (decV (codeF ((10 : Int) / 16))).1 = 10 := by rw [dec_lo h10, dec_hi h10]; exact (halves h10).1
  rw [e, readM_do hd hj (by rw [bytesOf_text]; exact h), bytesOf_text]
/-- The states that lines lead to, from the beginning. -/
inductive Reach : List ByteArray → St → Prop
  | nil : Reach [] St.begin
  | snoc {lines : List ByteArray} {st : St} {line : ByteArray} : Reach lines st → (doS st line).1 = 0 → Reach (lines ++ [line]) (doS st line).2
theorem Reach.read {lines : List ByteArray} {st : St} (h : Reach lines st) : ∀ rest, readM St.begin [] [] (booksV lines ++ rest) = readM st lines [] rest := by
  induction h with
  | nil => intro rest; rfl
  | snoc h hd ih =>
    intro rest
    rw [booksV_snoc, List.append_assoc, ih, read_line_end hd]
theorem Reach.open {lines : List ByteArray} {st : St} (h : Reach lines st) : openM (booksV lines) = (lines, st) := by
  have h1 := h.read []
  rw [List.append_nil] at h1
  unfold openM
  rw [h1]
  exact readM_short _ _ _ _ (by decide)
/-- Reading hangs on what the bytes read as alone. -/
theorem readM_congr : ∀ (n : Nat) (s : St) (done : List ByteArray) (now r1 r2 : List Int), r1.length ≤ n → r1.map decV = r2.map decV → readM s done now r1 = readM s done now r2
  | 0, s, done, now, r1, r2, hn, h => by
    have hl := congrArg List.length h
    simp only [List.length_map] at hl
    rw [readM_short _ _ _ _ (by omega), readM_short _ _ _ _ (by omega)]
  | n + 1, s, done, now, r1, r2, hn, h => by
    have hl := congrArg List.length h
    simp only [List.length_map] at hl
    match r1, r2, hn, h, hl with
    | [], _, _, _, hl => rw [readM_short _ _ _ _ (by simp), readM_short _ _ _ _ (by simp at hl; omega)]
    | [x], _, _, _, hl => rw [readM_short _ _ _ _ (by simp), readM_short _ _ _ _ (by simp at hl; omega)]
    | a :: b :: l1, [], _, _, hl => simp at hl
    | a :: b :: l1, [y], _, _, hl => simp at hl
    | a :: b :: l1, c :: d :: l2, hn, h, _ =>
      simp only [List.map_cons, List.cons.injEq] at h
      obtain ⟨e1, e2, e3⟩ := h
      have ih := fun s done now => readM_congr n s done now l1 l2 (by simp at hn; omega) e3
      by_cases hd : (decV a).2 = true ∧ (decV b).2 = true
      · have hd2 : (decV c).2 = true ∧ (decV d).2 = true := by rw [← e1, ← e2]; exact hd
        by_cases hx : joinV (decV a).1 (decV b).1 = 10
        · have hx2 : joinV (decV c).1 (decV d).1 = 10 := by rw [← e1, ← e2]; exact hx
          by_cases hz : (doS s (textOf now)).1 = 0
          · rw [readM_do hd hx hz, readM_do hd2 hx2 hz, ih]
          · rw [readM_no hd hx hz, readM_no hd2 hx2 hz]
        · have hx2 : joinV (decV c).1 (decV d).1 ≠ 10 := by rw [← e1, ← e2]; exact hx
          rw [readM_more hd hx, readM_more hd2 hx2, e1, e2, ih]
      · have hd2 : ¬ ((decV c).2 = true ∧ (decV d).2 = true) := by rw [← e1, ← e2]; exact hd
        rw [readM_dead hd, readM_dead hd2]
theorem openM_congr {b1 b2 : List Int} (h : b1.map decV = b2.map decV) : openM b1 = openM b2 := readM_congr b1.length _ _ _ _ _ (Nat.le_refl _) h
/-- A byte is a code byte. -/
def IsCode (c : Int) : Prop := ∃ d, 0 ≤ d ∧ d ≤ 15 ∧ c = codeF d
theorem IsCode.flip {c k : Int} (h : IsCode c) (k0 : 0 ≤ k) (k8 : k < 8) : decV (flipB c k) = decV c := by
  obtain ⟨d, h0, h1, rfl⟩ := h
  rw [flip_dec h0 h1 k0 k8, code_dec h0 h1]
theorem code_written (line : ByteArray) : ∀ c ∈ writtenV line, IsCode c := fun c hc => by
  unfold writtenV writtenI at hc
  obtain ⟨b, hb, hc⟩ := List.mem_flatMap.1 hc
  have hr := byt_bytesOf (line ++ (⟨#[10]⟩ : ByteArray)) b hb
  simp only [List.mem_cons, List.mem_nil_iff, or_false] at hc
  rcases hc with rfl | rfl
  · exact ⟨_, (halves hr).2.1, (halves hr).2.2, rfl⟩
  · exact ⟨_, by omega, by omega, rfl⟩
theorem code_books (lines : List ByteArray) : ∀ c ∈ booksV lines, IsCode c := fun c hc => by
  obtain ⟨l, _, hc⟩ := List.mem_flatMap.1 hc
  exact code_written l c hc
theorem code_byt {c : Int} (h : IsCode c) : 0 ≤ c ∧ c ≤ 255 := by
  obtain ⟨d, h0, h1, rfl⟩ := h
  have := code_at (b := d) h0 (by omega)
  have e : lowF d = d := by
    have h2 : (List.range 16).all (fun d => decide (lowF (d : Nat) = (d : Nat))) = true := by decide +kernel
    have h3 := List.all_eq_true.1 h2 d.toNat (List.mem_range.2 (by omega))
    rw [show ((d.toNat : Nat) : Int) = d by omega] at h3
    exact of_decide_eq_true h3
  rw [e] at this
  exact ⟨this.2.2.1, this.2.2.2.1⟩
end Go.Proofs.YtoeeipkiadbnpaaGreatDoor.Lib10
end

section
namespace Go.Proofs.YtoeeipkiadbnpaaGreatDoor.Lib10
open Go.RowKit Go.Proofs.YtoeeipkiadbnpaaGreatDoorW.PrintWords Go.Proofs.YtoeeipkiadbnpaaGreatDoorW.PrintLast Go.Proofs.YtoeeipkiadbnpaaGreatDoorW.PrintMore
set_option linter.unusedVariables false
variable {B : Nat}
/-- The reel of a library that has done lines. -/
def mkReel (size : Int) (lines : List ByteArray) : ReelV := ⟨booksV lines, size, false, -1⟩
section
set_option maxRecDepth 100000
set_option maxHeartbeats 2000000
/-- A library that has done lines, on its reel. -/
structure Ran (B : Nat) (w : World) (lg rg : Nat) (lines : List ByteArray) (st : St) : Prop where
  reach : Reach lines st
  at_ : ∃ sg vj A m c, LibS B w lg sg rg vj lines st ∧ ReelIs B w rg A m c (mkReel 20000 lines)
theorem Ran.below {w w' : World} {lg rg : Nat} {lines : List ByteArray} {st : St} (h : Ran B w lg rg lines st) (hb : Below w.heap.size w w') : Ran B w' lg rg lines st := by
  obtain ⟨sg, vj, A, m, c, h1, h2⟩ := h.at_
  exact ⟨h.reach, sg, vj, A, m, c, h1.below hb, h2.below hb⟩
end
end Go.Proofs.YtoeeipkiadbnpaaGreatDoor.Lib10
end

section
namespace Go.Proofs.YtoeeipkiadbnpaaGreatDoor.Lib10
open Go.RowKit Go.Proofs.YtoeeipkiadbnpaaGreatDoorW.PrintWords Go.Proofs.YtoeeipkiadbnpaaGreatDoorW.PrintLast Go.Proofs.YtoeeipkiadbnpaaGreatDoorW.PrintMore
set_option linter.unusedVariables false
variable {B : Nat}
theorem LibS.grow {W W' : World} {lg sg rg : Nat} {vj : Value} {lines : List ByteArray} {st : St} {row : Option Nat} (h : LibS B W lg sg rg vj lines st) (hg : W.grownBy W' row) (hr : ∀ k, some k = row → (∃ cells, W.heap[k]? = some (.cells cells 9 (0, 0))) ∧ some k ≠ vj.ownBlock) : LibS B W' lg sg rg vj lines st := by
  refine ⟨(hg.block lg (blk_lt h.cells) (fun e => by obtain ⟨⟨cells, hc⟩, _⟩ := hr lg e; exact type_ne hc h.cells (show (9 : Nat) ≠ 77 by decide) rfl)).trans h.cells, h.low, ?_, h.sat.grown hg (fun k hk => by obtain ⟨⟨cells, hc⟩, _⟩ := hr k hk; exact ⟨cells, 9, hc, by decide, by decide⟩), h.good, h.short, h.bk⟩
  have h2 : Kd.string.R 9 W B (fun k => some k = vj.ownBlock) vj lines := by
    refine ⟨fun k hk => hk.symm, ?_⟩
    obtain ⟨_, ho⟩ := h.jr
    exact ho
  exact Kd.R_mono (R_same h2 rfl (fun k hk hl => hg.block k hl (fun e => (hr k e).2 hk))) (fun _ _ => trivial)
theorem LF.lt {W : World} {lg sg rg : Nat} {vj : Value} {lines : List ByteArray} {st : St} {A : Option Addr} {m c : Nat} {x : ReelV} (h1 : LibS B W lg sg rg vj lines st) (h2 : ReelIs B W rg A m c x) : ∀ k, LF lg vj rg A m c k → k < W.heap.size := by
  rintro k ((rfl | hk) | hk)
  · exact blk_lt h1.cells
  · obtain ⟨cells, hc⟩ := own_type h1.jr k hk
    exact blk_lt hc
  · exact (h2.own k hk).2
theorem add_block (a : Addr) (n : Nat) : (a.add n).block = a.block := by unfold Addr.add; split <;> rfl
/-- Bytes some of which have one bit turned over: which, stands in met. -/
structure Flipped (b0 b : List Int) (met : List Bool) : Prop where
  len : b.length = b0.length
  mlen : met.length = b0.length
  no : ∀ i, met.getD i false = false → b.getD i 0 = b0.getD i 0
  yes : ∀ i, met.getD i false = true → ∃ k, 0 ≤ k ∧ k < 8 ∧ b.getD i 0 = flipB (b0.getD i 0) k
theorem getD_set {α : Type} (l : List α) (i j : Nat) (v d : α) (hi : i < l.length) : (l.set i v).getD j d = if j = i then v else l.getD j d := by
  simp only [List.getD_eq_getElem?_getD, List.getElem?_set]
  by_cases h : j = i
  · subst h; simp [hi]
  · rw [if_neg (fun e => h e.symm), if_neg h]
theorem Flipped.step {b0 b : List Int} {met : List Bool} (h : Flipped b0 b met) {i : Nat} (hi : i < b0.length) {k : Int} (k0 : 0 ≤ k) (k8 : k < 8) (hm : met.getD i false = false) : Flipped b0 (b.set i (flipB (b.getD i 0) k)) (met.set i true) := by
  refine ⟨by rw [List.length_set]; exact h.len, by rw [List.length_set]; exact h.mlen, fun j hj => ?_, fun j hj => ?_⟩
  · rw [getD_set _ _ _ _ _ (by rw [h.mlen]; exact hi)] at hj
    rw [getD_set _ _ _ _ _ (by rw [h.len]; exact hi)]
    by_cases e : j = i
    · rw [if_pos e] at hj; cases hj
    · rw [if_neg e] at hj ⊢; exact h.no j hj
  · rw [getD_set _ _ _ _ _ (by rw [h.mlen]; exact hi)] at hj
    rw [getD_set _ _ _ _ _ (by rw [h.len]; exact hi)]
    by_cases e : j = i
    · rw [if_pos e]; subst e; exact ⟨k, k0, k8, by rw [h.no j hm]⟩
    · rw [if_neg e] at hj ⊢; exact h.yes j hj
theorem Flipped.decs {b0 b : List Int} {met : List Bool} (h : Flipped b0 b met) (hc : ∀ x ∈ b0, IsCode x) : b.map decV = b0.map decV := by
  apply List.ext_getElem?
  intro i
  rw [List.getElem?_map, List.getElem?_map]
  by_cases hi : i < b0.length
  · have hib : i < b.length := by rw [h.len]; exact hi
    rw [List.getElem?_eq_getElem hi, List.getElem?_eq_getElem hib]
    have e1 : b.getD i 0 = b[i] := by simp [List.getD_eq_getElem?_getD, hib]
    have e2 : b0.getD i 0 = b0[i] := by simp [List.getD_eq_getElem?_getD, hi]
    simp only [Option.map_some, Option.some.injEq]
    cases hm : met.getD i false with
    | false => rw [← e1, ← e2, h.no i hm]
    | true =>
      obtain ⟨k, k0, k8, e⟩ := h.yes i hm
      rw [← e1, ← e2, e, e2]
      exact (hc _ (List.getElem_mem hi)).flip k0 k8
  · rw [List.getElem?_eq_none (l := b) (by have := h.len; omega), List.getElem?_eq_none (l := b0) (by omega)]
/-- Turning bits over. -/
structure Flips (B : Nat) (W0 w : World) (rg : Nat) (A : Option Addr) (m c : Nat) (x : ReelV) (AM : Option Addr) (nb cM : Nat) (A10 : Option Addr) (c10 : Nat) (lines : List ByteArray) (y : ReelV) (met : List Bool) : Prop where
  reel : ReelIs B w rg A m c y
  fl : Flipped x.b y.b met
  off : y.off = false
  met : Kd.bool.R 4 w B (fun _ => True) (.slice AM nb cM) met
  sure : Kd.string.R 9 w B (fun _ => True) (.slice A10 lines.length c10) lines
  tabs : Tabs w
  bel : Below B W0 w
theorem Flipped.byt {b0 b : List Int} {met : List Bool} (h : Flipped b0 b met) (hc : ∀ x ∈ b0, IsCode x) : Byt b := fun x hx => by
  obtain ⟨i, hi, rfl⟩ := List.mem_iff_getElem.1 hx
  have hi0 : i < b0.length := by rw [← h.len]; exact hi
  have e1 : b.getD i 0 = b[i] := by simp [List.getD_eq_getElem?_getD, hi]
  have e2 : b0.getD i 0 = b0[i] := by simp [List.getD_eq_getElem?_getD, hi0]
  have hb := code_byt (hc _ (List.getElem_mem hi0))
  cases hm : met.getD i false with
  | false => rw [← e1, h.no i hm, e2]; exact hb
  | true =>
    obtain ⟨k, k0, k8, e⟩ := h.yes i hm
    rw [← e1, e, e2]
    exact flipB_range hb ⟨k0, k8⟩
theorem Flips.below {W0 w w' : World} {rg : Nat} {A : Option Addr} {m c : Nat} {x : ReelV} {AM : Option Addr} {nb cM : Nat} {A10 : Option Addr} {c10 : Nat} {lines : List ByteArray} {y : ReelV} {met : List Bool} (h : Flips B W0 w rg A m c x AM nb cM A10 c10 lines y met) (hb : Below w.heap.size w w') (h9 : 9 ≤ B) : Flips B W0 w' rg A m c x AM nb cM A10 c10 lines y met :=
  ⟨h.reel.below hb, h.fl, h.off, Kd.R_below h.met hb, Kd.R_below h.sure hb, h.tabs.below (hb.mono (by have := h.reel.low; have := blk_lt h.reel.rc; omega)) h9, h.bel.trans (hb.mono (by have := h.reel.low; have := blk_lt h.reel.rc; omega))⟩
section
set_option maxRecDepth 100000
set_option maxHeartbeats 2000000
theorem wrap_step (j : Nat) (h : j < 1048576) : wrap64 ((j : Int) + 1) = ((j + 1 : Nat) : Int) := by unfold wrap64; omega
end
end Go.Proofs.YtoeeipkiadbnpaaGreatDoor.Lib10
end

section
namespace Go.Proofs.YtoeeipkiadbnpaaGreatDoor.Lib10
open Go.RowKit Go.Proofs.YtoeeipkiadbnpaaGreatDoorW.PrintWords Go.Proofs.YtoeeipkiadbnpaaGreatDoorW.PrintLast Go.Proofs.YtoeeipkiadbnpaaGreatDoorW.PrintMore
set_option linter.unusedVariables false
section
set_option maxRecDepth 100000
set_option maxHeartbeats 2000000
end
end Go.Proofs.YtoeeipkiadbnpaaGreatDoor.Lib10
end
