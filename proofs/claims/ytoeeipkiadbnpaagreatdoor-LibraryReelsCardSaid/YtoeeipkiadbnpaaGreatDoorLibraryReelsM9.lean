/- Texts that the proof of LibraryReels needs, put together in build order by this session's program (wip/tools/claimtrim.py). -/
import Derived.Test.YtoeeipkiadbnpaaGreatDoorLibraryReelsM7
import Derived.Test.YtoeeipkiadbnpaaGreatDoorLibraryReelsM8
import Derived.Lib.OthersKept
import Derived.Outline
section
namespace Go.Proofs.YtoeeipkiadbnpaaGreatDoor.Lib10
open Go.RowKit Go.Proofs.YtoeeipkiadbnpaaGreatDoorW.PrintWords Go.Proofs.YtoeeipkiadbnpaaGreatDoorW.PrintLast Go.Proofs.YtoeeipkiadbnpaaGreatDoorW.PrintMore
set_option linter.unusedVariables false
def letterB (c : UInt8) : Bool := decide (97 ≤ c.toNat ∧ c.toNat ≤ 122)
def isNameB (w : List UInt8) : Bool := w.all letterB && (!w.isEmpty && decide (w.length ≤ 8))
section
set_option maxRecDepth 100000
set_option maxHeartbeats 1000000
theorem isName_calls (s : ByteArray) (W : World) (hs : s.size ≤ 140737488355328) : Calls Tryz.prog 116 #[.string s] W fun e w' => e = .returned (.bool (isNameB s.data.toList)) ∧ Below W.heap.size W w' := by
  go_enter Tryz.func116, Tryz.ntmps116
  go_wp2
  go_loopw [] (fun wr => ∃ pos : Nat, pos ≤ s.size ∧ Aside0 ((s.data.toList.take pos).all letterB = true) ∧ Aside0 (wr.heap[W.heap.size]? = some (.stringIter s pos)) ∧ Aside0 (Below W.heap.size W wr)) (fun wr => s.size - wr.iterPos W.heap.size)
  case atStart =>
    exact ⟨0, Nat.zero_le _, ⟨rfl⟩, ⟨World.iter_heap W s 0⟩, ⟨(Below.refl _ W).alloc (Nat.le_refl _) _⟩⟩
  case round =>
    obtain ⟨pos, hpos, hall, hit, hbw⟩ := hrel
    have hm := Aside0.mk (show s.size - wr.iterPos W.heap.size = s.size - pos by simp only [World.iterPos, hit.out])
    by_cases hp : pos < s.size
    · have htake : s.data.toList.take (pos + 1) = s.data.toList.take pos ++ [s[pos]] := by
        rw [List.take_succ_eq_append_getElem (by simpa using hp)]; rfl
      have hno : letterB s[pos] = false → isNameB s.data.toList = false := fun hl => by
        have : s.data.toList.all letterB = false := by
          rw [List.all_eq_false]
          exact ⟨s[pos], by have h2 : s[pos] = s.data.toList[pos]'(by simpa using hp) := rfl; rw [h2]; exact List.getElem_mem _, by rw [hl]; simp⟩
        unfold isNameB
        rw [this]
        rfl
      by_cases ha : (s[pos]'hp).toNat < 128
      · have hnx : ∀ ty, (Instr.next (.pointer (some ⟨W.heap.size, 0, none⟩)) true ty).run Tryz.prog wr = _ := fun ty => Lib.run_next_ascii_at wr W.heap.size s pos ty hit.out hp ha
        have hit2 := Aside0.mk (Lib.iterAt_heap wr W.heap.size s pos (pos + 1) hit.out)
        have hbw2 := Aside0.mk (Lib.below_iterAt hbw.out (k := W.heap.size) (Nat.le_refl _) s (pos + 1))
        by_cases hl : 97 ≤ (s[pos]'hp).toNat ∧ (s[pos]'hp).toNat ≤ 122
        · have hall2 := Aside0.mk (show (s.data.toList.take (pos + 1)).all letterB = true by rw [htake, List.all_append, hall.out]; simp [letterB, hl])
          obtain ⟨l1, l2⟩ := hl
          have d1 : decide (((s[pos]'hp).toNat : Int) < 97) = false := decide_eq_false (by omega)
          have d2 : decide ((122 : Int) < ((s[pos]'hp).toNat : Int)) = false := decide_eq_false (by omega)
          clear htake hno
          go_wp2
          go_roundw
          case rel => exact ⟨pos + 1, by omega, hall2, hit2, hbw2⟩
          case measure =>
            rw [hm.out]
            simp only [World.iterPos, hit2.out]
            omega
        · have HV := Aside0.mk (hno (by unfold letterB; exact decide_eq_false hl))
          clear htake hno
          by_cases l1 : (s[pos]'hp).toNat < 97
          · have d1 : decide (((s[pos]'hp).toNat : Int) < 97) = true := decide_eq_true (by omega)
            clear hl
            go_wp2
            go_ret
            exact ⟨by rw [HV.out]; rfl, hbw2.out⟩
          · have d1 : decide (((s[pos]'hp).toNat : Int) < 97) = false := decide_eq_false (by omega)
            have l2 : 122 < (s[pos]'hp).toNat := by omega
            have d2 : decide ((122 : Int) < ((s[pos]'hp).toNat : Int)) = true := decide_eq_true (by omega)
            clear hl
            go_wp2
            go_ret
            exact ⟨by rw [HV.out]; rfl, hbw2.out⟩
      · have hnx : ∀ ty, (Instr.next (.pointer (some ⟨W.heap.size, 0, none⟩)) true ty).run Tryz.prog wr = _ := fun ty => Lib.run_next_any_at wr W.heap.size s pos ty hit.out hp
        obtain ⟨hd, _⟩ := decode_high s pos hp (by omega)
        have HV := Aside0.mk (hno (by unfold letterB; exact decide_eq_false (by omega)))
        have hbw2 := Aside0.mk (Lib.below_iterAt hbw.out (k := W.heap.size) (Nat.le_refl _) s (pos + (Utf8.decode s pos).2))
        have d1 : decide (((Utf8.decode s pos).1 : Int) < 97) = false := decide_eq_false (by omega)
        have d2 : decide ((122 : Int) < ((Utf8.decode s pos).1 : Int)) = true := decide_eq_true (by omega)
        clear htake hno
        go_wp2
        go_ret
        exact ⟨by rw [HV.out]; rfl, hbw2.out⟩
    · have hnx : ∀ ty, (Instr.next (.pointer (some ⟨W.heap.size, 0, none⟩)) true ty).run Tryz.prog wr = _ := fun ty => Lib.run_next_end_at wr W.heap.size s pos ty hit.out hp
      have HA := Aside0.mk (show s.data.toList.all letterB = true by
        have := hall.out
        rwa [List.take_of_length_le (by simp; omega)] at this)
      have HV := Aside0.mk (show (!s.toList.isEmpty && decide ((s.size : Int) ≤ 8)) = isNameB s.data.toList by
        unfold isNameB
        rw [HA.out, ByteArray.toList_eq, show s.data.toList.length = s.size by simp]
        have e : decide ((s.size : Int) ≤ 8) = decide (s.size ≤ 8) := decide_eq_decide.2 (by omega)
        rw [e]
        rfl)
      go_wp2
      all_goals
        go_ret
        exact ⟨by first | (rw [← HV.out]; rfl) | (rw [← HV.out]; simp [*]), hbw.out⟩
/-- A byte that is in no line. -/
def badB (c : Int) : Bool := decide (c < 32) || decide (126 < c)
theorem bad_calls (c : Int) (W : World) : Calls Tryz.prog 170 #[.int .u8 c] W fun e w' => e = .returned (.bool (badB c)) ∧ W = w' := by
  by_cases h : c < 32
  · have e1 : badB c = true := by unfold badB; rw [decide_eq_true h]; rfl
    have HE := Aside0.mk e1
    clear e1
    go_enter Tryz.func170, Tryz.ntmps170
    go_wp2
    go_ret
    exact ⟨by rw [HE.out]; rfl, rfl⟩
  · by_cases h2 : 126 < c
    · have e1 : badB c = true := by unfold badB; rw [decide_eq_true h2]; simp
      have HE := Aside0.mk e1
      clear e1
      go_enter Tryz.func170, Tryz.ntmps170
      go_wp2
      go_ret
      exact ⟨by rw [HE.out]; rfl, rfl⟩
    · have e1 : badB c = false := by unfold badB; rw [decide_eq_false h, decide_eq_false h2]; rfl
      have HE := Aside0.mk e1
      clear e1
      go_enter Tryz.func170, Tryz.ntmps170
      go_wp2
      go_ret
      exact ⟨by rw [HE.out]; rfl, rfl⟩
theorem indexBad_calls {W : World} {A : Option Addr} {n c : Nat} {bs : List Int} (hC : (Kd.int .u8).C W A n bs) : Calls Tryz.prog 232 #[.slice A n c, .func (.func 170) #[] #[]] W fun e w' => (∃ r : Int, e = .returned (.int .i64 r) ∧ decide (0 ≤ r) = bs.any badB) ∧ W = w' := by
  have hlen : bs.length = n := hC.1
  have hn64 : n ≤ 9223372036854775807 := hC.2.1
  have HC := Aside0.mk hC
  have HL := Aside0.mk hlen
  clear hC hlen
  go_enter Tryz.func232, Tryz.ntmps232
  go_wp2
  go_loop [8] (fun v => ∃ k : Nat, k ≤ n ∧ v = .int .i64 k ∧ Aside0 ((bs.take k).any badB = false)) (fun v => n - (intOf v).toNat)
  case atStart => exact ⟨0, Nat.zero_le _, rfl, ⟨rfl⟩⟩
  case round =>
    obtain ⟨k, hk, rfl, hno⟩ := hrel
    by_cases hlt : k < n
    · have i0 : (0 : Int) ≤ (k : Int) := by omega
      have i1 : (k : Int) < (n : Int) := by omega
      have hkb : k < bs.length := by rw [HL.out]; exact hlt
      have htake : bs.take (k + 1) = bs.take k ++ [rd bs (k : Int)] := by
        rw [List.take_succ_eq_append_getElem hkb]
        unfold rd
        rw [Int.toNat_natCast]
        simp [hkb]
      obtain ⟨ad, e167, hx0⟩ := Kd.at_int HC.out (k : Int) i0 i1
      have HT := Aside0.mk htake
      clear htake
      cases e167
      rw [Int.toNat_natCast] at hx0
      replace i0 := eq_true i0
      replace i1 := eq_true i1
      have HB := Aside0.mk (bad_calls (rd bs (k : Int)) W)
      cases hb : badB (rd bs (k : Int)) with
      | true =>
        rw [hb] at HB
        have HV := Aside0.mk (show bs.any badB = true by
          rw [List.any_eq_true]
          refine ⟨rd bs (k : Int), ?_, hb⟩
          unfold rd
          rw [Int.toNat_natCast, List.getD_eq_getElem?_getD, List.getElem?_eq_getElem hkb]
          exact List.getElem_mem _)
        clear hb
        go_wp2_with (go_at_call 170; refine HB.out.mono ?_; rintro e w' ⟨rfl, rfl⟩)
        go_ret
        exact ⟨⟨_, rfl, by rw [HV.out]; exact decide_eq_true (by omega)⟩, rfl⟩
      | false =>
        rw [hb] at HB
        have HN := Aside0.mk (show (bs.take (k + 1)).any badB = false by rw [HT.out, List.any_append, hno.out]; simp [hb])
        clear hb
        go_wp2_with (go_at_call 170; refine HB.out.mono ?_; rintro e w' ⟨rfl, rfl⟩)
        go_round
        case rel => exact ⟨k + 1, by omega, by go_num, HN⟩
        case measure => simp [intOf]; omega
    · have i2 : ¬ (k : Int) < (n : Int) := by omega
      have HV := Aside0.mk (show bs.any badB = false by
        have := hno.out
        rwa [List.take_of_length_le (by rw [HL.out]; omega)] at this)
      go_wp2_with fail
      go_ret
      exact ⟨⟨-1, rfl, by rw [HV.out]; rfl⟩, rfl⟩
theorem anyBad_calls {W : World} {A : Option Addr} {n c : Nat} {bs : List Int} (hC : (Kd.int .u8).C W A n bs) : Calls Tryz.prog 169 #[.slice A n c, .func (.func 170) #[] #[]] W fun e w' => e = .returned (.bool (bs.any badB)) ∧ W = w' := by
  have HI := Aside0.mk (indexBad_calls (c := c) hC)
  clear hC
  go_enter Tryz.func169, Tryz.ntmps169
  go_wp2_with (go_at_call 232; refine HI.out.mono ?_; rintro e w' ⟨⟨r, rfl, hr⟩, rfl⟩; have HR := Aside0.mk hr; clear hr)
  go_ret
  exact ⟨by rw [← HR.out]; rfl, rfl⟩
end
end Go.Proofs.YtoeeipkiadbnpaaGreatDoor.Lib10
end
