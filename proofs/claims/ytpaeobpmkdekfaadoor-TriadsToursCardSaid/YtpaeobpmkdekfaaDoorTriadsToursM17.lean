/- Texts that the proof of TriadsTours needs, put together in build order by this session's program (wip/tools/claimtrim.py). -/
import Derived.Test.YtpaeobpmkdekfaaDoorTriadsToursM5
import Derived.Test.YtpaeobpmkdekfaaDoorTriadsToursM7
import Derived.Test.YtpaeobpmkdekfaaDoorTriadsToursM16
import Derived.Test.YtpaeobpmkdekfaaDoorTriadsToursM9
import Derived.Test.YtpaeobpmkdekfaaDoorTriadsToursM14
import Derived.Laws.RangeString
import Derived.Lib.OthersKept
section
namespace Go.Proofs.YtpaeobpmkdekfaaDoor.P
open Go.RowKit Go.Proofs.YtpaeobpmkdekfaaDoorW.PrintWords Go.Proofs.YtpaeobpmkdekfaaDoorW.PrintLast Go.Proofs.YtpaeobpmkdekfaaDoorW.PrintMore
set_option linter.unusedVariables false
set_option linter.unusedSimpArgs false
section
open Go.Shelf Go.Proofs.YtpaeobpmkdekfaaDoor.Base
/-- A word's three longer ones; a level's next one. -/
def ext3 (s : ByteArray) : List ByteArray := [s ++ ⟨#[76]⟩, s ++ ⟨#[80]⟩, s ++ ⟨#[82]⟩]
def nextLevel (l : List ByteArray) : List ByteArray := l.flatMap ext3
/-- The first word that P takes, level by level. -/
def firstOf (P : ByteArray → Bool) : Nat → List ByteArray → Option ByteArray
  | 0, _ => none
  | r + 1, l => match (nextLevel l).find? P with
    | some s => some s
    | none => firstOf P r (nextLevel l)
def toursV (n a b : Int) : ByteArray × Int := match firstOf (fun s => tourV n a b s.data.toList) 6 [⟨#[]⟩] with | some s => (s, 0) | none => (⟨#[]⟩, 4)
def triads_Tours.f (a0_0 a0_1 a0_2 : Int) : Option (ByteArray × Int) := (triads_Kind_valid.f a0_0 a0_1 a0_2).bind fun v => if v = true ∧ a0_0 ≤ 12 then (if isKind a0_0 a0_1 a0_2 = true then some (toursV a0_0 a0_1 a0_2) else none) else some (⟨#[]⟩, 2)
theorem nextLevel_length (l : List ByteArray) : (nextLevel l).length = l.length * 3 := by
  unfold nextLevel
  induction l with
  | nil => rfl
  | cons x l ih => rw [List.flatMap_cons, List.length_append, ih, List.length_cons]; show 3 + _ = _; omega
theorem size_add1 (s : ByteArray) (c : UInt8) : (s ++ (⟨#[c]⟩ : ByteArray)).size = s.size + 1 := by
  rw [ByteArray.size_append]; rfl
theorem nextLevel_size {l : List ByteArray} {r : Nat} (h : ∀ s, s ∈ l → s.size = r) : ∀ s, s ∈ nextLevel l → s.size = r + 1 := by
  intro s hs
  obtain ⟨t, ht, hs⟩ := List.mem_flatMap.1 hs
  have := h t ht
  unfold ext3 at hs
  simp only [List.mem_cons, List.not_mem_nil, or_false] at hs
  rcases hs with rfl | rfl | rfl <;> rw [size_add1, this]
theorem nextLevel_take (l : List ByteArray) (j : Nat) (h : j < l.length) : nextLevel (l.take (j + 1)) = nextLevel (l.take j) ++ ext3 l[j] := by
  unfold nextLevel
  rw [List.take_succ_eq_append_getElem h, List.flatMap_append]
  simp
theorem lit1_S (W : World) (x : ByteArray) : Kd.C Kd.string (W.alloc (.cells #[.string x] 9)) (some ⟨W.heap.size, 0, none⟩) ([x] : List ByteArray).length [x] := by
  refine Kd.C_of_reads (enc := Value.string) (d := ByteArray.empty) (h1 := fun _ => rfl) ⟨rfl, by simp, fun _ => ⟨_, rfl, fun j hj => ?_⟩⟩
  have hb := World.alloc_heap_new W (.cells #[.string x] 9)
  obtain rfl : j = 0 := by simp at hj; omega
  exact (blk_cell hb 0).trans rfl
set_option maxRecDepth 100000 in
theorem letter_facts (i : Nat) (hi : i < 3) : ∃ (x : Int) (c : UInt8), (∀ (w : World) (k : Nat) (ty : TypeId), w.heap[k]? = some (.stringIter ⟨#[76, 80, 82]⟩ i) → (Instr.next (.pointer (some ⟨k, 0, none⟩)) true ty).run Tryd.prog w = .ok (.tuple #[.bool true, .int .i64 (i : Int), .int .i32 x]) (w.iterAt k ⟨#[76, 80, 82]⟩ (i + 1)))
    ∧ (∀ W : World, (convert 21 9 (.int .i32 x)).run Tryd.prog W = .ok (.string ⟨#[c]⟩) W) ∧ ∀ s : ByteArray, (ext3 s).take (i + 1) = (ext3 s).take i ++ [s ++ ⟨#[c]⟩] := by
  have hc : i = 0 ∨ i = 1 ∨ i = 2 := by omega
  rcases hc with rfl | rfl | rfl
  · exact ⟨76, 76, fun w k ty h => Lib.run_next_ascii_at (P := Tryd.prog) w k _ 0 ty h (by decide) (by decide), fun W => (run_convert_int_string (P := Tryd.prog) W 21 9 .i32 76 rfl Tryd.underlying9).trans (by rfl), fun s => rfl⟩
  · exact ⟨80, 80, fun w k ty h => Lib.run_next_ascii_at (P := Tryd.prog) w k _ 1 ty h (by decide) (by decide), fun W => (run_convert_int_string (P := Tryd.prog) W 21 9 .i32 80 rfl Tryd.underlying9).trans (by rfl), fun s => rfl⟩
  · exact ⟨82, 82, fun w k ty h => Lib.run_next_ascii_at (P := Tryd.prog) w k _ 2 ty h (by decide) (by decide), fun W => (run_convert_int_string (P := Tryd.prog) W 21 9 .i32 82 rfl Tryd.underlying9).trans (by rfl), fun s => rfl⟩
set_option maxHeartbeats 4000000 in
set_option maxRecDepth 100000 in
theorem triads_Tours.calls (a0_0 : Int) (a0_1 : Int) (a0_2 : Int) (r1 : ByteArray) (r2 : Int) (w : World) (h : triads_Tours.f a0_0 a0_1 a0_2 = some (r1, r2)) :
    Calls Tryd.prog 31 #[.agg #[.int .i64 a0_0, .int .i64 a0_1, .int .i64 a0_2]] w fun e w' => e = .returned (.tuple #[.string r1, .int .i64 r2]) ∧ Below w.heap.size w w' := by
  obtain ⟨v, hv, h2⟩ := Option.bind_eq_some_iff.1 h
  have HV := Aside0.mk hv
  have H2 := Aside0.mk h2
  clear h h2 hv
  have HB0 := Aside0.mk (show Below w.heap.size w (w.alloc (.cells #[.int .i64 a0_0, .int .i64 a0_1, .int .i64 a0_2] 27)) from (Below.refl _ w).alloc (Nat.le_refl _) _)
  have HX0 := Aside0.mk (show (w.alloc (.cells #[.int .i64 a0_0, .int .i64 a0_1, .int .i64 a0_2] 27)).heap[w.heap.size]? = some (.cells #[.int .i64 a0_0, .int .i64 a0_1, .int .i64 a0_2] 27 (0, 0)) from World.alloc_heap_new w _)
  go_enter Tryd.func31, Tryd.ntmps31
  go_wp2_with fail
  refine (triads_Kind_valid.calls a0_0 a0_1 a0_2 v _ HV.out).mono ?_
  rintro e W1 ⟨rfl, hb⟩
  have HB1 := Aside0.mk (HB0.out.trans (hb.mono HB0.out.size))
  have HX1 := Aside0.mk ((hb.block _ (blk_lt HX0.out)).trans HX0.out)
  clear hb
  have q0 : W1.cell? ⟨w.heap.size, 0, none⟩ = some (.int .i64 a0_0) := (blk_cell HX1.out 0).trans rfl
  have q1 : W1.cell? ⟨w.heap.size, 1, none⟩ = some (.int .i64 a0_1) := (blk_cell HX1.out 1).trans rfl
  have q2 : W1.cell? ⟨w.heap.size, 2, none⟩ = some (.int .i64 a0_2) := (blk_cell HX1.out 2).trans rfl
  cases v with
  | false =>
    have h3 := H2.out
    rw [if_neg (by simp)] at h3
    obtain ⟨rfl, rfl⟩ : (⟨#[]⟩ : ByteArray) = r1 ∧ (2 : Int) = r2 := by simpa using h3
    clear h3
    go_wp2_with fail
    go_ret2
    exact ⟨rfl, HB1.out⟩
  | true =>
    by_cases h12 : a0_0 ≤ 12
    case neg =>
      have h3 := H2.out
      rw [if_neg (fun h => h12 h.2)] at h3
      obtain ⟨rfl, rfl⟩ : (⟨#[]⟩ : ByteArray) = r1 ∧ (2 : Int) = r2 := by simpa using h3
      have h12' : 12 < a0_0 := by omega
      clear h3
      go_wp2_with fail
      go_ret2
      exact ⟨rfl, HB1.out⟩
    have h3 := H2.out
    rw [if_pos ⟨rfl, h12⟩] at h3
    by_cases hk : isKind a0_0 a0_1 a0_2 = true
    case neg => rw [if_neg hk] at h3; cases h3
    rw [if_pos hk] at h3
    have h4 : toursV a0_0 a0_1 a0_2 = (r1, r2) := Option.some.inj h3
    have HK := Aside0.mk hk
    have HR := Aside0.mk h4
    have h12' : ¬ 12 < a0_0 := by omega
    clear h3 hk h4
    have info9 : (Tryd.prog.info? 9).map (fun i => (i.zero, i.size, i.bytes)) = some (some (.string ⟨#[]⟩), 1, 16) := by kernel_rfl
    obtain ⟨P, hP⟩ : ∃ P : ByteArray → Bool, P = fun s => tourV a0_0 a0_1 a0_2 s.data.toList := ⟨_, rfl⟩
    have HP := Aside0.mk hP
    have hRP : (match firstOf P 6 [⟨#[]⟩] with | some s => (s, (0 : Int)) | none => (⟨#[]⟩, 4)) = (r1, r2) := by
      rw [hP]
      exact HR.out
    have HRP := Aside0.mk hRP
    clear hRP hP HR
    go_wp2_with fail
    go_loopg [4, 20] 6 (fun gk v c wr => ∃ (r : Nat) (A : Option Addr) (m cc : Nat) (l : List ByteArray), gk + r = 6 ∧ c = .int .i64 (r : Int) ∧ v = .slice A m cc ∧ Aside0 (m = l.length ∧ m ≤ cc ∧ Kd.C Kd.string wr A l.length l) ∧ Aside0 ((∀ s, s ∈ l → s.size = r) ∧ l.length = 3 ^ r ∧ firstOf P (6 - r) l = firstOf P 6 [⟨#[]⟩]) ∧ Aside0 (Below W1.heap.size W1 wr))
    case atStart => exact ⟨0, _, 1, 1, [⟨#[]⟩], rfl, rfl, rfl, ⟨rfl, by omega, lit1_S W1 _⟩, ⟨by simp; rfl, rfl, rfl⟩, ⟨(Below.refl _ _).alloc (Nat.le_refl _) _⟩⟩
    case round =>
      obtain ⟨r, A, m, cc, l, hgk, rfl, rfl, hl, hf, hB⟩ := hrel
      by_cases hr : r < 6
      · have hm : m ≤ 243 := by
          have h1 := hl.out.1
          have h2 := hf.out.2.1
          have h3 : 3 ^ r ≤ 3 ^ 5 := Nat.pow_le_pow_right (by decide) (by omega)
          omega
        obtain ⟨wo, hwo⟩ : ∃ wo : World, wo = wr := ⟨_, rfl⟩
        subst hwo
        have hr1 : (r : Int) < 6 := by omega
        have hr2 : decide ((r : Int) < 6) = true := decide_eq_true hr1
        go_wp2_with fail
        go_loopg [5, 24] m (fun gk2 v c w2 => ∃ j : Nat, gk2 + j = m ∧ c = .int .i64 (j : Int) ∧ Aside0 (Kd.R Kd.string 9 w2 wo.heap.size (fun _ => True) v (nextLevel (l.take j))) ∧ Aside0 (Below wo.heap.size wo w2))
        case atStart => exact ⟨0, by omega, rfl, ⟨Kd.R_nil _ _ _ _ _⟩, ⟨Below.refl _ _⟩⟩
        case round =>
          obtain ⟨j, hgj, rfl, hR, hB2⟩ := hrel
          obtain ⟨w2, hw2e⟩ : ∃ w2 : World, w2 = wr := ⟨_, rfl⟩
          subst hw2e
          obtain ⟨Av, cv, hv, hlc, _⟩ := Kd.R_reads hR.out
          obtain ⟨mv, hmv⟩ : ∃ mv, mv = (nextLevel (l.take j)).length := ⟨_, rfl⟩
          rw [← hmv] at hv hlc
          subst hv
          have hmv3 : mv ≤ 3 * j := by
            rw [hmv, nextLevel_length, List.length_take]
            omega
          have HMv := Aside0.mk hmv
          clear hmv
          by_cases hj : j < m
          · have e := hl.out.1
            obtain ⟨ad, hA, hcell⟩ := Kd.at_string (Kd.C_below hl.out.2.2 hB2.out) (j : Int) (by omega) (by omega)
            have hjl : j < l.length := by omega
            have hrd : rdOf ByteArray.empty l (j : Int) = l[j] := by
              unfold rdOf
              rw [Int.toNat_natCast, List.getD_eq_getElem?_getD, List.getElem?_eq_getElem hjl]
              rfl
            rw [hrd, Int.toNat_natCast] at hcell
            subst hA
            obtain ⟨s, hs⟩ : ∃ s, s = l[j] := ⟨_, rfl⟩
            rw [← hs] at hcell
            have hsz : s.size ≤ 6 := by
              have := hf.out.1 l[j] (List.getElem_mem hjl)
              rw [hs]
              omega
            have hsz1 : s.size + 1 ≤ 9223372036854775807 := by omega
            have hpre : nextLevel (l.take (j + 1)) = nextLevel (l.take j) ++ ext3 s := by rw [hs]; exact nextLevel_take l j hjl
            have HPre := Aside0.mk hpre
            have HS := Aside0.mk hs
            clear hrd hs hpre e
            have hw2 : wo.heap.size ≤ w2.heap.size := hB2.out.size
            have hR3 : Aside0 (Kd.R Kd.string 9 (w2.alloc (.stringIter ⟨#[76, 80, 82]⟩ 0)) wo.heap.size (fun k => k ≠ w2.heap.size) (.slice Av mv cv) (nextLevel (l.take j))) := ⟨Kd.R_alloc (Kd.R_mono (Kd.R_bound hR.out) (fun k hk => by have := hk.2.2.1; omega)) _⟩
            have hB3 : Aside0 (Below wo.heap.size wo (w2.alloc (.stringIter ⟨#[76, 80, 82]⟩ 0))) := ⟨hB2.out.alloc hB2.out.size _⟩
            go_wp2_with fail
            obtain ⟨it, hit⟩ : ∃ it, it = w2.heap.size := ⟨_, rfl⟩
            rw [← hit] at hR3 ⊢
            have hitw : wo.heap.size ≤ it := by omega
            have hi0 : Aside0 ((w2.alloc (.stringIter ⟨#[76, 80, 82]⟩ 0)).heap[it]? = some (.stringIter ⟨#[76, 80, 82]⟩ 0)) := ⟨by rw [hit]; exact World.alloc_heap_new _ _⟩
            clear hit
            go_loopg [5] 3 (fun gk3 v wr3 => ∃ i : Nat, gk3 + i = 3 ∧ Aside0 (Kd.R Kd.string 9 wr3 wo.heap.size (fun k => k ≠ it) v (nextLevel (l.take j) ++ (ext3 s).take i)) ∧ Aside0 (wr3.heap[it]? = some (.stringIter ⟨#[76, 80, 82]⟩ i)) ∧ Aside0 (Below wo.heap.size wo wr3))
            case atStart => exact ⟨0, rfl, ⟨by rw [List.take_zero, List.append_nil]; exact hR3.out⟩, hi0, hB3⟩
            case round =>
              clear hR3 hi0 hB3
              obtain ⟨i, hgi, hR4, hit, hB4⟩ := hrel
              obtain ⟨Ab, cb, hv, hlc2, _⟩ := Kd.R_reads hR4.out
              obtain ⟨XS, hXS⟩ : ∃ XS, XS = nextLevel (l.take j) ++ (ext3 s).take i := ⟨_, rfl⟩
              rw [← hXS] at hv hlc2 hR4
              obtain ⟨mb, hmb⟩ : ∃ mb, mb = XS.length := ⟨_, rfl⟩
              rw [← hmb] at hv hlc2
              subst hv
              have hmb3 : mb ≤ 1000 := by
                have := HMv.out
                rw [hmb, hXS, List.length_append, List.length_take, ← this]
                have : (ext3 s).length = 3 := rfl
                omega
              have HMb := Aside0.mk hmb
              have HXS := Aside0.mk hXS
              clear hmb hXS
              by_cases hi : i < 3
              · obtain ⟨x, ch, hnx, kc, htk⟩ := letter_facts i hi
                have hn := fun ty => hnx wr it ty hit.out
                have hl5 : XS.length + 1 ≤ 1001 := by have := HMb.out; omega
                have HL5 := Aside0.mk hl5
                have hR5 : Aside0 (Kd.R Kd.string 9 (wr.iterAt it ⟨#[76, 80, 82]⟩ (i + 1)) wo.heap.size (fun k => k ≠ it) (.slice Ab mb cb) XS) := ⟨Kd.R_step hR4.out (fun k hk _ => Lib.iterAt_other wr it k _ _ hk)⟩
                have hB5 : Aside0 (Below wo.heap.size wo (wr.iterAt it ⟨#[76, 80, 82]⟩ (i + 1))) := ⟨Lib.below_iterAt hB4.out hitw _ _⟩
                have hi5 : Aside0 ((wr.iterAt it ⟨#[76, 80, 82]⟩ (i + 1)).heap[it]? = some (.stringIter ⟨#[76, 80, 82]⟩ (i + 1))) := ⟨Lib.iterAt_heap wr it _ _ _ hit.out⟩
                have HTk := Aside0.mk (htk s)
                have hlt5 : it < (wr.iterAt it ⟨#[76, 80, 82]⟩ (i + 1)).heap.size := (Array.getElem?_eq_some_iff.1 hi5.out).1
                clear hnx htk hl5
                go_wp2_with (at_builtin; go_loud (refine Kd.R_append Kd.string (w0 := wo) wo.heap.size rfl (.tmp 32) (.tmp 37) 40 9 (.string ⟨#[]⟩) 16 rfl Tryd.underlying40 info9 rfl (by decide) (by omega) (.slice Ab mb cb) XS (s ++ (⟨#[ch]⟩ : ByteArray)) [.string (s ++ (⟨#[ch]⟩ : ByteArray))] (fun k => k ≠ it) (fun _ => False) rfl rfl (by exact rfl) (fun _ hk => hk.elim) (fun k hk => by omega) hR5.out hB5.out hB5.out.size (by have := HL5.out; omega) ?_); intro v7 w7 hq7 hb7 hg7 hat7)
                go_roundg (2 - i)
                case measure => omega
                case rel =>
                  refine ⟨i + 1, by omega, ⟨?_⟩, ⟨(hg7.block it hlt5 (fun e => (hR5.out.1 it e.symm) rfl)).trans hi5.out⟩, ⟨hb7⟩⟩
                  rw [HTk.out, ← List.append_assoc, ← HXS.out]
                  exact hq7
              · obtain rfl : i = 3 := by omega
                have hn := fun ty => Lib.run_next_end_at (P := Tryd.prog) wr it ⟨#[76, 80, 82]⟩ 3 ty hit.out (by decide)
                go_wp2_with fail
                go_roundg (m - (j + 1))
                case measure => omega
                case rel =>
                  refine ⟨j + 1, by omega, by go_num, ⟨?_⟩, hB4⟩
                  rw [HPre.out]
                  have e3 : (ext3 s).take 3 = ext3 s := rfl
                  rw [← e3, ← HXS.out]
                  exact Kd.R_mono hR4.out (fun _ _ => trivial)
          · obtain rfl : j = m := by omega
            have hall : l.take j = l := List.take_of_length_le (by have := hl.out.1; omega)
            rw [hall] at HMv hR
            have hsz : ∀ s, s ∈ nextLevel l → s.size = r + 1 := nextLevel_size hf.out.1
            have HSz := Aside0.mk hsz
            have hx2 : w2.heap[w.heap.size]? = some (.cells #[.int .i64 a0_0, .int .i64 a0_1, .int .i64 a0_2] 27 (0, 0)) := by
              have h1 := blk_lt HX1.out
              have h2 : w.heap.size < wo.heap.size := Nat.lt_of_lt_of_le h1 hB.out.size
              exact (hB2.out.block _ h2).trans ((hB.out.block _ h1).trans HX1.out)
            clear q0 q1 q2
            have q0 : w2.cell? ⟨w.heap.size, 0, none⟩ = some (.int .i64 a0_0) := (blk_cell hx2 0).trans rfl
            have q1 : w2.cell? ⟨w.heap.size, 1, none⟩ = some (.int .i64 a0_1) := (blk_cell hx2 1).trans rfl
            have q2 : w2.cell? ⟨w.heap.size, 2, none⟩ = some (.int .i64 a0_2) := (blk_cell hx2 2).trans rfl
            have hB2w : Aside0 (Below W1.heap.size W1 w2) := ⟨hB.out.trans (hB2.out.mono hB.out.size)⟩
            have hCv : Aside0 (mv = (nextLevel l).length ∧ Kd.C Kd.string w2 Av (nextLevel l).length (nextLevel l)) := by
              obtain ⟨A2, c2, e2, h2, h3⟩ := Kd.R_reads hR.out
              have e3 := HMv.out
              injection e2 with e4 e5 e6
              subst e4
              exact ⟨e3, h3⟩
            have hstep : firstOf P (6 - r) l = match (nextLevel l).find? P with | some s => some s | none => firstOf P (6 - (r + 1)) (nextLevel l) := by
              rw [show 6 - r = (6 - (r + 1)) + 1 by omega]
              rfl
            have HStep := Aside0.mk hstep
            obtain ⟨Q, hQ⟩ : ∃ Q, Q = nextLevel l := ⟨_, rfl⟩
            rw [← hQ] at hCv HSz
            have HQ := Aside0.mk hQ
            obtain ⟨lenQ, hlenQ⟩ : ∃ n, n = Q.length := ⟨_, rfl⟩
            clear hx2 hstep hQ
            have hc := idx_calls HK.out Av cv Q (fun s hs => by rw [HSz.out s hs]; omega) (by have := hCv.out.1; omega) w2 hCv.out.2
            rw [← hCv.out.1] at hc
            have HC := Aside0.mk hc
            clear hc hlenQ
            go_wp2_with fail
            refine HC.out.mono ?_
            rintro e W3 ⟨hcase, hb⟩
            have hB3 : Aside0 (Below W1.heap.size W1 W3) := ⟨hB2w.out.trans (hb.mono hB2w.out.size)⟩
            have hC3 : Aside0 (Kd.C Kd.string W3 Av Q.length Q) := ⟨Kd.C_below hCv.out.2 hb⟩
            rcases hcase with ⟨i, hi, rfl, hfind⟩ | ⟨rfl, hfind⟩
            · obtain ⟨ad, hA, hcell⟩ := Kd.at_string hC3.out (i : Int) (by omega) (by omega)
              have hrd : rdOf ByteArray.empty Q (i : Int) = Q[i] := by
                unfold rdOf
                rw [Int.toNat_natCast, List.getD_eq_getElem?_getD, List.getElem?_eq_getElem hi]
                rfl
              rw [hrd, Int.toNat_natCast] at hcell
              subst hA
              have hres : (Q[i], (0 : Int)) = (r1, r2) := by
                have h5 := HRP.out
                rw [← hf.out.2.2, HStep.out, ← HQ.out, HP.out, hfind] at h5
                exact h5
              obtain ⟨s, hs⟩ : ∃ s, s = Q[i] := ⟨_, rfl⟩
              rw [← hs] at hcell hres
              obtain ⟨rfl, rfl⟩ : s = r1 ∧ (0 : Int) = r2 := by simpa using hres
              have him : i < mv := by have := hCv.out.1; omega
              have hi1 : (0 : Int) ≤ (i : Int) := by omega
              have hi2 : decide ((0 : Int) ≤ (i : Int)) = true := decide_eq_true hi1
              have hi3 : (i : Int) < (mv : Int) := by omega
              clear hfind hrd hs hres hb
              go_wp2_with fail
              go_ret2
              exact ⟨rfl, HB1.out.trans (hB3.out.mono HB1.out.size)⟩
            · have hres : firstOf P (6 - r) l = firstOf P (6 - (r + 1)) Q := by
                rw [HStep.out, ← HQ.out, HP.out, hfind]
              have HRes := Aside0.mk hres
              clear hfind hres hb
              go_wp2_with fail
              go_roundg (6 - (r + 1))
              case measure => omega
              case rel =>
                refine ⟨r + 1, Av, mv, cv, Q, by omega, by go_num, rfl, ⟨hCv.out.1, hlc, hC3.out⟩, ⟨HSz.out, ?_, ?_⟩, hB3⟩
                · rw [HQ.out, nextLevel_length, hf.out.2.1, Nat.pow_succ]
                · rw [← HRes.out]
                  exact hf.out.2.2
      · obtain rfl : r = 6 := by omega
        have hno : firstOf P 6 [⟨#[]⟩] = none := by rw [← hf.out.2.2]; rfl
        have h4 := HRP.out
        rw [hno] at h4
        obtain ⟨rfl, rfl⟩ : (⟨#[]⟩ : ByteArray) = r1 ∧ (4 : Int) = r2 := by simpa using h4
        clear h4 hno
        go_wp2_with fail
        go_ret2
        exact ⟨rfl, HB1.out.trans (hB.out.mono HB1.out.size)⟩
end
end Go.Proofs.YtpaeobpmkdekfaaDoor.P
end

section
namespace Go.Proofs.YtpaeobpmkdekfaaDoor.P
open Go.RowKit Go.Proofs.YtpaeobpmkdekfaaDoorW.PrintWords Go.Proofs.YtpaeobpmkdekfaaDoorW.PrintLast Go.Proofs.YtpaeobpmkdekfaaDoorW.PrintMore
attribute [local go_sem] max2_int min2_int max_two min_two max_three min_three max_four min_four   -- for this text's walks alone
set_option linter.unusedVariables false
set_option linter.unusedSimpArgs false
def sackbutref04_Tour.l0 : Nat → ByteArray → List Bool → Int → Int → Int → Int → Int → Int → Option (Bool)
  | 0, _, _, _, _, _, _, _, _ => none
  | k + 1, x1, x5, x6, x16, x17, x237000, x237001, x237002 => if x17 < x16 then (if 0 ≤ x6 then (if x6 < (x5.length : Int) then (if rdOf false x5 x6 = true then (some false) else (if (x1.size : Int) = 0 then (none) else (if 0 ≤ (Int.tmod x17 (x1.size : Int)) then (if (Int.tmod x17 (x1.size : Int)) < (x1.size : Int) then ((sackbutref04_Step.f x237000 x237001 x237002 x6 (bt x1 (Int.tmod x17 (x1.size : Int)))).bind fun t242 => (sackbutref04_Tour.l0 k x1 (x5.set (x6 : Int).toNat true) t242 x16 (wrap64 (x17 + 1)) x237000 x237001 x237002)) else (none)) else (none)))) else (none)) else (none)) else (some (x6 == 0))
def sackbutref04_Tour.f (k : Nat) (a0_0 : Int) (a0_1 : Int) (a0_2 : Int) (a1 : ByteArray) : Option (Bool) := if a1.toList = ([] : List UInt8) then (some false) else (if 0 ≤ (wrap64 (2 * a0_0)) then (if (wrap64 (2 * a0_0) : Int).toNat ≤ 281474976710656 then (sackbutref04_Tour.l0 k a1 (List.replicate (wrap64 (2 * a0_0) : Int).toNat false) 0 (wrap64 (2 * a0_0)) 0 a0_0 a0_1 a0_2) else (none)) else (none))
def sackbutref04_Tour.T11 : Bool × List (List Nat × List Nat) := (true, [([], []), ([], []), ([], []), ([], []), ([], []), ([4], [4]), ([3, 5], [3, 5]), ([2, 6], [2, 6]), ([0, 1, 7], [0, 1, 7]), ([8, 8, 0, 1, 2, 3, 4, 5, 6, 7, 8], [1, 8])])
def sackbutref04_Tour.B11 : List Nat := [0, 0, 0, 0, 0, 16, 56, 124, 255, 511]
theorem sackbutref04_Tour.tab11 : rtab .any (opsOf Tryd.f33 11) = sackbutref04_Tour.T11 := by kernel_rfl
theorem sackbutref04_Tour.bits11 : waitsOk sackbutref04_Tour.T11.2 sackbutref04_Tour.B11 = true := by kernel_rfl
set_option maxHeartbeats 8000000 in
set_option maxRecDepth 100000 in
theorem sackbutref04_Tour.calls (k : Nat) (a0_0 : Int) (a0_1 : Int) (a0_2 : Int) (a1 : ByteArray) (r : Bool) (w : World) (h : sackbutref04_Tour.f k a0_0 a0_1 a0_2 a1 = some r) :
    Calls Tryd.prog 33 #[.agg #[.int .i64 a0_0, .int .i64 a0_1, .int .i64 a0_2], .string a1] w fun e w' => e = .returned (.bool r) ∧ Below w.heap.size w w' := by
  have hu23 := Tryd.underlying23
  have HB := Aside0.mk (Below.refl w.heap.size w)
  have H : (if a1.toList = ([] : List UInt8) then (some false) else (if 0 ≤ (wrap64 (2 * a0_0)) then (if (wrap64 (2 * a0_0) : Int).toNat ≤ 281474976710656 then (sackbutref04_Tour.l0 k a1 (List.replicate (wrap64 (2 * a0_0) : Int).toNat false) 0 (wrap64 (2 * a0_0)) 0 a0_0 a0_1 a0_2) else (none)) else (none))) = some r := h
  clear h
  by_cases c3 : a1.toList = ([] : List UInt8)
  · rw [if_pos c3] at H
    have c3b0 : (a1.toList == ([] : List UInt8)) = true := beq_iff_eq.mpr c3
    have c3b1 : (a1.toList != ([] : List UInt8)) = false := bne_eq_false_iff_eq.mpr c3
    clear c3
    obtain rfl := Option.some.inj H
    go_enter Tryd.func33, Tryd.ntmps33
    go_wp2_with (first | ((with_reducible refine gate_dst (N := 2) rfl ?_); refine box_event ?hg (N := 2) ?hd (cs := #[.int .i64 a0_0, .int .i64 a0_1, .int .i64 a0_2]) (t := 23) ?hr ?_; (case hd => rfl); (case hg => rfl); (case hr => first | (go_simp; done) | (go_simp; rfl)); intro gb236 hg w4 hbox hb; have n0_ := Aside0.mk (below_step (by repeat (first | (with_reducible first | exact HB.out | apply below_alloc | apply pw_below_drewN | apply below_drew1) | exact HB.out)) hb); have n1_ := Aside0.mk (hbox); have n2_ := Aside0.mk ((by rw [hg]; exact (below_size (by repeat (first | (with_reducible first | exact HB.out | apply below_alloc | apply pw_below_drewN | apply below_drew1) | exact HB.out))) : w.heap.size ≤ gb236)); have n3_ := Aside0.mk ((by rw [hg]; exact (below_size (by repeat (first | (with_reducible first | exact HB.out | apply below_alloc | apply pw_below_drewN | apply below_drew1) | exact HB.out))) : w.heap.size ≤ gb236)); clear HB; have HB := n0_; have BK236 := n1_; have GW236 := n2_; have GE236 := n3_; clear n0_ n1_ n2_ n3_; clear hb hbox hg))
    go_ret
    exact ⟨by first | rfl | (simp [errW_none, errW_some] <;> rfl) | (simp [*, errW_none, errW_some] <;> rfl), by repeat (first | (with_reducible first | exact HB.out | apply below_alloc | apply pw_below_drewN | apply below_drew1 | refine below_set ?_ GE236.out) | exact HB.out)⟩
  · rw [if_neg c3] at H
    have c3b0 : (a1.toList == ([] : List UInt8)) = false := beq_eq_false_iff_ne.mpr c3
    have c3b1 : (a1.toList != ([] : List UInt8)) = true := bne_iff_ne.mpr c3
    obtain ⟨ji5, hji5⟩ : ∃ j_ : Int, (wrap64 (2 * a0_0)) = j_ := ⟨_, rfl⟩
    replace H : (if 0 ≤ (ji5) then (if (ji5 : Int).toNat ≤ 281474976710656 then (sackbutref04_Tour.l0 k a1 (List.replicate (ji5 : Int).toNat false) 0 ji5 0 a0_0 a0_1 a0_2) else (none)) else (none)) = some r := by first | (rw [hji5] at H; exact H) | (simp only [hji5] at H ⊢; exact H)
    have hji5w : (IntKind.i64.wrap (2 * a0_0)) = ji5 := (i64_w _).trans hji5
    by_cases c6 : 0 ≤ (ji5)
    · rw [if_pos c6] at H
      have c6b0 := eq_true c6
      have c6b1 : decide (0 ≤ (ji5)) = true := decide_eq_true c6
      clear c6
      by_cases c7 : (ji5 : Int).toNat ≤ 281474976710656
      · rw [if_pos c7] at H
        have c7b0 := eq_true c7
        have c7b1 : decide ((ji5 : Int).toNat ≤ 281474976710656) = true := decide_eq_true c7
        clear c7
        obtain ⟨y237, hy237⟩ : ∃ y_ : List Bool, y_ = (List.replicate (ji5 : Int).toNat false) := ⟨_, rfl⟩
        replace H : (sackbutref04_Tour.l0 k a1 y237 0 ji5 0 a0_0 a0_1 a0_2) = some r := by first | (rw [hy237]; with_reducible exact H) | (have H2_ := (Option.bind_some _ _).symm.trans H; rw [hy237]; with_reducible exact H2_) | (have H2_ := (Option.bind_some _ _).symm.trans H; with_reducible exact H2_) | with_reducible exact H | (rw [hy237]; exact H) | exact H
        have Ny237 := Aside0.mk hy237
        clear hy237
        have H' := Aside0.mk H
        clear H
        go_enter Tryd.func33, Tryd.ntmps33
        go_wp2_with (first | ((with_reducible refine gate_dst (N := 2) rfl ?_); refine box_event ?hg (N := 2) ?hd (cs := #[.int .i64 a0_0, .int .i64 a0_1, .int .i64 a0_2]) (t := 23) ?hr ?_; (case hd => rfl); (case hg => rfl); (case hr => first | (go_simp; done) | (go_simp; rfl)); intro gb236 hg w8 hbox hb; have n0_ := Aside0.mk (below_step (by repeat (first | (with_reducible first | exact HB.out | apply below_alloc | apply pw_below_drewN | apply below_drew1) | exact HB.out)) hb); have n1_ := Aside0.mk (hbox); have n2_ := Aside0.mk ((by rw [hg]; exact (below_size (by repeat (first | (with_reducible first | exact HB.out | apply below_alloc | apply pw_below_drewN | apply below_drew1) | exact HB.out))) : w.heap.size ≤ gb236)); have n3_ := Aside0.mk ((by rw [hg]; exact (below_size (by repeat (first | (with_reducible first | exact HB.out | apply below_alloc | apply pw_below_drewN | apply below_drew1) | exact HB.out))) : w.heap.size ≤ gb236)); clear HB; have HB := n0_; have BK236 := n1_; have GW236 := n2_; have GE236 := n3_; clear n0_ n1_ n2_ n3_; clear hb hbox hg; have hcz9_0 : w8.cell? ⟨gb236, 0, none⟩ = some (.int .i64 a0_0) := (blk_cell BK236.out 0).trans rfl; have hcz9_1 : w8.cell? ⟨gb236, 1, none⟩ = some (.int .i64 a0_1) := (blk_cell BK236.out 1).trans rfl; have hcz9_2 : w8.cell? ⟨gb236, 2, none⟩ = some (.int .i64 a0_2) := (blk_cell BK236.out 2).trans rfl; have hfz9_0 := blk_frozen BK236.out 0; have hfz9_1 := blk_frozen BK236.out 1; have hfz9_2 := blk_frozen BK236.out 2) | ((with_reducible refine gate_dst (N := 13) rfl ?_); refine Kd.R_make Kd.bool _ 4 rfl (N := 13) rfl 84 _ _ rfl ji5 rfl rfl Tryd.underlying84 (.bool false) 1 info4 rfl (by decide) (by omega) false (ok := fun _ => True) (okp := fun _ => True) rfl (fun _ hk => hk) trivial (of_decide_eq_true (by first | (with_reducible assumption) | assumption)) (Nat.le_trans (Nat.mul_le_mul_right _ (of_decide_eq_true (by first | (with_reducible assumption) | assumption) : ji5.toNat ≤ 281474976710656)) (by omega)) (Below.refl _ _) (Nat.le_refl _) ?_; intro v238 w10 ho11 hb hg_ hnew_; clear hg_ hnew_; (first | rw [← Ny237.out] at ho11 | (simp only [Int.reduceToNat] at ho11; rw [← Ny237.out] at ho11)); have n0_ := Aside0.mk (Kd.R_lower ho11 (below_size (by repeat (first | (with_reducible first | exact HB.out | apply below_alloc | apply pw_below_drewN | apply below_drew1 | refine below_set ?_ GE236.out) | exact HB.out)))); have n1_ := Aside0.mk (blk_below (g := gb236) (o := .cells #[.int .i64 a0_0, .int .i64 a0_1, .int .i64 a0_2] 23 (0, 0)) (by (with_reducible repeat (first | refine blk_drewN ?_ _ | refine blk_drew ?_ | refine blk_alloc ?_ _)); exact BK236.out) hb); have n2_ := Aside0.mk (below_step (by repeat (first | (with_reducible first | exact HB.out | apply below_alloc | apply pw_below_drewN | apply below_drew1 | refine below_set ?_ GE236.out) | exact HB.out)) hb); clear BK236; clear HB; have HO239 := n0_; have BK236 := n1_; have HB := n2_; clear n0_ n1_ n2_; clear hb ho11; have hcz12_0 : w10.cell? ⟨gb236, 0, none⟩ = some (.int .i64 a0_0) := (blk_cell BK236.out 0).trans rfl; have hcz12_1 : w10.cell? ⟨gb236, 1, none⟩ = some (.int .i64 a0_1) := (blk_cell BK236.out 1).trans rfl; have hcz12_2 : w10.cell? ⟨gb236, 2, none⟩ = some (.int .i64 a0_2) := (blk_cell BK236.out 2).trans rfl; have hfz12_0 := blk_frozen BK236.out 0; have hfz12_1 := blk_frozen BK236.out 1; have hfz12_2 := blk_frozen BK236.out 2))
        go_loopg [6, 17] k (fun kq v6 v17 w' => ∃ (x5_1 : List Bool) (x6_1 : Int) (x17_1 : Int), v6 = .int .i64 x6_1 ∧ v17 = .int .i64 x17_1 ∧ Aside0 (sackbutref04_Tour.l0 kq a1 x5_1 x6_1 ji5 x17_1 a0_0 a0_1 a0_2 = some r) ∧ Aside0 (kq ≤ k) ∧ Aside0 (Kd.R Kd.bool 4 w' w.heap.size (fun _ => True) v238 x5_1) ∧ Aside0 (w'.heap[gb236]? = some (.cells #[.int .i64 a0_0, .int .i64 a0_1, .int .i64 a0_2] 23 (0, 0))) ∧ Aside0 (Below w.heap.size w w'))
        case atStart => exact ⟨(y237), (0), (0), (by first | rfl | (simp; done) | (simp [*]; done)), (by first | rfl | (simp; done) | (simp [*]; done)), H', ⟨Nat.le_refl _⟩, ⟨by (with_reducible repeat (first | apply Kd.R_alloc | apply Kd.R_drewN | apply Kd.R_drew)); exact HO239.out⟩, ⟨by (with_reducible repeat (first | refine blk_drewN ?_ _ | refine blk_drew ?_ | refine blk_alloc ?_ _)); exact BK236.out⟩, ⟨by repeat (first | (with_reducible first | exact HB.out | apply below_alloc | apply pw_below_drewN | apply below_drew1 | refine below_set ?_ GE236.out) | exact HB.out)⟩⟩
        case round =>
          clear H'
          try clear p2
          try clear c3
          try clear c3b0
          try clear c3b1
          try clear c6
          try clear c6b0
          try clear c6b1
          try clear p6
          try clear c7
          try clear c7b0
          try clear c7b1
          try clear hcz12_0
          try clear hcz12_1
          try clear hcz12_2
          try clear hcz9_0
          try clear hcz9_1
          try clear hcz9_2
          try clear hfz12_0
          try clear hfz12_1
          try clear hfz12_2
          try clear hfz9_0
          try clear hfz9_1
          try clear hfz9_2
          obtain ⟨x5_1, x6_1, x17_1, rfl, rfl, HA, HK1, HO_5, BK236, HB⟩ := hrel
          cases gk with
          | zero => exact absurd HA.out (by simp [sackbutref04_Tour.l0])
          | succ k1 =>
            have H := HA.out
            clear HA
            simp only [sackbutref04_Tour.l0] at H
            by_cases c13 : x17_1 < ji5
            · rw [if_pos c13] at H
              have c13b0 : decide (x17_1 < ji5) = true := decide_eq_true c13
              clear c13
              by_cases c14 : 0 ≤ x6_1
              · rw [if_pos c14] at H
                have c14b0 : decide (0 ≤ x6_1) = true := decide_eq_true c14
                clear c14
                by_cases c15 : x6_1 < (x5_1.length : Int)
                · rw [if_pos c15] at H
                  have c15b0 : decide (x6_1 < (x5_1.length : Int)) = true := decide_eq_true c15
                  clear c15
                  obtain ⟨bq16, hbq16⟩ : ∃ b_ : Bool, b_ = (rdOf false x5_1 x6_1) := ⟨_, rfl⟩
                  replace H : (if bq16 = true then (some false) else (if (a1.size : Int) = 0 then (none) else (if 0 ≤ (Int.tmod x17_1 (a1.size : Int)) then (if (Int.tmod x17_1 (a1.size : Int)) < (a1.size : Int) then ((sackbutref04_Step.f a0_0 a0_1 a0_2 x6_1 (bt a1 (Int.tmod x17_1 (a1.size : Int)))).bind fun t242 => (sackbutref04_Tour.l0 k1 a1 (x5_1.set (x6_1 : Int).toNat true) t242 ji5 (wrap64 (x17_1 + 1)) a0_0 a0_1 a0_2)) else (none)) else (none)))) = some r := by rw [← hbq16] at H; exact H
                  have Nbq16 := Aside0.mk hbq16
                  clear hbq16
                  by_cases c17 : bq16 = true
                  · subst c17
                    have H1 : (some false) = some r := by rw [if_pos rfl] at H; exact H
                    clear H
                    have H := H1
                    clear H1
                    obtain rfl := Option.some.inj H
                    obtain ⟨Ao18, co18, eo18⟩ := Kd.R_slice HO_5.out
                    subst eo18
                    have p240 : 0 ≤ (x6_1 : Int) := of_decide_eq_true (by first | (with_reducible assumption) | assumption)
                    have q240 : x6_1 < (x5_1.length : Int) := of_decide_eq_true (by first | (with_reducible assumption) | assumption)
                    obtain ⟨ad240, e240, hx240_0⟩ := Kd.at_bool (Kd.R_reads' HO_5.out).2.2 x6_1 p240 q240
                    (try rw [← Nbq16.out] at hx240_0)
                    cases e240
                    replace p240 := eq_true p240
                    replace q240 := eq_true q240
                    go_wp2
                    go_ret
                    exact ⟨by first | rfl | (simp [errW_none, errW_some] <;> rfl) | (simp only [← hji5]; first | rfl | (simp [errW_none, errW_some] <;> rfl)) | (simp [*, errW_none, errW_some] <;> rfl), by repeat (first | (with_reducible first | exact HB.out | apply below_alloc | apply pw_below_drewN | apply below_drew1 | refine below_set ?_ GE236.out) | exact HB.out)⟩
                  · replace c17 := Bool.eq_false_iff.mpr c17
                    subst c17
                    have H1 : (if (a1.size : Int) = 0 then (none) else (if 0 ≤ (Int.tmod x17_1 (a1.size : Int)) then (if (Int.tmod x17_1 (a1.size : Int)) < (a1.size : Int) then ((sackbutref04_Step.f a0_0 a0_1 a0_2 x6_1 (bt a1 (Int.tmod x17_1 (a1.size : Int)))).bind fun t242 => (sackbutref04_Tour.l0 k1 a1 (x5_1.set (x6_1 : Int).toNat true) t242 ji5 (wrap64 (x17_1 + 1)) a0_0 a0_1 a0_2)) else (none)) else (none))) = some r := by rw [if_neg (show ¬ (false = true) by decide)] at H; exact H
                    clear H
                    have H := H1
                    clear H1
                    obtain ⟨y241, hy241⟩ : ∃ y_ : List Bool, y_ = (x5_1.set (x6_1 : Int).toNat true) := ⟨_, rfl⟩
                    replace H : (if (a1.size : Int) = 0 then (none) else (if 0 ≤ (Int.tmod x17_1 (a1.size : Int)) then (if (Int.tmod x17_1 (a1.size : Int)) < (a1.size : Int) then ((sackbutref04_Step.f a0_0 a0_1 a0_2 x6_1 (bt a1 (Int.tmod x17_1 (a1.size : Int)))).bind fun t242 => (sackbutref04_Tour.l0 k1 a1 y241 t242 ji5 (wrap64 (x17_1 + 1)) a0_0 a0_1 a0_2)) else (none)) else (none))) = some r := by first | (rw [hy241]; with_reducible exact H) | (have H2_ := (Option.bind_some _ _).symm.trans H; rw [hy241]; with_reducible exact H2_) | (have H2_ := (Option.bind_some _ _).symm.trans H; with_reducible exact H2_) | with_reducible exact H | (rw [hy241]; exact H) | exact H
                    have Ny241 := Aside0.mk hy241
                    clear hy241
                    by_cases c20 : (a1.size : Int) = 0
                    · rw [if_pos c20] at H
                      exact absurd H (by simp)
                    · rw [if_neg c20] at H
                      have c20b0 : ((a1.size : Int) == 0) = false := beq_eq_false_iff_ne.mpr c20
                      have c20e : ¬ a1 = ByteArray.empty := fun h_ => c20 (by rw [h_]; rfl)
                      have c20b1 : ((a1.size : Int) != 0) = true := bne_iff_ne.mpr c20
                      obtain ⟨ji21, hji21⟩ : ∃ j_ : Int, (Int.tmod x17_1 (a1.size : Int)) = j_ := ⟨_, rfl⟩
                      replace H : (if 0 ≤ (ji21) then (if (ji21) < (a1.size : Int) then ((sackbutref04_Step.f a0_0 a0_1 a0_2 x6_1 (bt a1 (ji21))).bind fun t242 => (sackbutref04_Tour.l0 k1 a1 y241 t242 ji5 (wrap64 (x17_1 + 1)) a0_0 a0_1 a0_2)) else (none)) else (none)) = some r := by first | (rw [hji21] at H; exact H) | (simp only [hji21] at H ⊢; exact H)
                      by_cases c22 : 0 ≤ (ji21)
                      · rw [if_pos c22] at H
                        have c22b0 : decide (0 ≤ (ji21)) = true := decide_eq_true c22
                        clear c22
                        by_cases c23 : (ji21) < (a1.size : Int)
                        · rw [if_pos c23] at H
                          have c23b0 : decide ((ji21) < (a1.size : Int)) = true := decide_eq_true c23
                          clear c23
                          replace H := Option.bind_eq_some_iff.mp H
                          obtain ⟨t242, A250, H⟩ := H
                          replace H : (sackbutref04_Tour.l0 k1 a1 y241 t242 ji5 (wrap64 (x17_1 + 1)) a0_0 a0_1 a0_2) = some r := H
                          have A25 := Aside0.mk A250
                          clear A250
                          have H' := Aside0.mk H
                          clear H
                          obtain ⟨Ao26, co26, eo26⟩ := Kd.R_slice HO_5.out
                          subst eo26
                          have p240 : 0 ≤ (x6_1 : Int) := of_decide_eq_true (by first | (with_reducible assumption) | assumption)
                          have q240 : x6_1 < (x5_1.length : Int) := of_decide_eq_true (by first | (with_reducible assumption) | assumption)
                          obtain ⟨ad240, e240, hx240_0⟩ := Kd.at_bool (Kd.R_reads' HO_5.out).2.2 x6_1 p240 q240
                          (try rw [← Nbq16.out] at hx240_0)
                          cases e240
                          replace p240 := eq_true p240
                          replace q240 := eq_true q240
                          have p19 : 0 ≤ (x6_1 : Int) := of_decide_eq_true (by first | (with_reducible assumption) | assumption)
                          have q19 : (x6_1 : Int) < ((x5_1.length : Int) : Int) := of_decide_eq_true (by first | (with_reducible assumption) | assumption)
                          obtain ⟨go19, co19, eo19, gb19, gl19, cl19, HG19⟩ := Kd.R_form HO_5.out (by omega)
                          (first | cases eo19 | (injection eo19 with ea_ en_ ec_; (first | subst ea_ | (injection ea_ with ea_; subst ea_)); subst ec_; clear en_))
                          have GB19 := Aside0.mk gb19
                          have GG19 := Aside0.mk HG19
                          clear gb19 gl19 HG19
                          (first | simp only [add_plain] at hx240_0 | skip)
                          obtain ⟨hx19_0, hf19_0⟩ := Kd.R_celln false HO_5.out (x6_1 : Int) p19 q19
                          replace p19 := eq_true p19
                          replace q19 := eq_true q19
                          have HP27 := Kd.R_putg HO_5.out (x6_1 : Int) true
                          try go_wp2_with (first | ((with_reducible refine gate_store (t := 4) (p := 26) rfl ?_); refine store_event (t := 4) (p := 26) (v := ?vo_w28) (w1 := (wr.setCell ⟨go19, (x6_1 : Int).toNat, none⟩ (.bool true))) ?hg ?ho ?hn ?hr ?_; (case ho => rfl); (case hg => rfl); (case hn => rfl); (case hr => first | (go_simp; done) | (go_simp; rfl)); intro w28 hw; have hg : wr.grownBy w28 (some go19) := (by rw [hw]; exact HP27.2); have hp_ : Kd.R Kd.bool 4 w28 w.heap.size (fun _ => True) (.slice (some ⟨go19, 0, none⟩) x5_1.length co26) y241 := (by rw [hw, Ny241.out]; exact HP27.1); clear HP27; have n0_ := Aside0.mk (hp_); have n1_ := Aside0.mk (blk_grown (g := gb236) (o := .cells #[.int .i64 a0_0, .int .i64 a0_1, .int .i64 a0_2] 23 (0, 0)) (by (with_reducible repeat (first | refine blk_drewN ?_ _ | refine blk_drew ?_ | refine blk_alloc ?_ _)); exact BK236.out) hg (Kd.R_ne HO_5.out BK236.out (by decide))); have n2_ := Aside0.mk ((by rw [hw]; exact below_set (HB.out) GB19.out : Below w.heap.size w w28)); clear HO_5; clear BK236; clear HB; have HO_5 := n0_; have BK236 := n1_; have HB := n2_; clear n0_ n1_ n2_; clear hg hw hp_))
                          have n0_ := Aside0.mk (Kd.R_drew HO_5.out)
                          have n1_ := Aside0.mk (blk_drew BK236.out)
                          have n2_ := Aside0.mk (below_drew1 HB.out)
                          clear HO_5
                          clear BK236
                          clear HB
                          have HO_5 := n0_
                          have BK236 := n1_
                          have HB := n2_
                          clear n0_ n1_ n2_
                          have p24 : 0 ≤ ((ji21) : Int) := of_decide_eq_true (by first | (with_reducible assumption) | assumption)
                          have q24 : (ji21) < (a1.size : Int) := of_decide_eq_true (by first | (with_reducible assumption) | assumption)
                          have hx24 := bt_at a1 (ji21)
                          replace p24 := eq_true p24
                          replace q24 := eq_true q24
                          refine start_ (n := 10) (S := fun w' => w'.cell? ⟨gb236, 0, none⟩ = some (.int .i64 a0_0) ∧ w'.cell? ⟨gb236, 1, none⟩ = some (.int .i64 a0_1) ∧ w'.cell? ⟨gb236, 2, none⟩ = some (.int .i64 a0_2)) (ds := []) #[false, false, false, false, false, false, false, false, false, false] (by kernel_rfl) rfl rfl ⟨(blk_cell BK236.out 0).trans rfl, (blk_cell BK236.out 1).trans rfl, (blk_cell BK236.out 2).trans rfl⟩ (fun hHeld => ?_); refine with_tabW sackbutref04_Tour.tab11 sackbutref04_Tour.bits11 (fun HT_ HW_ => ?_)
                          generalize w28.drew = w29 at HO_5 BK236 HB hHeld ⊢
                          refine pure_ (i := 1) (N := some 28) (v := ?_) (a' := ?_) #[false, true, false, false, false, false, false, false, false, false] rfl rfl (any_of HT_.out (by kernel_rfl)) (fun _ _ _ h => h) (Or.inl ⟨by rfl, ?_⟩) ?_ ?_
                          rotate_left
                          · intro w'
                            go_simp
                            with_reducible rfl
                          rotate_left
                          · simp only [Act.put, List.setIfInBounds_toArray, List.set_cons_zero, List.set_cons_succ, i64_w, i32_w]
                            rfl
                          refine pure_ (i := 2) (N := some 29) (v := ?_) (a' := ?_) #[false, true, true, false, false, false, false, false, false, false] rfl rfl (any_of HT_.out (by kernel_rfl)) (fun _ _ _ h => h) (Or.inl ⟨by rfl, ?_⟩) ?_ ?_
                          rotate_left
                          · intro w'
                            go_simp
                            with_reducible rfl
                          rotate_left
                          · simp only [Act.put, List.setIfInBounds_toArray, List.set_cons_zero, List.set_cons_succ, i64_w, i32_w]
                            rfl
                          refine pure_ (i := 3) (N := some 30) (v := ?_) (a' := ?_) #[false, true, true, true, false, false, false, false, false, false] rfl rfl (any_of HT_.out (by kernel_rfl)) (fun _ _ _ h => h) (Or.inl ⟨by rfl, ?_⟩) ?_ ?_
                          rotate_left
                          · intro w'
                            go_simp
                            with_reducible rfl
                          rotate_left
                          · simp only [Act.put, List.setIfInBounds_toArray, List.set_cons_zero, List.set_cons_succ, i64_w, i32_w]
                            rfl
                          refine pure_ (i := 4) (N := some 31) (v := ?_) (a' := ?_) #[false, true, true, true, true, false, false, false, false, false] rfl rfl (any_of HT_.out (by kernel_rfl)) (fun _ _ _ h => h) (Or.inl ⟨by rfl, ?_⟩) ?_ ?_
                          rotate_left
                          · intro w'
                            go_simp
                            with_reducible rfl
                          rotate_left
                          · simp only [Act.put, List.setIfInBounds_toArray, List.set_cons_zero, List.set_cons_succ, i64_w, i32_w]
                            rfl
                          refine pure_ (i := 5) (N := some 32) (v := ?_) (a' := ?_) #[false, true, true, true, true, true, false, false, false, false] rfl rfl (any_of HT_.out (by kernel_rfl)) (fun _ _ _ h => h) (Or.inl ⟨by rfl, ?_⟩) ?_ ?_
                          rotate_left
                          · intro w'
                            go_simp
                            with_reducible rfl
                          rotate_left
                          · simp only [Act.put, List.setIfInBounds_toArray, List.set_cons_zero, List.set_cons_succ, i64_w, i32_w]
                            rfl
                          refine pure_ (i := 6) (N := some 33) (v := ?_) (a' := ?_) #[false, true, true, true, true, true, true, false, false, false] rfl rfl (any_of HT_.out (by kernel_rfl)) (fun _ _ _ h => h) (Or.inl ⟨by rfl, ?_⟩) ?_ ?_
                          rotate_left
                          · intro w'
                            go_simp
                            with_reducible rfl
                          rotate_left
                          · simp only [Act.put, List.setIfInBounds_toArray, List.set_cons_zero, List.set_cons_succ, i64_w, i32_w]
                            rfl
                          refine take_ (i := 0) (N := some 27) (v := ?_) (a' := ?_) #[true, true, true, true, true, true, true, false, false, false] rfl rfl (take_ofW HT_.out HW_.out (by kernel_rfl)) (fun _ _ _ h => h) (Or.inl ⟨by rfl, ?_⟩) hHeld ?_ ?_
                          rotate_left
                          · rintro w' ⟨s0, s1, s2⟩
                            go_simp
                            with_reducible rfl
                          rotate_left
                          · simp only [Act.put, List.setIfInBounds_toArray, List.set_cons_zero, List.set_cons_succ, i64_w, i32_w]
                            rfl
                          refine take_ (i := 7) (N := some 34) (v := ?_) (a' := ?_) #[true, true, true, true, true, true, true, true, false, false] rfl rfl (take_ofW HT_.out HW_.out (by kernel_rfl)) (fun _ _ _ h => h) (Or.inl ⟨by rfl, ?_⟩) hHeld ?_ ?_
                          rotate_left
                          · rintro w' ⟨s0, s1, s2⟩
                            go_simp
                            with_reducible rfl
                          rotate_left
                          · simp only [Act.put, List.setIfInBounds_toArray, List.set_cons_zero, List.set_cons_succ, i64_w, i32_w]
                            rfl
                          refine one_ (i := 8) (N := some 35) #[true, true, true, true, true, true, true, true, true, false] rfl rfl (one_of HT_.out (by kernel_rfl)) (by decide) (fun K hK => ?_)
                          refine goes_ Tryd.func56 (by kernel_rfl) rfl #[.agg #[.int .i64 a0_0, .int .i64 a0_1, .int .i64 a0_2], .int .i64 x6_1, .int .u8 (bt a1 (ji21))] (by rfl) rfl rfl (by (try simp only [List.map_toArray, List.map_cons, List.map_nil]); first | done | (simp only [hji21]; rfl) | rfl | (simp only [List.length_drop, List.length_take]; rfl)) ?_
                          with_reducible refine (sackbutref04_Step.calls a0_0 a0_1 a0_2 x6_1 (bt a1 (ji21)) t242 _ A25.out).mono ?_
                          rintro e w30 ⟨rfl, hb⟩
                          refine ⟨_, rfl, ?_⟩
                          have n0_ := Aside0.mk (Kd.R_below (by (with_reducible repeat (first | apply Kd.R_alloc | apply Kd.R_drewN | apply Kd.R_drew)); exact HO_5.out) hb)
                          have n1_ := Aside0.mk (blk_below (g := gb236) (o := .cells #[.int .i64 a0_0, .int .i64 a0_1, .int .i64 a0_2] 23 (0, 0)) (by (with_reducible repeat (first | refine blk_drewN ?_ _ | refine blk_drew ?_ | refine blk_alloc ?_ _)); exact BK236.out) hb)
                          have n2_ := Aside0.mk (below_step (by repeat (first | (with_reducible first | exact HB.out | apply below_alloc | apply pw_below_drewN | apply below_drew1 | refine below_set ?_ GE236.out) | exact HB.out)) hb)
                          clear HO_5
                          clear BK236
                          clear HB
                          have HO_5 := n0_
                          have BK236 := n1_
                          have HB := n2_
                          clear n0_ n1_ n2_
                          (try clear hb)
                          (try clear hb2)
                          (try clear hk)
                          (try clear hi)
                          refine hK.out _ _ ⟨(blk_cell BK236.out 0).trans rfl, (blk_cell BK236.out 1).trans rfl, (blk_cell BK236.out 2).trans rfl⟩ (fun hHeld => ?_)
                          clear hK K
                          refine norm_ (a' := ?_) ?_ ?_
                          rotate_left
                          · show Act.put _ (some 35) _ = _
                            simp only [Act.put, List.setIfInBounds_toArray, List.set_cons_zero, List.set_cons_succ, i64_w, i32_w]
                            rfl
                          refine pure_ (i := 9) (N := some 6) (v := ?_) (a' := ?_) #[true, true, true, true, true, true, true, true, true, true] rfl rfl (any_of HT_.out (by kernel_rfl)) (fun _ _ _ h => h) (Or.inl ⟨by rfl, ?_⟩) ?_ ?_
                          rotate_left
                          · intro w'
                            go_simp
                            with_reducible rfl
                          rotate_left
                          · simp only [Act.put, List.setIfInBounds_toArray, List.set_cons_zero, List.set_cons_succ, i64_w, i32_w]
                            rfl
                          refine done_ (done_of HT_.out (by kernel_rfl)) ?_
                          try go_wp2
                          go_roundg k1
                          case measure => have := HK1.out; omega
                          case rel => exact ⟨(y241), (t242), (wrap64 (x17_1 + 1)), (by first | rfl | (simp; done) | (simp [*]; done)), (by first | rfl | (simp; done) | (simp [*]; done)), H', ⟨by have := HK1.out; omega⟩, ⟨by (with_reducible repeat (first | apply Kd.R_alloc | apply Kd.R_drewN | apply Kd.R_drew)); exact HO_5.out⟩, ⟨by (with_reducible repeat (first | refine blk_drewN ?_ _ | refine blk_drew ?_ | refine blk_alloc ?_ _)); exact BK236.out⟩, ⟨by repeat (first | (with_reducible first | exact HB.out | apply below_alloc | apply pw_below_drewN | apply below_drew1 | refine below_set ?_ GE236.out) | exact HB.out)⟩⟩
                        · rw [if_neg c23] at H
                          exact absurd H (by simp)
                      · rw [if_neg c22] at H
                        exact absurd H (by simp)
                · rw [if_neg c15] at H
                  exact absurd H (by simp)
              · rw [if_neg c14] at H
                exact absurd H (by simp)
            · rw [if_neg c13] at H
              have c13b0 : decide (x17_1 < ji5) = false := decide_eq_false c13
              clear c13
              obtain rfl := Option.some.inj H
              go_wp2
              go_ret
              exact ⟨by first | rfl | (simp [errW_none, errW_some] <;> rfl) | (simp only [← hji5]; first | rfl | (simp [errW_none, errW_some] <;> rfl)) | (simp [*, errW_none, errW_some] <;> rfl), by repeat (first | (with_reducible first | exact HB.out | apply below_alloc | apply pw_below_drewN | apply below_drew1 | refine below_set ?_ GE236.out) | exact HB.out)⟩
      · rw [if_neg c7] at H
        exact absurd H (by simp)
    · rw [if_neg c6] at H
      exact absurd H (by simp)

end Go.Proofs.YtpaeobpmkdekfaaDoor.P
end

section
namespace Go.Proofs.YtpaeobpmkdekfaaDoor.P
open Go.RowKit Go.Proofs.YtpaeobpmkdekfaaDoorW.PrintWords Go.Proofs.YtpaeobpmkdekfaaDoorW.PrintLast Go.Proofs.YtpaeobpmkdekfaaDoorW.PrintMore
attribute [local go_sem] max2_int min2_int max_two min_two max_three min_three max_four min_four   -- for this text's walks alone
set_option linter.unusedVariables false
set_option linter.unusedSimpArgs false
mutual
def sackbutref04_Tours.l0 : Nat → List ByteArray → Int → Int → Int → Int → Option (ByteArray × Int)
  | 0, _, _, _, _, _ => none
  | k + 1, x4, x13, x244000, x244001, x244002 => if x13 < 6 then (sackbutref04_Tours.l1 k ([] : List ByteArray) x13 x4 (x4.length : Int) 0 x244000 x244001 x244002) else (some ((⟨#[]⟩ : ByteArray), 4))
def sackbutref04_Tours.l1 : Nat → List ByteArray → Int → List ByteArray → Int → Int → Int → Int → Int → Option (ByteArray × Int)
  | 0, _, _, _, _, _, _, _, _ => none
  | k + 1, x5, x13, x15, x16, x17, x244000, x244001, x244002 => if x17 < x16 then (if 0 ≤ x17 then (if x17 < (x15.length : Int) then ((some (([(⟨#[76]⟩ : ByteArray), (⟨#[80]⟩ : ByteArray), (⟨#[82]⟩ : ByteArray)] : List ByteArray) : List ByteArray)).bind fun y248 => (sackbutref04_Tours.l2 k x5 (rdOf ByteArray.empty x15 x17) x13 x15 x16 x17 y248 (y248.length : Int) 0 x244000 x244001 x244002)) else (none)) else (none)) else (sackbutref04_Tours.l3 k x5 x13 x5 (x5.length : Int) 0 x244000 x244001 x244002)
def sackbutref04_Tours.l2 : Nat → List ByteArray → ByteArray → Int → List ByteArray → Int → Int → List ByteArray → Int → Int → Int → Int → Int → Option (ByteArray × Int)
  | 0, _, _, _, _, _, _, _, _, _, _, _, _ => none
  | k + 1, x5, x7, x13, x15, x16, x17, x21, x22, x23, x244000, x244001, x244002 => if x23 < x22 then (if 0 ≤ x23 then (if x23 < (x21.length : Int) then (if x7.size + (rdOf ByteArray.empty x21 x23).size ≤ 9223372036854775807 then (if x5.length < 8796093022208 then (sackbutref04_Tours.l2 k (x5 ++ [x7 ++ (rdOf ByteArray.empty x21 x23)]) x7 x13 x15 x16 x17 x21 x22 (wrap64 (x23 + 1)) x244000 x244001 x244002) else (none)) else (none)) else (none)) else (none)) else (sackbutref04_Tours.l1 k x5 x13 x15 x16 (wrap64 (x17 + 1)) x244000 x244001 x244002)
def sackbutref04_Tours.l3 : Nat → List ByteArray → Int → List ByteArray → Int → Int → Int → Int → Int → Option (ByteArray × Int)
  | 0, _, _, _, _, _, _, _, _ => none
  | k + 1, x5, x13, x35, x36, x37, x244000, x244001, x244002 => if x37 < x36 then (if 0 ≤ x37 then (if x37 < (x35.length : Int) then ((sackbutref04_Tour.f k x244000 x244001 x244002 (rdOf ByteArray.empty x35 x37)).bind fun t256 => (if t256 = true then (some (rdOf ByteArray.empty x35 x37, 0)) else (sackbutref04_Tours.l3 k x5 x13 x35 x36 (wrap64 (x37 + 1)) x244000 x244001 x244002))) else (none)) else (none)) else (sackbutref04_Tours.l0 k x5 (wrap64 (x13 + 1)) x244000 x244001 x244002)
end
def sackbutref04_Tours.f (k : Nat) (a0_0 : Int) (a0_1 : Int) (a0_2 : Int) : Option (ByteArray × Int) := sackbutref04_Tours.l0 k (([(⟨#[]⟩ : ByteArray)] : List ByteArray)) 0 a0_0 a0_1 a0_2
set_option maxHeartbeats 8000000 in
set_option maxRecDepth 100000 in
theorem sackbutref04_Tours.calls (k : Nat) (a0_0 : Int) (a0_1 : Int) (a0_2 : Int) (r1 : ByteArray) (r2 : Int) (w : World) (h : sackbutref04_Tours.f k a0_0 a0_1 a0_2 = some (r1, r2)) :
    Calls Tryd.prog 32 #[.agg #[.int .i64 a0_0, .int .i64 a0_1, .int .i64 a0_2]] w fun e w' => e = .returned (.tuple #[.string r1, .int .i64 r2]) ∧ Below w.heap.size w w' := by
  have hu23 := Tryd.underlying23
  have HB := Aside0.mk (Below.refl w.heap.size w)
  have H : (sackbutref04_Tours.l0 k (([(⟨#[]⟩ : ByteArray)] : List ByteArray)) 0 a0_0 a0_1 a0_2) = some (r1, r2) := h
  clear h
  obtain ⟨y244, hy244⟩ : ∃ y_ : List ByteArray, y_ = (([(⟨#[]⟩ : ByteArray)] : List ByteArray)) := ⟨_, rfl⟩
  replace H : (sackbutref04_Tours.l0 k y244 0 a0_0 a0_1 a0_2) = some (r1, r2) := by first | (rw [hy244]; with_reducible exact H) | (have H2_ := (Option.bind_some _ _).symm.trans H; rw [hy244]; with_reducible exact H2_) | (have H2_ := (Option.bind_some _ _).symm.trans H; with_reducible exact H2_) | with_reducible exact H | (rw [hy244]; exact H) | exact H
  have Ny244 := Aside0.mk hy244
  clear hy244
  have H' := Aside0.mk H
  clear H
  go_enter Tryd.func32, Tryd.ntmps32
  go_wp2_with (first | ((with_reducible refine gate_dst (N := 1) rfl ?_); refine box_event ?hg (N := 1) ?hd (cs := #[.int .i64 a0_0, .int .i64 a0_1, .int .i64 a0_2]) (t := 23) ?hr ?_; (case hd => rfl); (case hg => rfl); (case hr => first | (go_simp; done) | (go_simp; rfl)); intro gb243 hg w2 hbox hb; have n0_ := Aside0.mk (below_step (by repeat (first | (with_reducible first | exact HB.out | apply below_alloc | apply pw_below_drewN | apply below_drew1) | exact HB.out)) hb); have n1_ := Aside0.mk (hbox); have n2_ := Aside0.mk ((by rw [hg]; exact (below_size (by repeat (first | (with_reducible first | exact HB.out | apply below_alloc | apply pw_below_drewN | apply below_drew1) | exact HB.out))) : w.heap.size ≤ gb243)); have n3_ := Aside0.mk ((by rw [hg]; exact (below_size (by repeat (first | (with_reducible first | exact HB.out | apply below_alloc | apply pw_below_drewN | apply below_drew1) | exact HB.out))) : w.heap.size ≤ gb243)); clear HB; have HB := n0_; have BK243 := n1_; have GW243 := n2_; have GE243 := n3_; clear n0_ n1_ n2_ n3_; clear hb hbox hg) | ((with_reducible refine gate_dst (N := 12) rfl ?_); refine Kd.R_lit Kd.string _ 9 ?hg (N := 12) ?hd (xs := ([(⟨#[]⟩ : ByteArray)] : List ByteArray)) (inner := [.string (⟨#[]⟩ : ByteArray)]) (ok := fun _ => True) (okp := fun _ => True) ?hr ?hp (fun _ hk => hk) trivial (Below.refl _ _) (Nat.le_refl _) (by simp) ?_; (case hd => rfl); (case hg => rfl); (case hr => first | (go_simp; done) | (go_simp; rfl)); (case hp => exact (Reps.one (show Kd.M Kd.string _ _ _ (⟨#[]⟩ : ByteArray) [.string (⟨#[]⟩ : ByteArray)] from rfl) (Reps.none _ _))); intro v245 w3 ho4 hb hg_ hnew_; clear hg_ hnew_; (first | rw [← Ny244.out] at ho4 | (simp only [Int.reduceToNat] at ho4; rw [← Ny244.out] at ho4)); have n0_ := Aside0.mk (Kd.R_lower ho4 (below_size (by repeat (first | (with_reducible first | exact HB.out | apply below_alloc | apply pw_below_drewN | apply below_drew1 | refine below_set ?_ GE243.out) | exact HB.out)))); have n1_ := Aside0.mk (blk_below (g := gb243) (o := .cells #[.int .i64 a0_0, .int .i64 a0_1, .int .i64 a0_2] 23 (0, 0)) (by (with_reducible repeat (first | refine blk_drewN ?_ _ | refine blk_drew ?_ | refine blk_alloc ?_ _)); exact BK243.out) hb); have n2_ := Aside0.mk (below_step (by repeat (first | (with_reducible first | exact HB.out | apply below_alloc | apply pw_below_drewN | apply below_drew1 | refine below_set ?_ GE243.out) | exact HB.out)) hb); clear BK243; clear HB; have HO246 := n0_; have BK243 := n1_; have HB := n2_; clear n0_ n1_ n2_; clear hb ho4))
  go_loopg [4, 13] k (fun kq v4 v13 w' => ∃ (x4_1 : List ByteArray) (x13_1 : Int), v13 = .int .i64 x13_1 ∧ Aside0 (sackbutref04_Tours.l0 kq x4_1 x13_1 a0_0 a0_1 a0_2 = some (r1, r2)) ∧ Aside0 (kq ≤ k) ∧ Aside0 (Kd.R Kd.string 9 w' w.heap.size (fun _ => True) v4 x4_1) ∧ Aside0 (w'.heap[gb243]? = some (.cells #[.int .i64 a0_0, .int .i64 a0_1, .int .i64 a0_2] 23 (0, 0))) ∧ Aside0 (Below w.heap.size w w'))
  case atStart => exact ⟨(y244), (0), (by first | rfl | (simp; done) | (simp [*]; done)), H', ⟨Nat.le_refl _⟩, ⟨by (with_reducible repeat (first | apply Kd.R_alloc | apply Kd.R_drewN | apply Kd.R_drew)); exact HO246.out⟩, ⟨by (with_reducible repeat (first | refine blk_drewN ?_ _ | refine blk_drew ?_ | refine blk_alloc ?_ _)); exact BK243.out⟩, ⟨by repeat (first | (with_reducible first | exact HB.out | apply below_alloc | apply pw_below_drewN | apply below_drew1 | refine below_set ?_ GE243.out) | exact HB.out)⟩⟩
  case round =>
    clear H'
    try clear p2
    try clear c3
    obtain ⟨x4_1, x13_1, rfl, HA, HK1, HO_4, BK243, HB⟩ := hrel
    cases gk with
    | zero => exact absurd HA.out (by simp [sackbutref04_Tours.l0])
    | succ k1 =>
      have H := HA.out
      clear HA
      simp only [sackbutref04_Tours.l0] at H
      by_cases c5 : x13_1 < 6
      · rw [if_pos c5] at H
        have c5b0 : decide (x13_1 < 6) = true := decide_eq_true c5
        clear c5
        have H' := Aside0.mk H
        clear H
        obtain ⟨Ao6, co6, eo6⟩ := Kd.R_slice HO_4.out
        subst eo6
        go_wp2
        go_loopg [5, 17] k1 (fun kq v5 v17 w' => ∃ (x5_2 : List ByteArray) (x17_2 : Int), v17 = .int .i64 x17_2 ∧ Aside0 (sackbutref04_Tours.l1 kq x5_2 x13_1 x4_1 (x4_1.length : Int) x17_2 a0_0 a0_1 a0_2 = some (r1, r2)) ∧ Aside0 (kq ≤ k1) ∧ Aside0 (Kd.R Kd.string 9 w' w.heap.size (fun k_ => some k_ ≠ ((.slice Ao6 x4_1.length co6) : Value).ownBlock) v5 x5_2) ∧ Aside0 (Kd.R Kd.string 9 w' w.heap.size (fun k_ => some k_ ≠ (v5 : Value).ownBlock) (.slice Ao6 x4_1.length co6) x4_1) ∧ Aside0 (w'.heap[gb243]? = some (.cells #[.int .i64 a0_0, .int .i64 a0_1, .int .i64 a0_2] 23 (0, 0))) ∧ Aside0 (Below w.heap.size w w'))
        case atStart => exact ⟨(([] : List ByteArray)), (0), (by first | rfl | (simp; done) | (simp [*]; done)), H', ⟨Nat.le_refl _⟩, ⟨by first | exact Kd.R_nil _ _ _ _ _ | exact Kd.N_nil _ _ _ _ _ | exact Kd.V_nil _ _ _ _ _ | exact Kd.Q_nil _ _ _ _ _ | exact Kd.S_nil _ _ _ _ _⟩, ⟨by (with_reducible repeat (first | apply Kd.R_alloc | apply Kd.R_drewN | apply Kd.R_drew)); exact Kd.R_mono HO_4.out (fun _ hk => (by simp [Value.ownBlock]))⟩, ⟨by (with_reducible repeat (first | refine blk_drewN ?_ _ | refine blk_drew ?_ | refine blk_alloc ?_ _)); exact BK243.out⟩, ⟨by repeat (first | (with_reducible first | exact HB.out | apply below_alloc | apply pw_below_drewN | apply below_drew1 | refine below_set ?_ GE243.out) | exact HB.out)⟩⟩
        case round =>
          clear H'
          try clear p2
          try clear c3
          try clear c5
          try clear c5b0
          try clear p2
          obtain ⟨x5_2, x17_2, rfl, HA, HK2, HO_5, HO_15, BK243, HB⟩ := hrel
          cases gk with
          | zero => exact absurd HA.out (by simp [sackbutref04_Tours.l1])
          | succ k2 =>
            have H := HA.out
            clear HA
            simp only [sackbutref04_Tours.l1] at H
            by_cases c7 : x17_2 < (x4_1.length : Int)
            · rw [if_pos c7] at H
              have c7b0 : decide (x17_2 < (x4_1.length : Int)) = true := decide_eq_true c7
              clear c7
              by_cases c8 : 0 ≤ x17_2
              · rw [if_pos c8] at H
                have c8b0 : decide (0 ≤ x17_2) = true := decide_eq_true c8
                clear c8
                by_cases c9 : x17_2 < (x4_1.length : Int)
                · rw [if_pos c9] at H
                  have c9b0 : decide (x17_2 < (x4_1.length : Int)) = true := decide_eq_true c9
                  clear c9
                  obtain ⟨y248, hy248⟩ : ∃ y_ : List ByteArray, y_ = (([(⟨#[76]⟩ : ByteArray), (⟨#[80]⟩ : ByteArray), (⟨#[82]⟩ : ByteArray)] : List ByteArray)) := ⟨_, rfl⟩
                  replace H : (sackbutref04_Tours.l2 k2 x5_2 (rdOf ByteArray.empty x4_1 x17_2) x13_1 x4_1 (x4_1.length : Int) x17_2 y248 (y248.length : Int) 0 a0_0 a0_1 a0_2) = some (r1, r2) := by first | (rw [hy248]; with_reducible exact H) | (have H2_ := (Option.bind_some _ _).symm.trans H; rw [hy248]; with_reducible exact H2_) | (have H2_ := (Option.bind_some _ _).symm.trans H; with_reducible exact H2_) | with_reducible exact H | (rw [hy248]; exact H) | exact H
                  have Ny248 := Aside0.mk hy248
                  clear hy248
                  have H' := Aside0.mk H
                  clear H
                  have p247 : 0 ≤ (x17_2 : Int) := of_decide_eq_true (by first | (with_reducible assumption) | assumption)
                  have q247 : x17_2 < (x4_1.length : Int) := of_decide_eq_true (by first | (with_reducible assumption) | assumption)
                  obtain ⟨ad247, e247, hx247_0⟩ := Kd.at_string (Kd.R_reads' HO_15.out).2.2 x17_2 p247 q247
                  cases e247
                  replace p247 := eq_true p247
                  replace q247 := eq_true q247
                  go_wp2_with (first | ((with_reducible refine gate_dst (N := 21) rfl ?_); refine Kd.R_lit Kd.string _ 9 ?hg (N := 21) ?hd (xs := ([(⟨#[76]⟩ : ByteArray), (⟨#[80]⟩ : ByteArray), (⟨#[82]⟩ : ByteArray)] : List ByteArray)) (inner := [.string (⟨#[76]⟩ : ByteArray), .string (⟨#[80]⟩ : ByteArray), .string (⟨#[82]⟩ : ByteArray)]) (ok := fun _ => True) (okp := fun _ => True) ?hr ?hp (fun _ hk => hk) trivial (Below.refl _ _) (Nat.le_refl _) (by simp) ?_; (case hd => rfl); (case hg => rfl); (case hr => first | (go_simp; done) | (go_simp; rfl)); (case hp => exact (Reps.one (show Kd.M Kd.string _ _ _ (⟨#[76]⟩ : ByteArray) [.string (⟨#[76]⟩ : ByteArray)] from rfl) (Reps.one (show Kd.M Kd.string _ _ _ (⟨#[80]⟩ : ByteArray) [.string (⟨#[80]⟩ : ByteArray)] from rfl) (Reps.one (show Kd.M Kd.string _ _ _ (⟨#[82]⟩ : ByteArray) [.string (⟨#[82]⟩ : ByteArray)] from rfl) (Reps.none _ _))))); intro v249 w10 ho11 hb hg_ hnew_; clear hg_ hnew_; (first | rw [← Ny248.out] at ho11 | (simp only [Int.reduceToNat] at ho11; rw [← Ny248.out] at ho11)); have n0_ := Aside0.mk (Kd.R_elder' (by (with_reducible repeat (first | apply Kd.R_alloc | apply Kd.R_drewN | apply Kd.R_drew)); exact HO_5.out) (Kd.R_base ho11) hb); have n1_ := Aside0.mk (Kd.R_elder' (by (with_reducible repeat (first | apply Kd.R_alloc | apply Kd.R_drewN | apply Kd.R_drew)); exact HO_15.out) (Kd.R_base ho11) hb); have n2_ := Aside0.mk (Kd.R_lower (Kd.R_new' (Kd.R_new' ho11 (Kd.R_lt (by (with_reducible repeat (first | apply Kd.R_alloc | apply Kd.R_drewN | apply Kd.R_drew)); exact HO_5.out))) (Kd.R_lt (by (with_reducible repeat (first | apply Kd.R_alloc | apply Kd.R_drewN | apply Kd.R_drew)); exact HO_15.out))) (below_size (by repeat (first | (with_reducible first | exact HB.out | apply below_alloc | apply pw_below_drewN | apply below_drew1 | refine below_set ?_ GE243.out) | exact HB.out)))); have n3_ := Aside0.mk (blk_below (g := gb243) (o := .cells #[.int .i64 a0_0, .int .i64 a0_1, .int .i64 a0_2] 23 (0, 0)) (by (with_reducible repeat (first | refine blk_drewN ?_ _ | refine blk_drew ?_ | refine blk_alloc ?_ _)); exact BK243.out) hb); have n4_ := Aside0.mk (below_step (by repeat (first | (with_reducible first | exact HB.out | apply below_alloc | apply pw_below_drewN | apply below_drew1 | refine below_set ?_ GE243.out) | exact HB.out)) hb); clear HO_5; clear HO_15; clear BK243; clear HB; have HO_5 := n0_; have HO_15 := n1_; have HO250 := n2_; have BK243 := n3_; have HB := n4_; clear n0_ n1_ n2_ n3_ n4_; clear hb ho11; obtain ⟨Ao12, co12, eo12⟩ := Kd.R_slice HO250.out; subst eo12))
                  go_loopg [5, 23] k2 (fun kq v5 v23 w' => ∃ (x5_3 : List ByteArray) (x23_3 : Int), v23 = .int .i64 x23_3 ∧ Aside0 (sackbutref04_Tours.l2 kq x5_3 (rdOf ByteArray.empty x4_1 x17_2) x13_1 x4_1 (x4_1.length : Int) x17_2 y248 (y248.length : Int) x23_3 a0_0 a0_1 a0_2 = some (r1, r2)) ∧ Aside0 (kq ≤ k2) ∧ Aside0 (Kd.R Kd.string 9 w' w.heap.size (fun k_ => some k_ ≠ ((.slice (some ad247) x4_1.length co6) : Value).ownBlock ∧ some k_ ≠ ((.slice Ao12 y248.length co12) : Value).ownBlock) v5 x5_3) ∧ Aside0 (Kd.R Kd.string 9 w' w.heap.size (fun k_ => some k_ ≠ (v5 : Value).ownBlock ∧ some k_ ≠ ((.slice Ao12 y248.length co12) : Value).ownBlock) (.slice (some ad247) x4_1.length co6) x4_1) ∧ Aside0 (Kd.R Kd.string 9 w' w.heap.size (fun k_ => some k_ ≠ (v5 : Value).ownBlock ∧ some k_ ≠ ((.slice (some ad247) x4_1.length co6) : Value).ownBlock) (.slice Ao12 y248.length co12) y248) ∧ Aside0 (w'.heap[gb243]? = some (.cells #[.int .i64 a0_0, .int .i64 a0_1, .int .i64 a0_2] 23 (0, 0))) ∧ Aside0 (Below w.heap.size w w'))
                  case atStart => exact ⟨(x5_2), (0), (by first | rfl | (simp; done) | (simp [*]; done)), H', ⟨Nat.le_refl _⟩, ⟨by (with_reducible repeat (first | apply Kd.R_alloc | apply Kd.R_drewN | apply Kd.R_drew)); exact HO_5.out⟩, ⟨by (with_reducible repeat (first | apply Kd.R_alloc | apply Kd.R_drewN | apply Kd.R_drew)); exact HO_15.out⟩, ⟨by (with_reducible repeat (first | apply Kd.R_alloc | apply Kd.R_drewN | apply Kd.R_drew)); exact Kd.R_mono HO250.out (fun _ hk => ⟨hk.1.2, hk.2⟩)⟩, ⟨by (with_reducible repeat (first | refine blk_drewN ?_ _ | refine blk_drew ?_ | refine blk_alloc ?_ _)); exact BK243.out⟩, ⟨by repeat (first | (with_reducible first | exact HB.out | apply below_alloc | apply pw_below_drewN | apply below_drew1 | refine below_set ?_ GE243.out) | exact HB.out)⟩⟩
                  case round =>
                    clear H'
                    try clear p2
                    try clear q2
                    try clear hx2
                    try clear c3
                    try clear c5
                    try clear c5b0
                    try clear c7
                    try clear c7b0
                    try clear c8
                    try clear c8b0
                    try clear c9
                    try clear c9b0
                    try clear hx247_0
                    try clear p2
                    try clear p247
                    try clear q247
                    obtain ⟨x5_3, x23_3, rfl, HA, HK3, HO_5, HO_15, HO_21, BK243, HB⟩ := hrel
                    cases gk with
                    | zero => exact absurd HA.out (by simp [sackbutref04_Tours.l2])
                    | succ k3 =>
                      have H := HA.out
                      clear HA
                      simp only [sackbutref04_Tours.l2] at H
                      by_cases c13 : x23_3 < (y248.length : Int)
                      · rw [if_pos c13] at H
                        have c13b0 : decide (x23_3 < (y248.length : Int)) = true := decide_eq_true c13
                        clear c13
                        by_cases c14 : 0 ≤ x23_3
                        · rw [if_pos c14] at H
                          have c14b0 : decide (0 ≤ x23_3) = true := decide_eq_true c14
                          clear c14
                          by_cases c15 : x23_3 < (y248.length : Int)
                          · rw [if_pos c15] at H
                            have c15b0 : decide (x23_3 < (y248.length : Int)) = true := decide_eq_true c15
                            clear c15
                            by_cases c16 : (rdOf ByteArray.empty x4_1 x17_2).size + (rdOf ByteArray.empty y248 x23_3).size ≤ 9223372036854775807
                            · rw [if_pos c16] at H
                              have c16b0 := eq_true c16
                              have c16b1 : decide ((rdOf ByteArray.empty x4_1 x17_2).size + (rdOf ByteArray.empty y248 x23_3).size ≤ 9223372036854775807) = true := decide_eq_true c16
                              try have c16b2 : (9223372036854775807 < (rdOf ByteArray.empty x4_1 x17_2).size + (rdOf ByteArray.empty y248 x23_3).size) = False := eq_false (Nat.not_lt.2 c16)
                              by_cases c17 : x5_3.length < 8796093022208
                              · rw [if_pos c17] at H
                                have LMc17 := Aside0.mk c17
                                clear c17
                                obtain ⟨y252, hy252⟩ : ∃ y_ : List ByteArray, y_ = (x5_3 ++ [(rdOf ByteArray.empty x4_1 x17_2) ++ (rdOf ByteArray.empty y248 x23_3)]) := ⟨_, rfl⟩
                                replace H : (sackbutref04_Tours.l2 k3 y252 (rdOf ByteArray.empty x4_1 x17_2) x13_1 x4_1 (x4_1.length : Int) x17_2 y248 (y248.length : Int) (wrap64 (x23_3 + 1)) a0_0 a0_1 a0_2) = some (r1, r2) := by first | (rw [hy252]; with_reducible exact H) | (have H2_ := (Option.bind_some _ _).symm.trans H; rw [hy252]; with_reducible exact H2_) | (have H2_ := (Option.bind_some _ _).symm.trans H; with_reducible exact H2_) | with_reducible exact H | (rw [hy252]; exact H) | exact H
                                have Ny252 := Aside0.mk hy252
                                clear hy252
                                have H' := Aside0.mk H
                                clear H
                                have p251 : 0 ≤ (x23_3 : Int) := of_decide_eq_true (by first | (with_reducible assumption) | assumption)
                                have q251 : x23_3 < (y248.length : Int) := of_decide_eq_true (by first | (with_reducible assumption) | assumption)
                                obtain ⟨ad251, e251, hx251_0⟩ := Kd.at_string (Kd.R_reads' HO_21.out).2.2 x23_3 p251 q251
                                cases e251
                                replace p251 := eq_true p251
                                replace q251 := eq_true q251
                                go_wp2_with (first | ((with_reducible refine gate_builtin (b := .append) (xs := #[.tmp 27, .tmp 31]) rfl ?_); at_builtin; refine Kd.R_append Kd.string (w0 := w) w.heap.size rfl (.tmp 27) (.tmp 31) 40 9 (.string ⟨#[]⟩) 16 rfl Tryd.underlying40 info9 rfl (by decide) (by omega) u5 x5_3 ((rdOf ByteArray.empty x4_1 x17_2) ++ (rdOf ByteArray.empty y248 x23_3)) [.string ((rdOf ByteArray.empty x4_1 x17_2) ++ (rdOf ByteArray.empty y248 x23_3))] (fun k_ => some k_ ≠ (.slice (some ad247) x4_1.length co6 : Value).ownBlock ∧ some k_ ≠ (.slice (some ad251) y248.length co12 : Value).ownBlock) (fun _ => False) rfl rfl ?aP (fun _ hk => hk.elim) ?aF ?aO ?aB ?aS ?aL ?_; (case aP => exact rfl); (case aB => exact (by repeat (first | (with_reducible first | exact HB.out | apply below_alloc | apply pw_below_drewN | apply below_drew1 | refine below_set ?_ GE243.out) | exact HB.out))); (case aF => exact (fun k_ hk => ⟨Kd.fresh' (Kd.R_lt (by (with_reducible repeat (first | apply Kd.R_alloc | apply Kd.R_drewN | apply Kd.R_drew)); exact HO_15.out)) k_ hk, Kd.fresh' (Kd.R_lt (by (with_reducible repeat (first | apply Kd.R_alloc | apply Kd.R_drewN | apply Kd.R_drew)); exact HO_21.out)) k_ hk⟩)); (case aO => exact (by (with_reducible repeat (first | apply Kd.R_alloc | apply Kd.R_drewN | apply Kd.R_drew)); exact HO_5.out)); (case aS => exact (below_size (by repeat (first | (with_reducible first | exact HB.out | apply below_alloc | apply pw_below_drewN | apply below_drew1 | refine below_set ?_ GE243.out) | exact HB.out)))); (case aL => have := LMc17.out; omega); intro v253 w18 ho hb hg hat; rw [← Ny252.out] at ho; have n0_ := Aside0.mk (Kd.R_after (ok := (fun k_ => some k_ ≠ (.slice (some ad251) y248.length co12 : Value).ownBlock)) (by (with_reducible repeat (first | apply Kd.R_alloc | apply Kd.R_drewN | apply Kd.R_drew)); exact Kd.R_mono HO_15.out (fun _ hk => ⟨hk.2, hk.1⟩)) hg hat); have n1_ := Aside0.mk (Kd.R_after (ok := (fun k_ => some k_ ≠ (.slice (some ad247) x4_1.length co6 : Value).ownBlock)) (by (with_reducible repeat (first | apply Kd.R_alloc | apply Kd.R_drewN | apply Kd.R_drew)); exact Kd.R_mono HO_21.out (fun _ hk => ⟨hk.2, hk.1⟩)) hg hat); have n2_ := Aside0.mk (blk_grown (g := gb243) (o := .cells #[.int .i64 a0_0, .int .i64 a0_1, .int .i64 a0_2] 23 (0, 0)) (by (with_reducible repeat (first | refine blk_drewN ?_ _ | refine blk_drew ?_ | refine blk_alloc ?_ _)); exact BK243.out) hg (Kd.R_ne HO_5.out BK243.out (by decide))); have n3_ := Aside0.mk (hb); have n4_ := Aside0.mk (ho); clear HO_15; clear HO_21; clear BK243; clear HB; clear HO_5; have HO_15 := n0_; have HO_21 := n1_; have BK243 := n2_; have HB := n3_; have HO254 := n4_; clear n0_ n1_ n2_ n3_ n4_; clear ho hb hg hat))
                                go_roundg k3
                                case measure => have := HK1.out; have := HK2.out; have := HK3.out; omega
                                case rel => exact ⟨(y252), (wrap64 (x23_3 + 1)), (by first | rfl | (simp; done) | (simp [*]; done)), H', ⟨by have := HK1.out; have := HK2.out; have := HK3.out; omega⟩, ⟨by (with_reducible repeat (first | apply Kd.R_alloc | apply Kd.R_drewN | apply Kd.R_drew)); exact HO254.out⟩, ⟨by (with_reducible repeat (first | apply Kd.R_alloc | apply Kd.R_drewN | apply Kd.R_drew)); exact Kd.R_mono HO_15.out (fun _ hk => ⟨hk.2, hk.1⟩)⟩, ⟨by (with_reducible repeat (first | apply Kd.R_alloc | apply Kd.R_drewN | apply Kd.R_drew)); exact Kd.R_mono HO_21.out (fun _ hk => ⟨hk.2, hk.1⟩)⟩, ⟨by (with_reducible repeat (first | refine blk_drewN ?_ _ | refine blk_drew ?_ | refine blk_alloc ?_ _)); exact BK243.out⟩, ⟨by repeat (first | (with_reducible first | exact HB.out | apply below_alloc | apply pw_below_drewN | apply below_drew1 | refine below_set ?_ GE243.out) | exact HB.out)⟩⟩
                              · rw [if_neg c17] at H
                                exact absurd H (by simp)
                            · rw [if_neg c16] at H
                              exact absurd H (by simp)
                          · rw [if_neg c15] at H
                            exact absurd H (by simp)
                        · rw [if_neg c14] at H
                          exact absurd H (by simp)
                      · rw [if_neg c13] at H
                        have c13b0 : decide (x23_3 < (y248.length : Int)) = false := decide_eq_false c13
                        clear c13
                        have H' := Aside0.mk H
                        clear H
                        go_wp2
                        go_roundg k3
                        case measure => have := HK1.out; have := HK2.out; have := HK3.out; omega
                        case rel => exact ⟨(x5_3), (wrap64 (x17_2 + 1)), (by first | rfl | (simp; done) | (simp [*]; done)), H', ⟨by have := HK1.out; have := HK2.out; have := HK3.out; omega⟩, ⟨by (with_reducible repeat (first | apply Kd.R_alloc | apply Kd.R_drewN | apply Kd.R_drew)); exact Kd.R_mono HO_5.out (fun _ hk => hk.1)⟩, ⟨by (with_reducible repeat (first | apply Kd.R_alloc | apply Kd.R_drewN | apply Kd.R_drew)); exact Kd.R_mono HO_15.out (fun _ hk => hk.1)⟩, ⟨by (with_reducible repeat (first | refine blk_drewN ?_ _ | refine blk_drew ?_ | refine blk_alloc ?_ _)); exact BK243.out⟩, ⟨by repeat (first | (with_reducible first | exact HB.out | apply below_alloc | apply pw_below_drewN | apply below_drew1 | refine below_set ?_ GE243.out) | exact HB.out)⟩⟩
                · rw [if_neg c9] at H
                  exact absurd H (by simp)
              · rw [if_neg c8] at H
                exact absurd H (by simp)
            · rw [if_neg c7] at H
              have c7b0 : decide (x17_2 < (x4_1.length : Int)) = false := decide_eq_false c7
              clear c7
              have H' := Aside0.mk H
              clear H
              obtain ⟨Ao19, co19, eo19⟩ := Kd.R_slice HO_5.out
              subst eo19
              go_wp2
              go_loopg [37] k2 (fun kq v37 w' => ∃ (x37_3 : Int), v37 = .int .i64 x37_3 ∧ Aside0 (sackbutref04_Tours.l3 kq x5_2 x13_1 x5_2 (x5_2.length : Int) x37_3 a0_0 a0_1 a0_2 = some (r1, r2)) ∧ Aside0 (kq ≤ k2) ∧ Aside0 (Kd.R Kd.string 9 w' w.heap.size (fun _ => True) (.slice Ao19 x5_2.length co19) x5_2) ∧ Aside0 (Kd.R Kd.string 9 w' w.heap.size (fun _ => True) (.slice Ao19 x5_2.length co19) x5_2) ∧ Aside0 (w'.heap[gb243]? = some (.cells #[.int .i64 a0_0, .int .i64 a0_1, .int .i64 a0_2] 23 (0, 0))) ∧ Aside0 (Below w.heap.size w w'))
              case atStart => exact ⟨(0), (by first | rfl | (simp; done) | (simp [*]; done)), H', ⟨Nat.le_refl _⟩, ⟨by (with_reducible repeat (first | apply Kd.R_alloc | apply Kd.R_drewN | apply Kd.R_drew)); exact Kd.R_mono HO_5.out (fun _ hk => trivial)⟩, ⟨by (with_reducible repeat (first | apply Kd.R_alloc | apply Kd.R_drewN | apply Kd.R_drew)); exact Kd.R_mono HO_5.out (fun _ hk => trivial)⟩, ⟨by (with_reducible repeat (first | refine blk_drewN ?_ _ | refine blk_drew ?_ | refine blk_alloc ?_ _)); exact BK243.out⟩, ⟨by repeat (first | (with_reducible first | exact HB.out | apply below_alloc | apply pw_below_drewN | apply below_drew1 | refine below_set ?_ GE243.out) | exact HB.out)⟩⟩
              case round =>
                clear H'
                try clear c1
                try clear p2
                try clear q2
                try clear hx2
                try clear c3
                try clear c5
                try clear c5b0
                try clear p6
                try clear c7
                try clear c7b0
                try clear c8
                try clear c8b0
                try clear c9
                try clear c9b0
                try clear c13
                try clear c13b0
                try clear c14
                try clear c14b0
                try clear c15
                try clear c15b0
                try clear c16
                try clear c16b0
                try clear c16b1
                try clear c16b2
                try clear c17
                try clear hx247_0
                try clear hx251_0
                try clear p2
                try clear p247
                try clear p251
                try clear q2
                try clear q247
                try clear q251
                obtain ⟨x37_3, rfl, HA, HK3, HO_5, HO_35, BK243, HB⟩ := hrel
                cases gk with
                | zero => exact absurd HA.out (by simp [sackbutref04_Tours.l3])
                | succ k3 =>
                  have H := HA.out
                  clear HA
                  simp only [sackbutref04_Tours.l3] at H
                  by_cases c20 : x37_3 < (x5_2.length : Int)
                  · rw [if_pos c20] at H
                    have c20b0 : decide (x37_3 < (x5_2.length : Int)) = true := decide_eq_true c20
                    clear c20
                    by_cases c21 : 0 ≤ x37_3
                    · rw [if_pos c21] at H
                      have c21b0 : decide (0 ≤ x37_3) = true := decide_eq_true c21
                      clear c21
                      by_cases c22 : x37_3 < (x5_2.length : Int)
                      · rw [if_pos c22] at H
                        have c22b0 : decide (x37_3 < (x5_2.length : Int)) = true := decide_eq_true c22
                        clear c22
                        replace H := Option.bind_eq_some_iff.mp H
                        obtain ⟨t256, A230, H⟩ := H
                        replace H : (if t256 = true then (some (rdOf ByteArray.empty x5_2 x37_3, 0)) else (sackbutref04_Tours.l3 k3 x5_2 x13_1 x5_2 (x5_2.length : Int) (wrap64 (x37_3 + 1)) a0_0 a0_1 a0_2)) = some (r1, r2) := H
                        have A23 := Aside0.mk A230
                        clear A230
                        by_cases c24 : t256 = true
                        · subst c24
                          have H1 : (some (rdOf ByteArray.empty x5_2 x37_3, 0)) = some (r1, r2) := by rw [if_pos rfl] at H; exact H
                          clear H
                          have H := H1
                          clear H1
                          simp only [Option.some.injEq, Prod.mk.injEq] at H
                          obtain ⟨rfl, rfl⟩ := H
                          have p255 : 0 ≤ (x37_3 : Int) := of_decide_eq_true (by first | (with_reducible assumption) | assumption)
                          have q255 : x37_3 < (x5_2.length : Int) := of_decide_eq_true (by first | (with_reducible assumption) | assumption)
                          obtain ⟨ad255, e255, hx255_0⟩ := Kd.at_string (Kd.R_reads' HO_35.out).2.2 x37_3 p255 q255
                          cases e255
                          replace p255 := eq_true p255
                          replace q255 := eq_true q255
                          have hcz25_0 : wr.cell? ⟨gb243, 0, none⟩ = some (.int .i64 a0_0) := (blk_cell BK243.out 0).trans rfl
                          have hcz25_1 : wr.cell? ⟨gb243, 1, none⟩ = some (.int .i64 a0_1) := (blk_cell BK243.out 1).trans rfl
                          have hcz25_2 : wr.cell? ⟨gb243, 2, none⟩ = some (.int .i64 a0_2) := (blk_cell BK243.out 2).trans rfl
                          have hfz25_0 := blk_frozen BK243.out 0
                          have hfz25_1 := blk_frozen BK243.out 1
                          have hfz25_2 := blk_frozen BK243.out 2
                          go_wp2_with (first | ((with_reducible refine gate_callee (f := 33) rfl ?_); refine goesL_ (some 43) rfl rfl Tryd.func33 (by kernel_rfl) rfl #[.agg #[.int .i64 a0_0, .int .i64 a0_1, .int .i64 a0_2], .string (rdOf ByteArray.empty x5_2 x37_3)] rfl (by (try simp only [List.map_toArray, List.map_cons, List.map_nil]); first | done | rfl | (simp only [List.length_drop, List.length_take]; rfl)) ?_; (with_reducible refine (sackbutref04_Tour.calls k3 a0_0 a0_1 a0_2 (rdOf ByteArray.empty x5_2 x37_3) true _ A23.out).mono ?_); rintro e w26 ⟨rfl, hb⟩; refine ⟨_, rfl, ?_⟩; have n0_ := Aside0.mk (Kd.R_below (by (with_reducible repeat (first | apply Kd.R_alloc | apply Kd.R_drewN | apply Kd.R_drew)); exact HO_5.out) hb); have n1_ := Aside0.mk (Kd.R_below (by (with_reducible repeat (first | apply Kd.R_alloc | apply Kd.R_drewN | apply Kd.R_drew)); exact HO_35.out) hb); have n2_ := Aside0.mk (blk_below (g := gb243) (o := .cells #[.int .i64 a0_0, .int .i64 a0_1, .int .i64 a0_2] 23 (0, 0)) (by (with_reducible repeat (first | refine blk_drewN ?_ _ | refine blk_drew ?_ | refine blk_alloc ?_ _)); exact BK243.out) hb); have n3_ := Aside0.mk (below_step (by repeat (first | (with_reducible first | exact HB.out | apply below_alloc | apply pw_below_drewN | apply below_drew1 | refine below_set ?_ GE243.out) | exact HB.out)) hb); clear HO_5; clear HO_35; clear BK243; clear HB; have HO_5 := n0_; have HO_35 := n1_; have BK243 := n2_; have HB := n3_; clear n0_ n1_ n2_ n3_; (try clear hb); (try clear hb2); (try clear hk); (try clear hi)))
                          go_ret2
                          exact ⟨by first | rfl | (simp [errW_none, errW_some] <;> rfl) | (simp [*, errW_none, errW_some] <;> rfl), by repeat (first | (with_reducible first | exact HB.out | apply below_alloc | apply pw_below_drewN | apply below_drew1 | refine below_set ?_ GE243.out) | exact HB.out)⟩
                        · replace c24 := Bool.eq_false_iff.mpr c24
                          subst c24
                          have H1 : (sackbutref04_Tours.l3 k3 x5_2 x13_1 x5_2 (x5_2.length : Int) (wrap64 (x37_3 + 1)) a0_0 a0_1 a0_2) = some (r1, r2) := by rw [if_neg (show ¬ (false = true) by decide)] at H; exact H
                          clear H
                          have H := H1
                          clear H1
                          have H' := Aside0.mk H
                          clear H
                          have p255 : 0 ≤ (x37_3 : Int) := of_decide_eq_true (by first | (with_reducible assumption) | assumption)
                          have q255 : x37_3 < (x5_2.length : Int) := of_decide_eq_true (by first | (with_reducible assumption) | assumption)
                          obtain ⟨ad255, e255, hx255_0⟩ := Kd.at_string (Kd.R_reads' HO_35.out).2.2 x37_3 p255 q255
                          cases e255
                          replace p255 := eq_true p255
                          replace q255 := eq_true q255
                          have hcz27_0 : wr.cell? ⟨gb243, 0, none⟩ = some (.int .i64 a0_0) := (blk_cell BK243.out 0).trans rfl
                          have hcz27_1 : wr.cell? ⟨gb243, 1, none⟩ = some (.int .i64 a0_1) := (blk_cell BK243.out 1).trans rfl
                          have hcz27_2 : wr.cell? ⟨gb243, 2, none⟩ = some (.int .i64 a0_2) := (blk_cell BK243.out 2).trans rfl
                          have hfz27_0 := blk_frozen BK243.out 0
                          have hfz27_1 := blk_frozen BK243.out 1
                          have hfz27_2 := blk_frozen BK243.out 2
                          go_wp2_with (first | ((with_reducible refine gate_callee (f := 33) rfl ?_); refine goesL_ (some 43) rfl rfl Tryd.func33 (by kernel_rfl) rfl #[.agg #[.int .i64 a0_0, .int .i64 a0_1, .int .i64 a0_2], .string (rdOf ByteArray.empty x5_2 x37_3)] rfl (by (try simp only [List.map_toArray, List.map_cons, List.map_nil]); first | done | rfl | (simp only [List.length_drop, List.length_take]; rfl)) ?_; (with_reducible refine (sackbutref04_Tour.calls k3 a0_0 a0_1 a0_2 (rdOf ByteArray.empty x5_2 x37_3) false _ A23.out).mono ?_); rintro e w28 ⟨rfl, hb⟩; refine ⟨_, rfl, ?_⟩; have n0_ := Aside0.mk (Kd.R_below (by (with_reducible repeat (first | apply Kd.R_alloc | apply Kd.R_drewN | apply Kd.R_drew)); exact HO_5.out) hb); have n1_ := Aside0.mk (Kd.R_below (by (with_reducible repeat (first | apply Kd.R_alloc | apply Kd.R_drewN | apply Kd.R_drew)); exact HO_35.out) hb); have n2_ := Aside0.mk (blk_below (g := gb243) (o := .cells #[.int .i64 a0_0, .int .i64 a0_1, .int .i64 a0_2] 23 (0, 0)) (by (with_reducible repeat (first | refine blk_drewN ?_ _ | refine blk_drew ?_ | refine blk_alloc ?_ _)); exact BK243.out) hb); have n3_ := Aside0.mk (below_step (by repeat (first | (with_reducible first | exact HB.out | apply below_alloc | apply pw_below_drewN | apply below_drew1 | refine below_set ?_ GE243.out) | exact HB.out)) hb); clear HO_5; clear HO_35; clear BK243; clear HB; have HO_5 := n0_; have HO_35 := n1_; have BK243 := n2_; have HB := n3_; clear n0_ n1_ n2_ n3_; (try clear hb); (try clear hb2); (try clear hk); (try clear hi)))
                          go_roundg k3
                          case measure => have := HK1.out; have := HK2.out; have := HK3.out; omega
                          case rel => exact ⟨(wrap64 (x37_3 + 1)), (by first | rfl | (simp; done) | (simp [*]; done)), H', ⟨by have := HK1.out; have := HK2.out; have := HK3.out; omega⟩, ⟨by (with_reducible repeat (first | apply Kd.R_alloc | apply Kd.R_drewN | apply Kd.R_drew)); exact HO_5.out⟩, ⟨by (with_reducible repeat (first | apply Kd.R_alloc | apply Kd.R_drewN | apply Kd.R_drew)); exact HO_35.out⟩, ⟨by (with_reducible repeat (first | refine blk_drewN ?_ _ | refine blk_drew ?_ | refine blk_alloc ?_ _)); exact BK243.out⟩, ⟨by repeat (first | (with_reducible first | exact HB.out | apply below_alloc | apply pw_below_drewN | apply below_drew1 | refine below_set ?_ GE243.out) | exact HB.out)⟩⟩
                      · rw [if_neg c22] at H
                        exact absurd H (by simp)
                    · rw [if_neg c21] at H
                      exact absurd H (by simp)
                  · rw [if_neg c20] at H
                    have c20b0 : decide (x37_3 < (x5_2.length : Int)) = false := decide_eq_false c20
                    clear c20
                    have H' := Aside0.mk H
                    clear H
                    go_wp2
                    go_roundg k3
                    case measure => have := HK1.out; have := HK2.out; have := HK3.out; omega
                    case rel => exact ⟨(x5_2), (wrap64 (x13_1 + 1)), (by first | rfl | (simp; done) | (simp [*]; done)), H', ⟨by have := HK1.out; have := HK2.out; have := HK3.out; omega⟩, ⟨by (with_reducible repeat (first | apply Kd.R_alloc | apply Kd.R_drewN | apply Kd.R_drew)); exact HO_5.out⟩, ⟨by (with_reducible repeat (first | refine blk_drewN ?_ _ | refine blk_drew ?_ | refine blk_alloc ?_ _)); exact BK243.out⟩, ⟨by repeat (first | (with_reducible first | exact HB.out | apply below_alloc | apply pw_below_drewN | apply below_drew1 | refine below_set ?_ GE243.out) | exact HB.out)⟩⟩
      · rw [if_neg c5] at H
        have c5b0 : decide (x13_1 < 6) = false := decide_eq_false c5
        clear c5
        simp only [Option.some.injEq, Prod.mk.injEq] at H
        obtain ⟨rfl, rfl⟩ := H
        go_wp2
        go_ret2
        exact ⟨by first | rfl | (simp [errW_none, errW_some] <;> rfl) | (simp [*, errW_none, errW_some] <;> rfl), by repeat (first | (with_reducible first | exact HB.out | apply below_alloc | apply pw_below_drewN | apply below_drew1 | refine below_set ?_ GE243.out) | exact HB.out)⟩

end Go.Proofs.YtpaeobpmkdekfaaDoor.P
end

section
namespace Go.Proofs.YtpaeobpmkdekfaaDoor.P
open Go.RowKit Go.Proofs.YtpaeobpmkdekfaaDoorW.PrintWords Go.Proofs.YtpaeobpmkdekfaaDoorW.PrintLast Go.Proofs.YtpaeobpmkdekfaaDoorW.PrintMore
attribute [local go_sem] max2_int min2_int max_two min_two max_three min_three max_four min_four   -- for this text's walks alone
set_option linter.unusedVariables false
set_option linter.unusedSimpArgs false
def sackbutlaw04_TriadsTours.j0 : Nat → ByteArray → Bool → Int → Int → Int → Int → Option (Bool)
  | 0, _, _, _, _, _, _ => none
  | k + 1, x1, x5, x6, x258000, x258001, x258002 => (sackbutref04_IsWalk.f k x1).bind fun t273 => (if t273 = true then ((sackbutref04_Tour.f k x258000 x258001 x258002 x1).bind fun t274 => (if (x5 == t274) = true then (if x6 = 0 then ((sackbutlaw04_awake.f).bind fun t275 => (some t275)) else (some false)) else (some false))) else (if x5 = true then (some false) else (if x6 = 3 then ((sackbutlaw04_awake.f).bind fun t276 => (some t276)) else (some false))))
def sackbutlaw04_TriadsTours.f (k : Nat) (a0_0 : Int) (a0_1 : Int) (a0_2 : Int) (a1 : ByteArray) : Option (Bool) := (sackbutlaw04_Of.f a0_0 a0_1 a0_2).bind fun bt258 => ((sackbutlaw04_text.f a1).bind fun t261 => ((triads_Tour.f k bt258.1 bt258.2.1 bt258.2.2 t261).bind fun bt262 => ((sackbutlaw04_Of.f a0_0 a0_1 a0_2).bind fun bt264 => ((triads_Tours.f bt264.1 bt264.2.1 bt264.2.2).bind fun bt267 => ((sackbutref04_Valid.f a0_0 a0_1 a0_2).bind fun t269 => (if t269 = true then (if a0_0 > 12 then (if bt267.1.toList = ([] : List UInt8) then (if bt267.2 = 2 then (sackbutlaw04_TriadsTours.j0 k a1 bt262.1 bt262.2 a0_0 a0_1 a0_2) else (some false)) else (some false)) else ((sackbutref04_Tours.f k a0_0 a0_1 a0_2).bind fun bt271 => (if bt267.1.toList = bt271.1.toList then (if bt267.2 = bt271.2 then (sackbutlaw04_TriadsTours.j0 k a1 bt262.1 bt262.2 a0_0 a0_1 a0_2) else (some false)) else (some false)))) else (if bt262.1 = true then (some false) else (if bt267.1.toList = ([] : List UInt8) then (if bt262.2 = 2 then (if bt267.2 = 2 then ((sackbutlaw04_awake.f).bind fun t270 => (some t270)) else (some false)) else (some false)) else (some false)))))))))
set_option maxHeartbeats 8000000 in
set_option maxRecDepth 100000 in
theorem sackbutlaw04_TriadsTours.calls (k : Nat) (a0_0 : Int) (a0_1 : Int) (a0_2 : Int) (a1 : ByteArray) (r : Bool) (w : World) (h : sackbutlaw04_TriadsTours.f k a0_0 a0_1 a0_2 a1 = some r) :
    Calls Tryd.prog 7 #[.agg #[.int .i64 a0_0, .int .i64 a0_1, .int .i64 a0_2], .string a1] w fun e w' => e = .returned (.bool r) ∧ Below w.heap.size w w' := by
  have hu23 := Tryd.underlying23
  have HB := Aside0.mk (Below.refl w.heap.size w)
  have H : ((sackbutlaw04_Of.f a0_0 a0_1 a0_2).bind fun bt258 => ((sackbutlaw04_text.f a1).bind fun t261 => ((triads_Tour.f k bt258.1 bt258.2.1 bt258.2.2 t261).bind fun bt262 => ((sackbutlaw04_Of.f a0_0 a0_1 a0_2).bind fun bt264 => ((triads_Tours.f bt264.1 bt264.2.1 bt264.2.2).bind fun bt267 => ((sackbutref04_Valid.f a0_0 a0_1 a0_2).bind fun t269 => (if t269 = true then (if a0_0 > 12 then (if bt267.1.toList = ([] : List UInt8) then (if bt267.2 = 2 then (sackbutlaw04_TriadsTours.j0 k a1 bt262.1 bt262.2 a0_0 a0_1 a0_2) else (some false)) else (some false)) else ((sackbutref04_Tours.f k a0_0 a0_1 a0_2).bind fun bt271 => (if bt267.1.toList = bt271.1.toList then (if bt267.2 = bt271.2 then (sackbutlaw04_TriadsTours.j0 k a1 bt262.1 bt262.2 a0_0 a0_1 a0_2) else (some false)) else (some false)))) else (if bt262.1 = true then (some false) else (if bt267.1.toList = ([] : List UInt8) then (if bt262.2 = 2 then (if bt267.2 = 2 then ((sackbutlaw04_awake.f).bind fun t270 => (some t270)) else (some false)) else (some false)) else (some false)))))))))) = some r := h
  clear h
  replace H := Option.bind_eq_some_iff.mp H
  obtain ⟨⟨t258, t259, t260⟩, A30, H⟩ := H
  replace H : ((sackbutlaw04_text.f a1).bind fun t261 => ((triads_Tour.f k t258 t259 t260 t261).bind fun bt262 => ((sackbutlaw04_Of.f a0_0 a0_1 a0_2).bind fun bt264 => ((triads_Tours.f bt264.1 bt264.2.1 bt264.2.2).bind fun bt267 => ((sackbutref04_Valid.f a0_0 a0_1 a0_2).bind fun t269 => (if t269 = true then (if a0_0 > 12 then (if bt267.1.toList = ([] : List UInt8) then (if bt267.2 = 2 then (sackbutlaw04_TriadsTours.j0 k a1 bt262.1 bt262.2 a0_0 a0_1 a0_2) else (some false)) else (some false)) else ((sackbutref04_Tours.f k a0_0 a0_1 a0_2).bind fun bt271 => (if bt267.1.toList = bt271.1.toList then (if bt267.2 = bt271.2 then (sackbutlaw04_TriadsTours.j0 k a1 bt262.1 bt262.2 a0_0 a0_1 a0_2) else (some false)) else (some false)))) else (if bt262.1 = true then (some false) else (if bt267.1.toList = ([] : List UInt8) then (if bt262.2 = 2 then (if bt267.2 = 2 then ((sackbutlaw04_awake.f).bind fun t270 => (some t270)) else (some false)) else (some false)) else (some false))))))))) = some r := H
  have A3 := Aside0.mk A30
  clear A30
  replace H := Option.bind_eq_some_iff.mp H
  obtain ⟨t261, A40, H⟩ := H
  replace H : ((triads_Tour.f k t258 t259 t260 t261).bind fun bt262 => ((sackbutlaw04_Of.f a0_0 a0_1 a0_2).bind fun bt264 => ((triads_Tours.f bt264.1 bt264.2.1 bt264.2.2).bind fun bt267 => ((sackbutref04_Valid.f a0_0 a0_1 a0_2).bind fun t269 => (if t269 = true then (if a0_0 > 12 then (if bt267.1.toList = ([] : List UInt8) then (if bt267.2 = 2 then (sackbutlaw04_TriadsTours.j0 k a1 bt262.1 bt262.2 a0_0 a0_1 a0_2) else (some false)) else (some false)) else ((sackbutref04_Tours.f k a0_0 a0_1 a0_2).bind fun bt271 => (if bt267.1.toList = bt271.1.toList then (if bt267.2 = bt271.2 then (sackbutlaw04_TriadsTours.j0 k a1 bt262.1 bt262.2 a0_0 a0_1 a0_2) else (some false)) else (some false)))) else (if bt262.1 = true then (some false) else (if bt267.1.toList = ([] : List UInt8) then (if bt262.2 = 2 then (if bt267.2 = 2 then ((sackbutlaw04_awake.f).bind fun t270 => (some t270)) else (some false)) else (some false)) else (some false)))))))) = some r := H
  have A4 := Aside0.mk A40
  clear A40
  replace H := Option.bind_eq_some_iff.mp H
  obtain ⟨⟨t262, t263⟩, A50, H⟩ := H
  replace H : ((sackbutlaw04_Of.f a0_0 a0_1 a0_2).bind fun bt264 => ((triads_Tours.f bt264.1 bt264.2.1 bt264.2.2).bind fun bt267 => ((sackbutref04_Valid.f a0_0 a0_1 a0_2).bind fun t269 => (if t269 = true then (if a0_0 > 12 then (if bt267.1.toList = ([] : List UInt8) then (if bt267.2 = 2 then (sackbutlaw04_TriadsTours.j0 k a1 t262 t263 a0_0 a0_1 a0_2) else (some false)) else (some false)) else ((sackbutref04_Tours.f k a0_0 a0_1 a0_2).bind fun bt271 => (if bt267.1.toList = bt271.1.toList then (if bt267.2 = bt271.2 then (sackbutlaw04_TriadsTours.j0 k a1 t262 t263 a0_0 a0_1 a0_2) else (some false)) else (some false)))) else (if t262 = true then (some false) else (if bt267.1.toList = ([] : List UInt8) then (if t263 = 2 then (if bt267.2 = 2 then ((sackbutlaw04_awake.f).bind fun t270 => (some t270)) else (some false)) else (some false)) else (some false))))))) = some r := H
  have A5 := Aside0.mk A50
  clear A50
  replace H := Option.bind_eq_some_iff.mp H
  obtain ⟨⟨t264, t265, t266⟩, A60, H⟩ := H
  replace H : ((triads_Tours.f t264 t265 t266).bind fun bt267 => ((sackbutref04_Valid.f a0_0 a0_1 a0_2).bind fun t269 => (if t269 = true then (if a0_0 > 12 then (if bt267.1.toList = ([] : List UInt8) then (if bt267.2 = 2 then (sackbutlaw04_TriadsTours.j0 k a1 t262 t263 a0_0 a0_1 a0_2) else (some false)) else (some false)) else ((sackbutref04_Tours.f k a0_0 a0_1 a0_2).bind fun bt271 => (if bt267.1.toList = bt271.1.toList then (if bt267.2 = bt271.2 then (sackbutlaw04_TriadsTours.j0 k a1 t262 t263 a0_0 a0_1 a0_2) else (some false)) else (some false)))) else (if t262 = true then (some false) else (if bt267.1.toList = ([] : List UInt8) then (if t263 = 2 then (if bt267.2 = 2 then ((sackbutlaw04_awake.f).bind fun t270 => (some t270)) else (some false)) else (some false)) else (some false)))))) = some r := H
  have A6 := Aside0.mk A60
  clear A60
  replace H := Option.bind_eq_some_iff.mp H
  obtain ⟨⟨t267, t268⟩, A70, H⟩ := H
  replace H : ((sackbutref04_Valid.f a0_0 a0_1 a0_2).bind fun t269 => (if t269 = true then (if a0_0 > 12 then (if t267.toList = ([] : List UInt8) then (if t268 = 2 then (sackbutlaw04_TriadsTours.j0 k a1 t262 t263 a0_0 a0_1 a0_2) else (some false)) else (some false)) else ((sackbutref04_Tours.f k a0_0 a0_1 a0_2).bind fun bt271 => (if t267.toList = bt271.1.toList then (if t268 = bt271.2 then (sackbutlaw04_TriadsTours.j0 k a1 t262 t263 a0_0 a0_1 a0_2) else (some false)) else (some false)))) else (if t262 = true then (some false) else (if t267.toList = ([] : List UInt8) then (if t263 = 2 then (if t268 = 2 then ((sackbutlaw04_awake.f).bind fun t270 => (some t270)) else (some false)) else (some false)) else (some false))))) = some r := H
  have A7 := Aside0.mk A70
  clear A70
  replace H := Option.bind_eq_some_iff.mp H
  obtain ⟨t269, A80, H⟩ := H
  replace H : (if t269 = true then (if a0_0 > 12 then (if t267.toList = ([] : List UInt8) then (if t268 = 2 then (sackbutlaw04_TriadsTours.j0 k a1 t262 t263 a0_0 a0_1 a0_2) else (some false)) else (some false)) else ((sackbutref04_Tours.f k a0_0 a0_1 a0_2).bind fun bt271 => (if t267.toList = bt271.1.toList then (if t268 = bt271.2 then (sackbutlaw04_TriadsTours.j0 k a1 t262 t263 a0_0 a0_1 a0_2) else (some false)) else (some false)))) else (if t262 = true then (some false) else (if t267.toList = ([] : List UInt8) then (if t263 = 2 then (if t268 = 2 then ((sackbutlaw04_awake.f).bind fun t270 => (some t270)) else (some false)) else (some false)) else (some false)))) = some r := H
  have A8 := Aside0.mk A80
  clear A80
  by_cases c9 : t269 = true
  · subst c9
    have H1 : (if a0_0 > 12 then (if t267.toList = ([] : List UInt8) then (if t268 = 2 then (sackbutlaw04_TriadsTours.j0 k a1 t262 t263 a0_0 a0_1 a0_2) else (some false)) else (some false)) else ((sackbutref04_Tours.f k a0_0 a0_1 a0_2).bind fun bt271 => (if t267.toList = bt271.1.toList then (if t268 = bt271.2 then (sackbutlaw04_TriadsTours.j0 k a1 t262 t263 a0_0 a0_1 a0_2) else (some false)) else (some false)))) = some r := by rw [if_pos rfl] at H; exact H
    clear H
    have H := H1
    clear H1
    have HC10 := Aside0.mk H
    clear H
    go_enter Tryd.func7, Tryd.ntmps7
    go_upto_if 47 with (first | ((with_reducible refine gate_dst (N := 2) rfl ?_); refine box_event ?hg (N := 2) ?hd (cs := #[.int .i64 a0_0, .int .i64 a0_1, .int .i64 a0_2]) (t := 23) ?hr ?_; (case hd => rfl); (case hg => rfl); (case hr => first | (go_simp; done) | (go_simp; rfl)); intro gb257 hg w11 hbox hb; have n0_ := Aside0.mk (below_step (by repeat (first | (with_reducible first | exact HB.out | apply below_alloc | apply pw_below_drewN | apply below_drew1) | exact HB.out)) hb); have n1_ := Aside0.mk (hbox); have n2_ := Aside0.mk ((by rw [hg]; exact (below_size (by repeat (first | (with_reducible first | exact HB.out | apply below_alloc | apply pw_below_drewN | apply below_drew1) | exact HB.out))) : w.heap.size ≤ gb257)); have n3_ := Aside0.mk ((by rw [hg]; exact (below_size (by repeat (first | (with_reducible first | exact HB.out | apply below_alloc | apply pw_below_drewN | apply below_drew1) | exact HB.out))) : w.heap.size ≤ gb257)); clear HB; have HB := n0_; have BK257 := n1_; have GW257 := n2_; have GE257 := n3_; clear n0_ n1_ n2_ n3_; clear hb hbox hg; have hcz12_0 : w11.cell? ⟨gb257, 0, none⟩ = some (.int .i64 a0_0) := (blk_cell BK257.out 0).trans rfl; have hcz12_1 : w11.cell? ⟨gb257, 1, none⟩ = some (.int .i64 a0_1) := (blk_cell BK257.out 1).trans rfl; have hcz12_2 : w11.cell? ⟨gb257, 2, none⟩ = some (.int .i64 a0_2) := (blk_cell BK257.out 2).trans rfl; have hfz12_0 := blk_frozen BK257.out 0; have hfz12_1 := blk_frozen BK257.out 1; have hfz12_2 := blk_frozen BK257.out 2) | ((with_reducible refine gate_callee (f := 17) rfl ?_); refine goesL_ (some 13) rfl rfl Tryd.func17 (by kernel_rfl) rfl #[.agg #[.int .i64 a0_0, .int .i64 a0_1, .int .i64 a0_2]] rfl (by (try simp only [List.map_toArray, List.map_cons, List.map_nil]); first | done | rfl | (simp only [List.length_drop, List.length_take]; rfl)) ?_; (with_reducible refine (sackbutlaw04_Of.calls a0_0 a0_1 a0_2 t258 t259 t260 _ A3.out).mono ?_); rintro e w13 ⟨rfl, hb⟩; refine ⟨_, rfl, ?_⟩; have n0_ := Aside0.mk (blk_below (g := gb257) (o := .cells #[.int .i64 a0_0, .int .i64 a0_1, .int .i64 a0_2] 23 (0, 0)) (by (with_reducible repeat (first | refine blk_drewN ?_ _ | refine blk_drew ?_ | refine blk_alloc ?_ _)); exact BK257.out) hb); have n1_ := Aside0.mk (below_step (by repeat (first | (with_reducible first | exact HB.out | apply below_alloc | apply pw_below_drewN | apply below_drew1 | refine below_set ?_ GE257.out) | exact HB.out)) hb); clear BK257; clear HB; have BK257 := n0_; have HB := n1_; clear n0_ n1_; (try clear hb); (try clear hb2); (try clear hk); (try clear hi)) | ((with_reducible refine gate_callee (f := 18) rfl ?_); refine goesL_ (some 15) rfl rfl Tryd.func18 (by kernel_rfl) rfl #[.string a1] rfl (by (try simp only [List.map_toArray, List.map_cons, List.map_nil]); first | done | rfl | (simp only [List.length_drop, List.length_take]; rfl)) ?_; (with_reducible refine (sackbutlaw04_text.calls a1 t261 _ A4.out).mono ?_); rintro e w14 ⟨rfl, hb⟩; refine ⟨_, rfl, ?_⟩; have n0_ := Aside0.mk (blk_below (g := gb257) (o := .cells #[.int .i64 a0_0, .int .i64 a0_1, .int .i64 a0_2] 23 (0, 0)) (by (with_reducible repeat (first | refine blk_drewN ?_ _ | refine blk_drew ?_ | refine blk_alloc ?_ _)); exact BK257.out) hb); have n1_ := Aside0.mk (below_step (by repeat (first | (with_reducible first | exact HB.out | apply below_alloc | apply pw_below_drewN | apply below_drew1 | refine below_set ?_ GE257.out) | exact HB.out)) hb); clear BK257; clear HB; have BK257 := n0_; have HB := n1_; clear n0_ n1_; (try clear hb); (try clear hb2); (try clear hk); (try clear hi)) | ((with_reducible refine gate_callee (f := 30) rfl ?_); refine goesL_ (some 16) rfl rfl Tryd.func30 (by kernel_rfl) rfl #[.agg #[.int .i64 t258, .int .i64 t259, .int .i64 t260], .string t261] rfl (by (try simp only [List.map_toArray, List.map_cons, List.map_nil]); first | done | rfl | (simp only [List.length_drop, List.length_take]; rfl)) ?_; (with_reducible refine (triads_Tour.calls k t258 t259 t260 t261 t262 t263 _ A5.out).mono ?_); rintro e w15 ⟨rfl, hb⟩; refine ⟨_, rfl, ?_⟩; have n0_ := Aside0.mk (blk_below (g := gb257) (o := .cells #[.int .i64 a0_0, .int .i64 a0_1, .int .i64 a0_2] 23 (0, 0)) (by (with_reducible repeat (first | refine blk_drewN ?_ _ | refine blk_drew ?_ | refine blk_alloc ?_ _)); exact BK257.out) hb); have n1_ := Aside0.mk (below_step (by repeat (first | (with_reducible first | exact HB.out | apply below_alloc | apply pw_below_drewN | apply below_drew1 | refine below_set ?_ GE257.out) | exact HB.out)) hb); clear BK257; clear HB; have BK257 := n0_; have HB := n1_; clear n0_ n1_; (try clear hb); (try clear hb2); (try clear hk); (try clear hi); have hcz16_0 : w15.cell? ⟨gb257, 0, none⟩ = some (.int .i64 a0_0) := (blk_cell BK257.out 0).trans rfl; have hcz16_1 : w15.cell? ⟨gb257, 1, none⟩ = some (.int .i64 a0_1) := (blk_cell BK257.out 1).trans rfl; have hcz16_2 : w15.cell? ⟨gb257, 2, none⟩ = some (.int .i64 a0_2) := (blk_cell BK257.out 2).trans rfl; have hfz16_0 := blk_frozen BK257.out 0; have hfz16_1 := blk_frozen BK257.out 1; have hfz16_2 := blk_frozen BK257.out 2) | ((with_reducible refine gate_callee (f := 17) rfl ?_); refine goesL_ (some 21) rfl rfl Tryd.func17 (by kernel_rfl) rfl #[.agg #[.int .i64 a0_0, .int .i64 a0_1, .int .i64 a0_2]] rfl (by (try simp only [List.map_toArray, List.map_cons, List.map_nil]); first | done | rfl | (simp only [List.length_drop, List.length_take]; rfl)) ?_; (with_reducible refine (sackbutlaw04_Of.calls a0_0 a0_1 a0_2 t264 t265 t266 _ A6.out).mono ?_); rintro e w17 ⟨rfl, hb⟩; refine ⟨_, rfl, ?_⟩; have n0_ := Aside0.mk (blk_below (g := gb257) (o := .cells #[.int .i64 a0_0, .int .i64 a0_1, .int .i64 a0_2] 23 (0, 0)) (by (with_reducible repeat (first | refine blk_drewN ?_ _ | refine blk_drew ?_ | refine blk_alloc ?_ _)); exact BK257.out) hb); have n1_ := Aside0.mk (below_step (by repeat (first | (with_reducible first | exact HB.out | apply below_alloc | apply pw_below_drewN | apply below_drew1 | refine below_set ?_ GE257.out) | exact HB.out)) hb); clear BK257; clear HB; have BK257 := n0_; have HB := n1_; clear n0_ n1_; (try clear hb); (try clear hb2); (try clear hk); (try clear hi)) | ((with_reducible refine gate_callee (f := 31) rfl ?_); refine goesL_ (some 22) rfl rfl Tryd.func31 (by kernel_rfl) rfl #[.agg #[.int .i64 t264, .int .i64 t265, .int .i64 t266]] rfl (by (try simp only [List.map_toArray, List.map_cons, List.map_nil]); first | done | rfl | (simp only [List.length_drop, List.length_take]; rfl)) ?_; (with_reducible refine (triads_Tours.calls t264 t265 t266 t267 t268 _ A7.out).mono ?_); rintro e w18 ⟨rfl, hb⟩; refine ⟨_, rfl, ?_⟩; have n0_ := Aside0.mk (blk_below (g := gb257) (o := .cells #[.int .i64 a0_0, .int .i64 a0_1, .int .i64 a0_2] 23 (0, 0)) (by (with_reducible repeat (first | refine blk_drewN ?_ _ | refine blk_drew ?_ | refine blk_alloc ?_ _)); exact BK257.out) hb); have n1_ := Aside0.mk (below_step (by repeat (first | (with_reducible first | exact HB.out | apply below_alloc | apply pw_below_drewN | apply below_drew1 | refine below_set ?_ GE257.out) | exact HB.out)) hb); clear BK257; clear HB; have BK257 := n0_; have HB := n1_; clear n0_ n1_; (try clear hb); (try clear hb2); (try clear hk); (try clear hi); have hcz19_0 : w18.cell? ⟨gb257, 0, none⟩ = some (.int .i64 a0_0) := (blk_cell BK257.out 0).trans rfl; have hcz19_1 : w18.cell? ⟨gb257, 1, none⟩ = some (.int .i64 a0_1) := (blk_cell BK257.out 1).trans rfl; have hcz19_2 : w18.cell? ⟨gb257, 2, none⟩ = some (.int .i64 a0_2) := (blk_cell BK257.out 2).trans rfl; have hfz19_0 := blk_frozen BK257.out 0; have hfz19_1 := blk_frozen BK257.out 1; have hfz19_2 := blk_frozen BK257.out 2) | ((with_reducible refine gate_callee (f := 28) rfl ?_); refine goesL_ (some 26) rfl rfl Tryd.func28 (by kernel_rfl) rfl #[.agg #[.int .i64 a0_0, .int .i64 a0_1, .int .i64 a0_2]] rfl (by (try simp only [List.map_toArray, List.map_cons, List.map_nil]); first | done | rfl | (simp only [List.length_drop, List.length_take]; rfl)) ?_; (with_reducible refine (sackbutref04_Valid.calls a0_0 a0_1 a0_2 true _ A8.out).mono ?_); rintro e w20 ⟨rfl, hb⟩; refine ⟨_, rfl, ?_⟩; have n0_ := Aside0.mk (blk_below (g := gb257) (o := .cells #[.int .i64 a0_0, .int .i64 a0_1, .int .i64 a0_2] 23 (0, 0)) (by (with_reducible repeat (first | refine blk_drewN ?_ _ | refine blk_drew ?_ | refine blk_alloc ?_ _)); exact BK257.out) hb); have n1_ := Aside0.mk (below_step (by repeat (first | (with_reducible first | exact HB.out | apply below_alloc | apply pw_below_drewN | apply below_drew1 | refine below_set ?_ GE257.out) | exact HB.out)) hb); clear BK257; clear HB; have BK257 := n0_; have HB := n1_; clear n0_ n1_; (try clear hb); (try clear hb2); (try clear hk); (try clear hi); have hcz21_0 : w20.cell? ⟨gb257, 0, none⟩ = some (.int .i64 a0_0) := (blk_cell BK257.out 0).trans rfl; have hcz21_1 : w20.cell? ⟨gb257, 1, none⟩ = some (.int .i64 a0_1) := (blk_cell BK257.out 1).trans rfl; have hcz21_2 : w20.cell? ⟨gb257, 2, none⟩ = some (.int .i64 a0_2) := (blk_cell BK257.out 2).trans rfl; have hfz21_0 := blk_frozen BK257.out 0; have hfz21_1 := blk_frozen BK257.out 1; have hfz21_2 := blk_frozen BK257.out 2))
    (try simp only [Act.put, List.setIfInBounds_toArray, List.set_cons_zero, List.set_cons_succ])
    go_cut [] (fun wc => ∃ (kq : Nat), Aside0 (sackbutlaw04_TriadsTours.j0 kq a1 t262 t263 a0_0 a0_1 a0_2 = some r) ∧ Aside0 (kq ≤ k) ∧ Aside0 (wc.heap[gb257]? = some (.cells #[.int .i64 a0_0, .int .i64 a0_1, .int .i64 a0_2] 23 (0, 0))) ∧ Aside0 (Below w.heap.size w wc))
    case first =>
      have H := HC10.out
      clear HC10
      by_cases c22 : a0_0 > 12
      · rw [if_pos c22] at H
        have c22b0 : decide (12 < a0_0) = true := decide_eq_true c22
        clear c22
        (first | rw [c22b0] | (simp only [i64_w, i32_w]; rw [c22b0]) | skip)
        by_cases c23 : t267.toList = ([] : List UInt8)
        · rw [if_pos c23] at H
          have c23b0 : (t267.toList == ([] : List UInt8)) = true := beq_iff_eq.mpr c23
          have c23b1 : (t267.toList != ([] : List UInt8)) = false := bne_eq_false_iff_eq.mpr c23
          clear c23
          by_cases c24 : t268 = 2
          · rw [if_pos c24] at H
            have c24b0 : (t268 == 2) = true := beq_iff_eq.mpr c24
            have c24b1 : (t268 != 2) = false := bne_eq_false_iff_eq.mpr c24
            clear c24
            have H' := Aside0.mk H
            clear H
            go_wp2
            go_meet
            case rel => exact ⟨_, H', ⟨by first | omega | exact Nat.le_refl _⟩, ⟨by (with_reducible repeat (first | refine blk_drewN ?_ _ | refine blk_drew ?_ | refine blk_alloc ?_ _)); exact BK257.out⟩, ⟨by repeat (first | (with_reducible first | exact HB.out | apply below_alloc | apply pw_below_drewN | apply below_drew1 | refine below_set ?_ GE257.out) | exact HB.out)⟩⟩
          · rw [if_neg c24] at H
            have c24b0 : (t268 == 2) = false := beq_eq_false_iff_ne.mpr c24
            have c24b1 : (t268 != 2) = true := bne_iff_ne.mpr c24
            obtain rfl := Option.some.inj H
            go_wp2
            go_ret
            exact ⟨by first | rfl | (simp [errW_none, errW_some] <;> rfl) | (simp [*, errW_none, errW_some] <;> rfl), by repeat (first | (with_reducible first | exact HB.out | apply below_alloc | apply pw_below_drewN | apply below_drew1 | refine below_set ?_ GE257.out) | exact HB.out)⟩
        · rw [if_neg c23] at H
          have c23b0 : (t267.toList == ([] : List UInt8)) = false := beq_eq_false_iff_ne.mpr c23
          have c23b1 : (t267.toList != ([] : List UInt8)) = true := bne_iff_ne.mpr c23
          obtain rfl := Option.some.inj H
          go_wp2
          go_ret
          exact ⟨by first | rfl | (simp [errW_none, errW_some] <;> rfl) | (simp [*, errW_none, errW_some] <;> rfl), by repeat (first | (with_reducible first | exact HB.out | apply below_alloc | apply pw_below_drewN | apply below_drew1 | refine below_set ?_ GE257.out) | exact HB.out)⟩
      · rw [if_neg c22] at H
        have c22b0 : decide (12 < a0_0) = false := decide_eq_false c22
        clear c22
        (first | rw [c22b0] | (simp only [i64_w, i32_w]; rw [c22b0]) | skip)
        replace H := Option.bind_eq_some_iff.mp H
        obtain ⟨⟨t271, t272⟩, A250, H⟩ := H
        replace H : (if t267.toList = t271.toList then (if t268 = t272 then (sackbutlaw04_TriadsTours.j0 k a1 t262 t263 a0_0 a0_1 a0_2) else (some false)) else (some false)) = some r := H
        have A25 := Aside0.mk A250
        clear A250
        by_cases c26 : t267.toList = t271.toList
        · rw [if_pos c26] at H
          have c26b0 : (t267.toList == t271.toList) = true := beq_iff_eq.mpr c26
          have c26b1 : (t267.toList != t271.toList) = false := bne_eq_false_iff_eq.mpr c26
          clear c26
          by_cases c27 : t268 = t272
          · rw [if_pos c27] at H
            have c27b0 : (t268 == t272) = true := beq_iff_eq.mpr c27
            have c27b1 : (t268 != t272) = false := bne_eq_false_iff_eq.mpr c27
            clear c27
            have H' := Aside0.mk H
            clear H
            have hcz28_0 : w20.cell? ⟨gb257, 0, none⟩ = some (.int .i64 a0_0) := (blk_cell BK257.out 0).trans rfl
            have hcz28_1 : w20.cell? ⟨gb257, 1, none⟩ = some (.int .i64 a0_1) := (blk_cell BK257.out 1).trans rfl
            have hcz28_2 : w20.cell? ⟨gb257, 2, none⟩ = some (.int .i64 a0_2) := (blk_cell BK257.out 2).trans rfl
            have hfz28_0 := blk_frozen BK257.out 0
            have hfz28_1 := blk_frozen BK257.out 1
            have hfz28_2 := blk_frozen BK257.out 2
            go_wp2_with (first | ((with_reducible refine gate_callee (f := 32) rfl ?_); refine goesL_ (some 56) rfl rfl Tryd.func32 (by kernel_rfl) rfl #[.agg #[.int .i64 a0_0, .int .i64 a0_1, .int .i64 a0_2]] rfl (by (try simp only [List.map_toArray, List.map_cons, List.map_nil]); first | done | rfl | (simp only [List.length_drop, List.length_take]; rfl)) ?_; (with_reducible refine (sackbutref04_Tours.calls k a0_0 a0_1 a0_2 t271 t272 _ A25.out).mono ?_); rintro e w29 ⟨rfl, hb⟩; refine ⟨_, rfl, ?_⟩; have n0_ := Aside0.mk (blk_below (g := gb257) (o := .cells #[.int .i64 a0_0, .int .i64 a0_1, .int .i64 a0_2] 23 (0, 0)) (by (with_reducible repeat (first | refine blk_drewN ?_ _ | refine blk_drew ?_ | refine blk_alloc ?_ _)); exact BK257.out) hb); have n1_ := Aside0.mk (below_step (by repeat (first | (with_reducible first | exact HB.out | apply below_alloc | apply pw_below_drewN | apply below_drew1 | refine below_set ?_ GE257.out) | exact HB.out)) hb); clear BK257; clear HB; have BK257 := n0_; have HB := n1_; clear n0_ n1_; (try clear hb); (try clear hb2); (try clear hk); (try clear hi)))
            go_meet
            case rel => exact ⟨_, H', ⟨by first | omega | exact Nat.le_refl _⟩, ⟨by (with_reducible repeat (first | refine blk_drewN ?_ _ | refine blk_drew ?_ | refine blk_alloc ?_ _)); exact BK257.out⟩, ⟨by repeat (first | (with_reducible first | exact HB.out | apply below_alloc | apply pw_below_drewN | apply below_drew1 | refine below_set ?_ GE257.out) | exact HB.out)⟩⟩
          · rw [if_neg c27] at H
            have c27b0 : (t268 == t272) = false := beq_eq_false_iff_ne.mpr c27
            have c27b1 : (t268 != t272) = true := bne_iff_ne.mpr c27
            obtain rfl := Option.some.inj H
            have hcz30_0 : w20.cell? ⟨gb257, 0, none⟩ = some (.int .i64 a0_0) := (blk_cell BK257.out 0).trans rfl
            have hcz30_1 : w20.cell? ⟨gb257, 1, none⟩ = some (.int .i64 a0_1) := (blk_cell BK257.out 1).trans rfl
            have hcz30_2 : w20.cell? ⟨gb257, 2, none⟩ = some (.int .i64 a0_2) := (blk_cell BK257.out 2).trans rfl
            have hfz30_0 := blk_frozen BK257.out 0
            have hfz30_1 := blk_frozen BK257.out 1
            have hfz30_2 := blk_frozen BK257.out 2
            go_wp2_with (first | ((with_reducible refine gate_callee (f := 32) rfl ?_); refine goesL_ (some 56) rfl rfl Tryd.func32 (by kernel_rfl) rfl #[.agg #[.int .i64 a0_0, .int .i64 a0_1, .int .i64 a0_2]] rfl (by (try simp only [List.map_toArray, List.map_cons, List.map_nil]); first | done | rfl | (simp only [List.length_drop, List.length_take]; rfl)) ?_; (with_reducible refine (sackbutref04_Tours.calls k a0_0 a0_1 a0_2 t271 t272 _ A25.out).mono ?_); rintro e w31 ⟨rfl, hb⟩; refine ⟨_, rfl, ?_⟩; have n0_ := Aside0.mk (blk_below (g := gb257) (o := .cells #[.int .i64 a0_0, .int .i64 a0_1, .int .i64 a0_2] 23 (0, 0)) (by (with_reducible repeat (first | refine blk_drewN ?_ _ | refine blk_drew ?_ | refine blk_alloc ?_ _)); exact BK257.out) hb); have n1_ := Aside0.mk (below_step (by repeat (first | (with_reducible first | exact HB.out | apply below_alloc | apply pw_below_drewN | apply below_drew1 | refine below_set ?_ GE257.out) | exact HB.out)) hb); clear BK257; clear HB; have BK257 := n0_; have HB := n1_; clear n0_ n1_; (try clear hb); (try clear hb2); (try clear hk); (try clear hi)))
            go_ret
            exact ⟨by first | rfl | (simp [errW_none, errW_some] <;> rfl) | (simp [*, errW_none, errW_some] <;> rfl), by repeat (first | (with_reducible first | exact HB.out | apply below_alloc | apply pw_below_drewN | apply below_drew1 | refine below_set ?_ GE257.out) | exact HB.out)⟩
        · rw [if_neg c26] at H
          have c26b0 : (t267.toList == t271.toList) = false := beq_eq_false_iff_ne.mpr c26
          have c26b1 : (t267.toList != t271.toList) = true := bne_iff_ne.mpr c26
          obtain rfl := Option.some.inj H
          have hcz32_0 : w20.cell? ⟨gb257, 0, none⟩ = some (.int .i64 a0_0) := (blk_cell BK257.out 0).trans rfl
          have hcz32_1 : w20.cell? ⟨gb257, 1, none⟩ = some (.int .i64 a0_1) := (blk_cell BK257.out 1).trans rfl
          have hcz32_2 : w20.cell? ⟨gb257, 2, none⟩ = some (.int .i64 a0_2) := (blk_cell BK257.out 2).trans rfl
          have hfz32_0 := blk_frozen BK257.out 0
          have hfz32_1 := blk_frozen BK257.out 1
          have hfz32_2 := blk_frozen BK257.out 2
          go_wp2_with (first | ((with_reducible refine gate_callee (f := 32) rfl ?_); refine goesL_ (some 56) rfl rfl Tryd.func32 (by kernel_rfl) rfl #[.agg #[.int .i64 a0_0, .int .i64 a0_1, .int .i64 a0_2]] rfl (by (try simp only [List.map_toArray, List.map_cons, List.map_nil]); first | done | rfl | (simp only [List.length_drop, List.length_take]; rfl)) ?_; (with_reducible refine (sackbutref04_Tours.calls k a0_0 a0_1 a0_2 t271 t272 _ A25.out).mono ?_); rintro e w33 ⟨rfl, hb⟩; refine ⟨_, rfl, ?_⟩; have n0_ := Aside0.mk (blk_below (g := gb257) (o := .cells #[.int .i64 a0_0, .int .i64 a0_1, .int .i64 a0_2] 23 (0, 0)) (by (with_reducible repeat (first | refine blk_drewN ?_ _ | refine blk_drew ?_ | refine blk_alloc ?_ _)); exact BK257.out) hb); have n1_ := Aside0.mk (below_step (by repeat (first | (with_reducible first | exact HB.out | apply below_alloc | apply pw_below_drewN | apply below_drew1 | refine below_set ?_ GE257.out) | exact HB.out)) hb); clear BK257; clear HB; have BK257 := n0_; have HB := n1_; clear n0_ n1_; (try clear hb); (try clear hb2); (try clear hk); (try clear hi)))
          go_ret
          exact ⟨by first | rfl | (simp [errW_none, errW_some] <;> rfl) | (simp [*, errW_none, errW_some] <;> rfl), by repeat (first | (with_reducible first | exact HB.out | apply below_alloc | apply pw_below_drewN | apply below_drew1 | refine below_set ?_ GE257.out) | exact HB.out)⟩
    case rest =>
      clear HC10
      try clear c1
      try clear c2
      try clear p2
      try clear c3
      try clear c7
      try clear c9
      try clear c17
      try clear c18
      try clear c22
      try clear c22b0
      try clear c23
      try clear c23b0
      try clear c23b1
      try clear c24
      try clear c24b0
      try clear c24b1
      try clear c26
      try clear c26b0
      try clear c26b1
      try clear c27
      try clear c27b0
      try clear c27b1
      try clear c28
      try clear c30
      try clear c31
      try clear c32
      try clear hcz12_0
      try clear hcz12_1
      try clear hcz12_2
      try clear hcz16_0
      try clear hcz16_1
      try clear hcz16_2
      try clear hcz19_0
      try clear hcz19_1
      try clear hcz19_2
      try clear hcz21_0
      try clear hcz21_1
      try clear hcz21_2
      try clear hcz28_0
      try clear hcz28_1
      try clear hcz28_2
      try clear hcz30_0
      try clear hcz30_1
      try clear hcz30_2
      try clear hcz32_0
      try clear hcz32_1
      try clear hcz32_2
      try clear hfz12_0
      try clear hfz12_1
      try clear hfz12_2
      try clear hfz16_0
      try clear hfz16_1
      try clear hfz16_2
      try clear hfz19_0
      try clear hfz19_1
      try clear hfz19_2
      try clear hfz21_0
      try clear hfz21_1
      try clear hfz21_2
      try clear hfz28_0
      try clear hfz28_1
      try clear hfz28_2
      try clear hfz30_0
      try clear hfz30_1
      try clear hfz30_2
      try clear hfz32_0
      try clear hfz32_1
      try clear hfz32_2
      obtain ⟨kq, HA, HJ9, BK257, HB⟩ := hcut
      cases kq with
      | zero => exact absurd HA.out (by simp [sackbutlaw04_TriadsTours.j0])
      | succ kj9 =>
        have H := HA.out
        clear HA
        simp only [sackbutlaw04_TriadsTours.j0] at H
        replace H := Option.bind_eq_some_iff.mp H
        obtain ⟨t273, A340, H⟩ := H
        replace H : (if t273 = true then ((sackbutref04_Tour.f kj9 a0_0 a0_1 a0_2 a1).bind fun t274 => (if (t262 == t274) = true then (if t263 = 0 then ((sackbutlaw04_awake.f).bind fun t275 => (some t275)) else (some false)) else (some false))) else (if t262 = true then (some false) else (if t263 = 3 then ((sackbutlaw04_awake.f).bind fun t276 => (some t276)) else (some false)))) = some r := H
        have A34 := Aside0.mk A340
        clear A340
        by_cases c35 : t273 = true
        · subst c35
          have H1 : ((sackbutref04_Tour.f kj9 a0_0 a0_1 a0_2 a1).bind fun t274 => (if (t262 == t274) = true then (if t263 = 0 then ((sackbutlaw04_awake.f).bind fun t275 => (some t275)) else (some false)) else (some false))) = some r := by rw [if_pos rfl] at H; exact H
          clear H
          have H := H1
          clear H1
          replace H := Option.bind_eq_some_iff.mp H
          obtain ⟨t274, A360, H⟩ := H
          replace H : (if (t262 == t274) = true then (if t263 = 0 then ((sackbutlaw04_awake.f).bind fun t275 => (some t275)) else (some false)) else (some false)) = some r := H
          have A36 := Aside0.mk A360
          clear A360
          by_cases c37 : (t262 == t274) = true
          · rw [if_pos c37] at H
            have c37b0 : (t262 == t274) = true := c37
            (try (have c37b1 : decide (t262 = t274) = true := by simpa using c37))
            (try (have c37b2 : (t262 == t274) = true := by simpa using c37))
            clear c37
            by_cases c38 : t263 = 0
            · rw [if_pos c38] at H
              have c38b0 : (t263 == 0) = true := beq_iff_eq.mpr c38
              have c38b1 : (t263 != 0) = false := bne_eq_false_iff_eq.mpr c38
              clear c38
              replace H := Option.bind_eq_some_iff.mp H
              obtain ⟨t275, A390, H⟩ := H
              replace H : (some t275) = some r := H
              have A39 := Aside0.mk A390
              clear A390
              obtain rfl := Option.some.inj H
              go_wp2_with (first | ((with_reducible refine gate_callee (f := 21) rfl ?_); refine goesL_ (some 68) rfl rfl Tryd.func21 (by kernel_rfl) rfl #[.string a1] rfl (by (try simp only [List.map_toArray, List.map_cons, List.map_nil]); first | done | rfl | (simp only [List.length_drop, List.length_take]; rfl)) ?_; (with_reducible refine (sackbutref04_IsWalk.calls kj9 a1 true _ A34.out).mono ?_); rintro e w' ⟨rfl, ⟨nd, rfl⟩⟩; refine ⟨_, rfl, ?_⟩; have hcz40_0 : wc.cell? ⟨gb257, 0, none⟩ = some (.int .i64 a0_0) := (blk_cell BK257.out 0).trans rfl; have hcz40_1 : wc.cell? ⟨gb257, 1, none⟩ = some (.int .i64 a0_1) := (blk_cell BK257.out 1).trans rfl; have hcz40_2 : wc.cell? ⟨gb257, 2, none⟩ = some (.int .i64 a0_2) := (blk_cell BK257.out 2).trans rfl; have hfz40_0 := blk_frozen BK257.out 0; have hfz40_1 := blk_frozen BK257.out 1; have hfz40_2 := blk_frozen BK257.out 2) | ((with_reducible refine gate_callee (f := 33) rfl ?_); refine goesL_ (some 82) rfl rfl Tryd.func33 (by kernel_rfl) rfl #[.agg #[.int .i64 a0_0, .int .i64 a0_1, .int .i64 a0_2], .string a1] rfl (by (try simp only [List.map_toArray, List.map_cons, List.map_nil]); first | done | rfl | (simp only [List.length_drop, List.length_take]; rfl)) ?_; (with_reducible refine (sackbutref04_Tour.calls kj9 a0_0 a0_1 a0_2 a1 t274 _ A36.out).mono ?_); rintro e w41 ⟨rfl, hb⟩; refine ⟨_, rfl, ?_⟩; have n0_ := Aside0.mk (blk_below (g := gb257) (o := .cells #[.int .i64 a0_0, .int .i64 a0_1, .int .i64 a0_2] 23 (0, 0)) (by (with_reducible repeat (first | refine blk_drewN ?_ _ | refine blk_drew ?_ | refine blk_alloc ?_ _)); exact BK257.out) hb); have n1_ := Aside0.mk (below_step (by repeat (first | (with_reducible first | exact HB.out | apply below_alloc | apply pw_below_drewN | apply below_drew1 | refine below_set ?_ GE257.out) | exact HB.out)) hb); clear BK257; clear HB; have BK257 := n0_; have HB := n1_; clear n0_ n1_; (try clear hb); (try clear hb2); (try clear hk); (try clear hi)) | (go_at_call 20; (with_reducible refine (sackbutlaw04_awake.calls  t275 _ A39.out).mono ?_); rintro e w42 ⟨rfl, hb⟩; have n0_ := Aside0.mk (blk_below (g := gb257) (o := .cells #[.int .i64 a0_0, .int .i64 a0_1, .int .i64 a0_2] 23 (0, 0)) (by (with_reducible repeat (first | refine blk_drewN ?_ _ | refine blk_drew ?_ | refine blk_alloc ?_ _)); exact BK257.out) hb); have n1_ := Aside0.mk (below_step (by repeat (first | (with_reducible first | exact HB.out | apply below_alloc | apply pw_below_drewN | apply below_drew1 | refine below_set ?_ GE257.out) | exact HB.out)) hb); clear BK257; clear HB; have BK257 := n0_; have HB := n1_; clear n0_ n1_; (try clear hb); (try clear hb2); (try clear hk); (try clear hi)))
              go_ret
              exact ⟨by first | rfl | (simp [errW_none, errW_some] <;> rfl) | (simp [*, errW_none, errW_some] <;> rfl), by repeat (first | (with_reducible first | exact HB.out | apply below_alloc | apply pw_below_drewN | apply below_drew1 | refine below_set ?_ GE257.out) | exact HB.out)⟩
            · rw [if_neg c38] at H
              have c38b0 : (t263 == 0) = false := beq_eq_false_iff_ne.mpr c38
              have c38b1 : (t263 != 0) = true := bne_iff_ne.mpr c38
              obtain rfl := Option.some.inj H
              go_wp2_with (first | ((with_reducible refine gate_callee (f := 21) rfl ?_); refine goesL_ (some 68) rfl rfl Tryd.func21 (by kernel_rfl) rfl #[.string a1] rfl (by (try simp only [List.map_toArray, List.map_cons, List.map_nil]); first | done | rfl | (simp only [List.length_drop, List.length_take]; rfl)) ?_; (with_reducible refine (sackbutref04_IsWalk.calls kj9 a1 true _ A34.out).mono ?_); rintro e w' ⟨rfl, ⟨nd, rfl⟩⟩; refine ⟨_, rfl, ?_⟩; have hcz43_0 : wc.cell? ⟨gb257, 0, none⟩ = some (.int .i64 a0_0) := (blk_cell BK257.out 0).trans rfl; have hcz43_1 : wc.cell? ⟨gb257, 1, none⟩ = some (.int .i64 a0_1) := (blk_cell BK257.out 1).trans rfl; have hcz43_2 : wc.cell? ⟨gb257, 2, none⟩ = some (.int .i64 a0_2) := (blk_cell BK257.out 2).trans rfl; have hfz43_0 := blk_frozen BK257.out 0; have hfz43_1 := blk_frozen BK257.out 1; have hfz43_2 := blk_frozen BK257.out 2) | ((with_reducible refine gate_callee (f := 33) rfl ?_); refine goesL_ (some 82) rfl rfl Tryd.func33 (by kernel_rfl) rfl #[.agg #[.int .i64 a0_0, .int .i64 a0_1, .int .i64 a0_2], .string a1] rfl (by (try simp only [List.map_toArray, List.map_cons, List.map_nil]); first | done | rfl | (simp only [List.length_drop, List.length_take]; rfl)) ?_; (with_reducible refine (sackbutref04_Tour.calls kj9 a0_0 a0_1 a0_2 a1 t274 _ A36.out).mono ?_); rintro e w44 ⟨rfl, hb⟩; refine ⟨_, rfl, ?_⟩; have n0_ := Aside0.mk (blk_below (g := gb257) (o := .cells #[.int .i64 a0_0, .int .i64 a0_1, .int .i64 a0_2] 23 (0, 0)) (by (with_reducible repeat (first | refine blk_drewN ?_ _ | refine blk_drew ?_ | refine blk_alloc ?_ _)); exact BK257.out) hb); have n1_ := Aside0.mk (below_step (by repeat (first | (with_reducible first | exact HB.out | apply below_alloc | apply pw_below_drewN | apply below_drew1 | refine below_set ?_ GE257.out) | exact HB.out)) hb); clear BK257; clear HB; have BK257 := n0_; have HB := n1_; clear n0_ n1_; (try clear hb); (try clear hb2); (try clear hk); (try clear hi)))
              go_ret
              exact ⟨by first | rfl | (simp [errW_none, errW_some] <;> rfl) | (simp [*, errW_none, errW_some] <;> rfl), by repeat (first | (with_reducible first | exact HB.out | apply below_alloc | apply pw_below_drewN | apply below_drew1 | refine below_set ?_ GE257.out) | exact HB.out)⟩
          · rw [if_neg c37] at H
            have c37b0 : (t262 == t274) = false := by simpa using c37
            (try (have c37b1 : decide (t262 = t274) = false := by simpa using c37))
            (try (have c37b2 : (t262 == t274) = false := by simpa using c37))
            (try (have c37b3 : ¬ (t262 = t274) := by simpa using c37))
            clear c37
            obtain rfl := Option.some.inj H
            go_wp2_with (first | ((with_reducible refine gate_callee (f := 21) rfl ?_); refine goesL_ (some 68) rfl rfl Tryd.func21 (by kernel_rfl) rfl #[.string a1] rfl (by (try simp only [List.map_toArray, List.map_cons, List.map_nil]); first | done | rfl | (simp only [List.length_drop, List.length_take]; rfl)) ?_; (with_reducible refine (sackbutref04_IsWalk.calls kj9 a1 true _ A34.out).mono ?_); rintro e w' ⟨rfl, ⟨nd, rfl⟩⟩; refine ⟨_, rfl, ?_⟩; have hcz45_0 : wc.cell? ⟨gb257, 0, none⟩ = some (.int .i64 a0_0) := (blk_cell BK257.out 0).trans rfl; have hcz45_1 : wc.cell? ⟨gb257, 1, none⟩ = some (.int .i64 a0_1) := (blk_cell BK257.out 1).trans rfl; have hcz45_2 : wc.cell? ⟨gb257, 2, none⟩ = some (.int .i64 a0_2) := (blk_cell BK257.out 2).trans rfl; have hfz45_0 := blk_frozen BK257.out 0; have hfz45_1 := blk_frozen BK257.out 1; have hfz45_2 := blk_frozen BK257.out 2) | ((with_reducible refine gate_callee (f := 33) rfl ?_); refine goesL_ (some 82) rfl rfl Tryd.func33 (by kernel_rfl) rfl #[.agg #[.int .i64 a0_0, .int .i64 a0_1, .int .i64 a0_2], .string a1] rfl (by (try simp only [List.map_toArray, List.map_cons, List.map_nil]); first | done | rfl | (simp only [List.length_drop, List.length_take]; rfl)) ?_; (with_reducible refine (sackbutref04_Tour.calls kj9 a0_0 a0_1 a0_2 a1 t274 _ A36.out).mono ?_); rintro e w46 ⟨rfl, hb⟩; refine ⟨_, rfl, ?_⟩; have n0_ := Aside0.mk (blk_below (g := gb257) (o := .cells #[.int .i64 a0_0, .int .i64 a0_1, .int .i64 a0_2] 23 (0, 0)) (by (with_reducible repeat (first | refine blk_drewN ?_ _ | refine blk_drew ?_ | refine blk_alloc ?_ _)); exact BK257.out) hb); have n1_ := Aside0.mk (below_step (by repeat (first | (with_reducible first | exact HB.out | apply below_alloc | apply pw_below_drewN | apply below_drew1 | refine below_set ?_ GE257.out) | exact HB.out)) hb); clear BK257; clear HB; have BK257 := n0_; have HB := n1_; clear n0_ n1_; (try clear hb); (try clear hb2); (try clear hk); (try clear hi)))
            go_ret
            exact ⟨by first | rfl | (simp [errW_none, errW_some] <;> rfl) | (simp [*, errW_none, errW_some] <;> rfl), by repeat (first | (with_reducible first | exact HB.out | apply below_alloc | apply pw_below_drewN | apply below_drew1 | refine below_set ?_ GE257.out) | exact HB.out)⟩
        · replace c35 := Bool.eq_false_iff.mpr c35
          subst c35
          have H1 : (if t262 = true then (some false) else (if t263 = 3 then ((sackbutlaw04_awake.f).bind fun t276 => (some t276)) else (some false))) = some r := by rw [if_neg (show ¬ (false = true) by decide)] at H; exact H
          clear H
          have H := H1
          clear H1
          by_cases c47 : t262 = true
          · subst c47
            have H1 : (some false) = some r := by rw [if_pos rfl] at H; exact H
            clear H
            have H := H1
            clear H1
            obtain rfl := Option.some.inj H
            go_wp2_with (first | ((with_reducible refine gate_callee (f := 21) rfl ?_); refine goesL_ (some 68) rfl rfl Tryd.func21 (by kernel_rfl) rfl #[.string a1] rfl (by (try simp only [List.map_toArray, List.map_cons, List.map_nil]); first | done | rfl | (simp only [List.length_drop, List.length_take]; rfl)) ?_; (with_reducible refine (sackbutref04_IsWalk.calls kj9 a1 false _ A34.out).mono ?_); rintro e w' ⟨rfl, ⟨nd, rfl⟩⟩; refine ⟨_, rfl, ?_⟩))
            go_ret
            exact ⟨by first | rfl | (simp [errW_none, errW_some] <;> rfl) | (simp [*, errW_none, errW_some] <;> rfl), by repeat (first | (with_reducible first | exact HB.out | apply below_alloc | apply pw_below_drewN | apply below_drew1 | refine below_set ?_ GE257.out) | exact HB.out)⟩
          · replace c47 := Bool.eq_false_iff.mpr c47
            subst c47
            have H1 : (if t263 = 3 then ((sackbutlaw04_awake.f).bind fun t276 => (some t276)) else (some false)) = some r := by rw [if_neg (show ¬ (false = true) by decide)] at H; exact H
            clear H
            have H := H1
            clear H1
            by_cases c48 : t263 = 3
            · rw [if_pos c48] at H
              have c48b0 : (t263 == 3) = true := beq_iff_eq.mpr c48
              have c48b1 : (t263 != 3) = false := bne_eq_false_iff_eq.mpr c48
              clear c48
              replace H := Option.bind_eq_some_iff.mp H
              obtain ⟨t276, A490, H⟩ := H
              replace H : (some t276) = some r := H
              have A49 := Aside0.mk A490
              clear A490
              obtain rfl := Option.some.inj H
              go_wp2_with (first | ((with_reducible refine gate_callee (f := 21) rfl ?_); refine goesL_ (some 68) rfl rfl Tryd.func21 (by kernel_rfl) rfl #[.string a1] rfl (by (try simp only [List.map_toArray, List.map_cons, List.map_nil]); first | done | rfl | (simp only [List.length_drop, List.length_take]; rfl)) ?_; (with_reducible refine (sackbutref04_IsWalk.calls kj9 a1 false _ A34.out).mono ?_); rintro e w' ⟨rfl, ⟨nd, rfl⟩⟩; refine ⟨_, rfl, ?_⟩) | (go_at_call 20; (with_reducible refine (sackbutlaw04_awake.calls  t276 _ A49.out).mono ?_); rintro e w50 ⟨rfl, hb⟩; have n0_ := Aside0.mk (blk_below (g := gb257) (o := .cells #[.int .i64 a0_0, .int .i64 a0_1, .int .i64 a0_2] 23 (0, 0)) (by (with_reducible repeat (first | refine blk_drewN ?_ _ | refine blk_drew ?_ | refine blk_alloc ?_ _)); exact BK257.out) hb); have n1_ := Aside0.mk (below_step (by repeat (first | (with_reducible first | exact HB.out | apply below_alloc | apply pw_below_drewN | apply below_drew1 | refine below_set ?_ GE257.out) | exact HB.out)) hb); clear BK257; clear HB; have BK257 := n0_; have HB := n1_; clear n0_ n1_; (try clear hb); (try clear hb2); (try clear hk); (try clear hi)))
              go_ret
              exact ⟨by first | rfl | (simp [errW_none, errW_some] <;> rfl) | (simp [*, errW_none, errW_some] <;> rfl), by repeat (first | (with_reducible first | exact HB.out | apply below_alloc | apply pw_below_drewN | apply below_drew1 | refine below_set ?_ GE257.out) | exact HB.out)⟩
            · rw [if_neg c48] at H
              have c48b0 : (t263 == 3) = false := beq_eq_false_iff_ne.mpr c48
              have c48b1 : (t263 != 3) = true := bne_iff_ne.mpr c48
              obtain rfl := Option.some.inj H
              go_wp2_with (first | ((with_reducible refine gate_callee (f := 21) rfl ?_); refine goesL_ (some 68) rfl rfl Tryd.func21 (by kernel_rfl) rfl #[.string a1] rfl (by (try simp only [List.map_toArray, List.map_cons, List.map_nil]); first | done | rfl | (simp only [List.length_drop, List.length_take]; rfl)) ?_; (with_reducible refine (sackbutref04_IsWalk.calls kj9 a1 false _ A34.out).mono ?_); rintro e w' ⟨rfl, ⟨nd, rfl⟩⟩; refine ⟨_, rfl, ?_⟩))
              go_ret
              exact ⟨by first | rfl | (simp [errW_none, errW_some] <;> rfl) | (simp [*, errW_none, errW_some] <;> rfl), by repeat (first | (with_reducible first | exact HB.out | apply below_alloc | apply pw_below_drewN | apply below_drew1 | refine below_set ?_ GE257.out) | exact HB.out)⟩
  · replace c9 := Bool.eq_false_iff.mpr c9
    subst c9
    have H1 : (if t262 = true then (some false) else (if t267.toList = ([] : List UInt8) then (if t263 = 2 then (if t268 = 2 then ((sackbutlaw04_awake.f).bind fun t270 => (some t270)) else (some false)) else (some false)) else (some false))) = some r := by rw [if_neg (show ¬ (false = true) by decide)] at H; exact H
    clear H
    have H := H1
    clear H1
    by_cases c51 : t262 = true
    · subst c51
      have H1 : (some false) = some r := by rw [if_pos rfl] at H; exact H
      clear H
      have H := H1
      clear H1
      obtain rfl := Option.some.inj H
      go_enter Tryd.func7, Tryd.ntmps7
      go_wp2_with (first | ((with_reducible refine gate_dst (N := 2) rfl ?_); refine box_event ?hg (N := 2) ?hd (cs := #[.int .i64 a0_0, .int .i64 a0_1, .int .i64 a0_2]) (t := 23) ?hr ?_; (case hd => rfl); (case hg => rfl); (case hr => first | (go_simp; done) | (go_simp; rfl)); intro gb257 hg w52 hbox hb; have n0_ := Aside0.mk (below_step (by repeat (first | (with_reducible first | exact HB.out | apply below_alloc | apply pw_below_drewN | apply below_drew1) | exact HB.out)) hb); have n1_ := Aside0.mk (hbox); have n2_ := Aside0.mk ((by rw [hg]; exact (below_size (by repeat (first | (with_reducible first | exact HB.out | apply below_alloc | apply pw_below_drewN | apply below_drew1) | exact HB.out))) : w.heap.size ≤ gb257)); have n3_ := Aside0.mk ((by rw [hg]; exact (below_size (by repeat (first | (with_reducible first | exact HB.out | apply below_alloc | apply pw_below_drewN | apply below_drew1) | exact HB.out))) : w.heap.size ≤ gb257)); clear HB; have HB := n0_; have BK257 := n1_; have GW257 := n2_; have GE257 := n3_; clear n0_ n1_ n2_ n3_; clear hb hbox hg; have hcz53_0 : w52.cell? ⟨gb257, 0, none⟩ = some (.int .i64 a0_0) := (blk_cell BK257.out 0).trans rfl; have hcz53_1 : w52.cell? ⟨gb257, 1, none⟩ = some (.int .i64 a0_1) := (blk_cell BK257.out 1).trans rfl; have hcz53_2 : w52.cell? ⟨gb257, 2, none⟩ = some (.int .i64 a0_2) := (blk_cell BK257.out 2).trans rfl; have hfz53_0 := blk_frozen BK257.out 0; have hfz53_1 := blk_frozen BK257.out 1; have hfz53_2 := blk_frozen BK257.out 2) | ((with_reducible refine gate_callee (f := 17) rfl ?_); refine goesL_ (some 13) rfl rfl Tryd.func17 (by kernel_rfl) rfl #[.agg #[.int .i64 a0_0, .int .i64 a0_1, .int .i64 a0_2]] rfl (by (try simp only [List.map_toArray, List.map_cons, List.map_nil]); first | done | rfl | (simp only [List.length_drop, List.length_take]; rfl)) ?_; (with_reducible refine (sackbutlaw04_Of.calls a0_0 a0_1 a0_2 t258 t259 t260 _ A3.out).mono ?_); rintro e w54 ⟨rfl, hb⟩; refine ⟨_, rfl, ?_⟩; have n0_ := Aside0.mk (blk_below (g := gb257) (o := .cells #[.int .i64 a0_0, .int .i64 a0_1, .int .i64 a0_2] 23 (0, 0)) (by (with_reducible repeat (first | refine blk_drewN ?_ _ | refine blk_drew ?_ | refine blk_alloc ?_ _)); exact BK257.out) hb); have n1_ := Aside0.mk (below_step (by repeat (first | (with_reducible first | exact HB.out | apply below_alloc | apply pw_below_drewN | apply below_drew1 | refine below_set ?_ GE257.out) | exact HB.out)) hb); clear BK257; clear HB; have BK257 := n0_; have HB := n1_; clear n0_ n1_; (try clear hb); (try clear hb2); (try clear hk); (try clear hi)) | ((with_reducible refine gate_callee (f := 18) rfl ?_); refine goesL_ (some 15) rfl rfl Tryd.func18 (by kernel_rfl) rfl #[.string a1] rfl (by (try simp only [List.map_toArray, List.map_cons, List.map_nil]); first | done | rfl | (simp only [List.length_drop, List.length_take]; rfl)) ?_; (with_reducible refine (sackbutlaw04_text.calls a1 t261 _ A4.out).mono ?_); rintro e w55 ⟨rfl, hb⟩; refine ⟨_, rfl, ?_⟩; have n0_ := Aside0.mk (blk_below (g := gb257) (o := .cells #[.int .i64 a0_0, .int .i64 a0_1, .int .i64 a0_2] 23 (0, 0)) (by (with_reducible repeat (first | refine blk_drewN ?_ _ | refine blk_drew ?_ | refine blk_alloc ?_ _)); exact BK257.out) hb); have n1_ := Aside0.mk (below_step (by repeat (first | (with_reducible first | exact HB.out | apply below_alloc | apply pw_below_drewN | apply below_drew1 | refine below_set ?_ GE257.out) | exact HB.out)) hb); clear BK257; clear HB; have BK257 := n0_; have HB := n1_; clear n0_ n1_; (try clear hb); (try clear hb2); (try clear hk); (try clear hi)) | ((with_reducible refine gate_callee (f := 30) rfl ?_); refine goesL_ (some 16) rfl rfl Tryd.func30 (by kernel_rfl) rfl #[.agg #[.int .i64 t258, .int .i64 t259, .int .i64 t260], .string t261] rfl (by (try simp only [List.map_toArray, List.map_cons, List.map_nil]); first | done | rfl | (simp only [List.length_drop, List.length_take]; rfl)) ?_; (with_reducible refine (triads_Tour.calls k t258 t259 t260 t261 true t263 _ A5.out).mono ?_); rintro e w56 ⟨rfl, hb⟩; refine ⟨_, rfl, ?_⟩; have n0_ := Aside0.mk (blk_below (g := gb257) (o := .cells #[.int .i64 a0_0, .int .i64 a0_1, .int .i64 a0_2] 23 (0, 0)) (by (with_reducible repeat (first | refine blk_drewN ?_ _ | refine blk_drew ?_ | refine blk_alloc ?_ _)); exact BK257.out) hb); have n1_ := Aside0.mk (below_step (by repeat (first | (with_reducible first | exact HB.out | apply below_alloc | apply pw_below_drewN | apply below_drew1 | refine below_set ?_ GE257.out) | exact HB.out)) hb); clear BK257; clear HB; have BK257 := n0_; have HB := n1_; clear n0_ n1_; (try clear hb); (try clear hb2); (try clear hk); (try clear hi); have hcz57_0 : w56.cell? ⟨gb257, 0, none⟩ = some (.int .i64 a0_0) := (blk_cell BK257.out 0).trans rfl; have hcz57_1 : w56.cell? ⟨gb257, 1, none⟩ = some (.int .i64 a0_1) := (blk_cell BK257.out 1).trans rfl; have hcz57_2 : w56.cell? ⟨gb257, 2, none⟩ = some (.int .i64 a0_2) := (blk_cell BK257.out 2).trans rfl; have hfz57_0 := blk_frozen BK257.out 0; have hfz57_1 := blk_frozen BK257.out 1; have hfz57_2 := blk_frozen BK257.out 2) | ((with_reducible refine gate_callee (f := 17) rfl ?_); refine goesL_ (some 21) rfl rfl Tryd.func17 (by kernel_rfl) rfl #[.agg #[.int .i64 a0_0, .int .i64 a0_1, .int .i64 a0_2]] rfl (by (try simp only [List.map_toArray, List.map_cons, List.map_nil]); first | done | rfl | (simp only [List.length_drop, List.length_take]; rfl)) ?_; (with_reducible refine (sackbutlaw04_Of.calls a0_0 a0_1 a0_2 t264 t265 t266 _ A6.out).mono ?_); rintro e w58 ⟨rfl, hb⟩; refine ⟨_, rfl, ?_⟩; have n0_ := Aside0.mk (blk_below (g := gb257) (o := .cells #[.int .i64 a0_0, .int .i64 a0_1, .int .i64 a0_2] 23 (0, 0)) (by (with_reducible repeat (first | refine blk_drewN ?_ _ | refine blk_drew ?_ | refine blk_alloc ?_ _)); exact BK257.out) hb); have n1_ := Aside0.mk (below_step (by repeat (first | (with_reducible first | exact HB.out | apply below_alloc | apply pw_below_drewN | apply below_drew1 | refine below_set ?_ GE257.out) | exact HB.out)) hb); clear BK257; clear HB; have BK257 := n0_; have HB := n1_; clear n0_ n1_; (try clear hb); (try clear hb2); (try clear hk); (try clear hi)) | ((with_reducible refine gate_callee (f := 31) rfl ?_); refine goesL_ (some 22) rfl rfl Tryd.func31 (by kernel_rfl) rfl #[.agg #[.int .i64 t264, .int .i64 t265, .int .i64 t266]] rfl (by (try simp only [List.map_toArray, List.map_cons, List.map_nil]); first | done | rfl | (simp only [List.length_drop, List.length_take]; rfl)) ?_; (with_reducible refine (triads_Tours.calls t264 t265 t266 t267 t268 _ A7.out).mono ?_); rintro e w59 ⟨rfl, hb⟩; refine ⟨_, rfl, ?_⟩; have n0_ := Aside0.mk (blk_below (g := gb257) (o := .cells #[.int .i64 a0_0, .int .i64 a0_1, .int .i64 a0_2] 23 (0, 0)) (by (with_reducible repeat (first | refine blk_drewN ?_ _ | refine blk_drew ?_ | refine blk_alloc ?_ _)); exact BK257.out) hb); have n1_ := Aside0.mk (below_step (by repeat (first | (with_reducible first | exact HB.out | apply below_alloc | apply pw_below_drewN | apply below_drew1 | refine below_set ?_ GE257.out) | exact HB.out)) hb); clear BK257; clear HB; have BK257 := n0_; have HB := n1_; clear n0_ n1_; (try clear hb); (try clear hb2); (try clear hk); (try clear hi); have hcz60_0 : w59.cell? ⟨gb257, 0, none⟩ = some (.int .i64 a0_0) := (blk_cell BK257.out 0).trans rfl; have hcz60_1 : w59.cell? ⟨gb257, 1, none⟩ = some (.int .i64 a0_1) := (blk_cell BK257.out 1).trans rfl; have hcz60_2 : w59.cell? ⟨gb257, 2, none⟩ = some (.int .i64 a0_2) := (blk_cell BK257.out 2).trans rfl; have hfz60_0 := blk_frozen BK257.out 0; have hfz60_1 := blk_frozen BK257.out 1; have hfz60_2 := blk_frozen BK257.out 2) | ((with_reducible refine gate_callee (f := 28) rfl ?_); refine goesL_ (some 26) rfl rfl Tryd.func28 (by kernel_rfl) rfl #[.agg #[.int .i64 a0_0, .int .i64 a0_1, .int .i64 a0_2]] rfl (by (try simp only [List.map_toArray, List.map_cons, List.map_nil]); first | done | rfl | (simp only [List.length_drop, List.length_take]; rfl)) ?_; (with_reducible refine (sackbutref04_Valid.calls a0_0 a0_1 a0_2 false _ A8.out).mono ?_); rintro e w61 ⟨rfl, hb⟩; refine ⟨_, rfl, ?_⟩; have n0_ := Aside0.mk (blk_below (g := gb257) (o := .cells #[.int .i64 a0_0, .int .i64 a0_1, .int .i64 a0_2] 23 (0, 0)) (by (with_reducible repeat (first | refine blk_drewN ?_ _ | refine blk_drew ?_ | refine blk_alloc ?_ _)); exact BK257.out) hb); have n1_ := Aside0.mk (below_step (by repeat (first | (with_reducible first | exact HB.out | apply below_alloc | apply pw_below_drewN | apply below_drew1 | refine below_set ?_ GE257.out) | exact HB.out)) hb); clear BK257; clear HB; have BK257 := n0_; have HB := n1_; clear n0_ n1_; (try clear hb); (try clear hb2); (try clear hk); (try clear hi)))
      go_ret
      exact ⟨by first | rfl | (simp [errW_none, errW_some] <;> rfl) | (simp [*, errW_none, errW_some] <;> rfl), by repeat (first | (with_reducible first | exact HB.out | apply below_alloc | apply pw_below_drewN | apply below_drew1 | refine below_set ?_ GE257.out) | exact HB.out)⟩
    · replace c51 := Bool.eq_false_iff.mpr c51
      subst c51
      have H1 : (if t267.toList = ([] : List UInt8) then (if t263 = 2 then (if t268 = 2 then ((sackbutlaw04_awake.f).bind fun t270 => (some t270)) else (some false)) else (some false)) else (some false)) = some r := by rw [if_neg (show ¬ (false = true) by decide)] at H; exact H
      clear H
      have H := H1
      clear H1
      by_cases c62 : t267.toList = ([] : List UInt8)
      · rw [if_pos c62] at H
        have c62b0 : (t267.toList == ([] : List UInt8)) = true := beq_iff_eq.mpr c62
        have c62b1 : (t267.toList != ([] : List UInt8)) = false := bne_eq_false_iff_eq.mpr c62
        clear c62
        by_cases c63 : t263 = 2
        · rw [if_pos c63] at H
          have c63b0 : (t263 == 2) = true := beq_iff_eq.mpr c63
          have c63b1 : (t263 != 2) = false := bne_eq_false_iff_eq.mpr c63
          clear c63
          by_cases c64 : t268 = 2
          · rw [if_pos c64] at H
            have c64b0 : (t268 == 2) = true := beq_iff_eq.mpr c64
            have c64b1 : (t268 != 2) = false := bne_eq_false_iff_eq.mpr c64
            clear c64
            replace H := Option.bind_eq_some_iff.mp H
            obtain ⟨t270, A650, H⟩ := H
            replace H : (some t270) = some r := H
            have A65 := Aside0.mk A650
            clear A650
            obtain rfl := Option.some.inj H
            go_enter Tryd.func7, Tryd.ntmps7
            go_wp2_with (first | ((with_reducible refine gate_dst (N := 2) rfl ?_); refine box_event ?hg (N := 2) ?hd (cs := #[.int .i64 a0_0, .int .i64 a0_1, .int .i64 a0_2]) (t := 23) ?hr ?_; (case hd => rfl); (case hg => rfl); (case hr => first | (go_simp; done) | (go_simp; rfl)); intro gb257 hg w66 hbox hb; have n0_ := Aside0.mk (below_step (by repeat (first | (with_reducible first | exact HB.out | apply below_alloc | apply pw_below_drewN | apply below_drew1) | exact HB.out)) hb); have n1_ := Aside0.mk (hbox); have n2_ := Aside0.mk ((by rw [hg]; exact (below_size (by repeat (first | (with_reducible first | exact HB.out | apply below_alloc | apply pw_below_drewN | apply below_drew1) | exact HB.out))) : w.heap.size ≤ gb257)); have n3_ := Aside0.mk ((by rw [hg]; exact (below_size (by repeat (first | (with_reducible first | exact HB.out | apply below_alloc | apply pw_below_drewN | apply below_drew1) | exact HB.out))) : w.heap.size ≤ gb257)); clear HB; have HB := n0_; have BK257 := n1_; have GW257 := n2_; have GE257 := n3_; clear n0_ n1_ n2_ n3_; clear hb hbox hg; have hcz67_0 : w66.cell? ⟨gb257, 0, none⟩ = some (.int .i64 a0_0) := (blk_cell BK257.out 0).trans rfl; have hcz67_1 : w66.cell? ⟨gb257, 1, none⟩ = some (.int .i64 a0_1) := (blk_cell BK257.out 1).trans rfl; have hcz67_2 : w66.cell? ⟨gb257, 2, none⟩ = some (.int .i64 a0_2) := (blk_cell BK257.out 2).trans rfl; have hfz67_0 := blk_frozen BK257.out 0; have hfz67_1 := blk_frozen BK257.out 1; have hfz67_2 := blk_frozen BK257.out 2) | ((with_reducible refine gate_callee (f := 17) rfl ?_); refine goesL_ (some 13) rfl rfl Tryd.func17 (by kernel_rfl) rfl #[.agg #[.int .i64 a0_0, .int .i64 a0_1, .int .i64 a0_2]] rfl (by (try simp only [List.map_toArray, List.map_cons, List.map_nil]); first | done | rfl | (simp only [List.length_drop, List.length_take]; rfl)) ?_; (with_reducible refine (sackbutlaw04_Of.calls a0_0 a0_1 a0_2 t258 t259 t260 _ A3.out).mono ?_); rintro e w68 ⟨rfl, hb⟩; refine ⟨_, rfl, ?_⟩; have n0_ := Aside0.mk (blk_below (g := gb257) (o := .cells #[.int .i64 a0_0, .int .i64 a0_1, .int .i64 a0_2] 23 (0, 0)) (by (with_reducible repeat (first | refine blk_drewN ?_ _ | refine blk_drew ?_ | refine blk_alloc ?_ _)); exact BK257.out) hb); have n1_ := Aside0.mk (below_step (by repeat (first | (with_reducible first | exact HB.out | apply below_alloc | apply pw_below_drewN | apply below_drew1 | refine below_set ?_ GE257.out) | exact HB.out)) hb); clear BK257; clear HB; have BK257 := n0_; have HB := n1_; clear n0_ n1_; (try clear hb); (try clear hb2); (try clear hk); (try clear hi)) | ((with_reducible refine gate_callee (f := 18) rfl ?_); refine goesL_ (some 15) rfl rfl Tryd.func18 (by kernel_rfl) rfl #[.string a1] rfl (by (try simp only [List.map_toArray, List.map_cons, List.map_nil]); first | done | rfl | (simp only [List.length_drop, List.length_take]; rfl)) ?_; (with_reducible refine (sackbutlaw04_text.calls a1 t261 _ A4.out).mono ?_); rintro e w69 ⟨rfl, hb⟩; refine ⟨_, rfl, ?_⟩; have n0_ := Aside0.mk (blk_below (g := gb257) (o := .cells #[.int .i64 a0_0, .int .i64 a0_1, .int .i64 a0_2] 23 (0, 0)) (by (with_reducible repeat (first | refine blk_drewN ?_ _ | refine blk_drew ?_ | refine blk_alloc ?_ _)); exact BK257.out) hb); have n1_ := Aside0.mk (below_step (by repeat (first | (with_reducible first | exact HB.out | apply below_alloc | apply pw_below_drewN | apply below_drew1 | refine below_set ?_ GE257.out) | exact HB.out)) hb); clear BK257; clear HB; have BK257 := n0_; have HB := n1_; clear n0_ n1_; (try clear hb); (try clear hb2); (try clear hk); (try clear hi)) | ((with_reducible refine gate_callee (f := 30) rfl ?_); refine goesL_ (some 16) rfl rfl Tryd.func30 (by kernel_rfl) rfl #[.agg #[.int .i64 t258, .int .i64 t259, .int .i64 t260], .string t261] rfl (by (try simp only [List.map_toArray, List.map_cons, List.map_nil]); first | done | rfl | (simp only [List.length_drop, List.length_take]; rfl)) ?_; (with_reducible refine (triads_Tour.calls k t258 t259 t260 t261 false t263 _ A5.out).mono ?_); rintro e w70 ⟨rfl, hb⟩; refine ⟨_, rfl, ?_⟩; have n0_ := Aside0.mk (blk_below (g := gb257) (o := .cells #[.int .i64 a0_0, .int .i64 a0_1, .int .i64 a0_2] 23 (0, 0)) (by (with_reducible repeat (first | refine blk_drewN ?_ _ | refine blk_drew ?_ | refine blk_alloc ?_ _)); exact BK257.out) hb); have n1_ := Aside0.mk (below_step (by repeat (first | (with_reducible first | exact HB.out | apply below_alloc | apply pw_below_drewN | apply below_drew1 | refine below_set ?_ GE257.out) | exact HB.out)) hb); clear BK257; clear HB; have BK257 := n0_; have HB := n1_; clear n0_ n1_; (try clear hb); (try clear hb2); (try clear hk); (try clear hi); have hcz71_0 : w70.cell? ⟨gb257, 0, none⟩ = some (.int .i64 a0_0) := (blk_cell BK257.out 0).trans rfl; have hcz71_1 : w70.cell? ⟨gb257, 1, none⟩ = some (.int .i64 a0_1) := (blk_cell BK257.out 1).trans rfl; have hcz71_2 : w70.cell? ⟨gb257, 2, none⟩ = some (.int .i64 a0_2) := (blk_cell BK257.out 2).trans rfl; have hfz71_0 := blk_frozen BK257.out 0; have hfz71_1 := blk_frozen BK257.out 1; have hfz71_2 := blk_frozen BK257.out 2) | ((with_reducible refine gate_callee (f := 17) rfl ?_); refine goesL_ (some 21) rfl rfl Tryd.func17 (by kernel_rfl) rfl #[.agg #[.int .i64 a0_0, .int .i64 a0_1, .int .i64 a0_2]] rfl (by (try simp only [List.map_toArray, List.map_cons, List.map_nil]); first | done | rfl | (simp only [List.length_drop, List.length_take]; rfl)) ?_; (with_reducible refine (sackbutlaw04_Of.calls a0_0 a0_1 a0_2 t264 t265 t266 _ A6.out).mono ?_); rintro e w72 ⟨rfl, hb⟩; refine ⟨_, rfl, ?_⟩; have n0_ := Aside0.mk (blk_below (g := gb257) (o := .cells #[.int .i64 a0_0, .int .i64 a0_1, .int .i64 a0_2] 23 (0, 0)) (by (with_reducible repeat (first | refine blk_drewN ?_ _ | refine blk_drew ?_ | refine blk_alloc ?_ _)); exact BK257.out) hb); have n1_ := Aside0.mk (below_step (by repeat (first | (with_reducible first | exact HB.out | apply below_alloc | apply pw_below_drewN | apply below_drew1 | refine below_set ?_ GE257.out) | exact HB.out)) hb); clear BK257; clear HB; have BK257 := n0_; have HB := n1_; clear n0_ n1_; (try clear hb); (try clear hb2); (try clear hk); (try clear hi)) | ((with_reducible refine gate_callee (f := 31) rfl ?_); refine goesL_ (some 22) rfl rfl Tryd.func31 (by kernel_rfl) rfl #[.agg #[.int .i64 t264, .int .i64 t265, .int .i64 t266]] rfl (by (try simp only [List.map_toArray, List.map_cons, List.map_nil]); first | done | rfl | (simp only [List.length_drop, List.length_take]; rfl)) ?_; (with_reducible refine (triads_Tours.calls t264 t265 t266 t267 t268 _ A7.out).mono ?_); rintro e w73 ⟨rfl, hb⟩; refine ⟨_, rfl, ?_⟩; have n0_ := Aside0.mk (blk_below (g := gb257) (o := .cells #[.int .i64 a0_0, .int .i64 a0_1, .int .i64 a0_2] 23 (0, 0)) (by (with_reducible repeat (first | refine blk_drewN ?_ _ | refine blk_drew ?_ | refine blk_alloc ?_ _)); exact BK257.out) hb); have n1_ := Aside0.mk (below_step (by repeat (first | (with_reducible first | exact HB.out | apply below_alloc | apply pw_below_drewN | apply below_drew1 | refine below_set ?_ GE257.out) | exact HB.out)) hb); clear BK257; clear HB; have BK257 := n0_; have HB := n1_; clear n0_ n1_; (try clear hb); (try clear hb2); (try clear hk); (try clear hi); have hcz74_0 : w73.cell? ⟨gb257, 0, none⟩ = some (.int .i64 a0_0) := (blk_cell BK257.out 0).trans rfl; have hcz74_1 : w73.cell? ⟨gb257, 1, none⟩ = some (.int .i64 a0_1) := (blk_cell BK257.out 1).trans rfl; have hcz74_2 : w73.cell? ⟨gb257, 2, none⟩ = some (.int .i64 a0_2) := (blk_cell BK257.out 2).trans rfl; have hfz74_0 := blk_frozen BK257.out 0; have hfz74_1 := blk_frozen BK257.out 1; have hfz74_2 := blk_frozen BK257.out 2) | ((with_reducible refine gate_callee (f := 28) rfl ?_); refine goesL_ (some 26) rfl rfl Tryd.func28 (by kernel_rfl) rfl #[.agg #[.int .i64 a0_0, .int .i64 a0_1, .int .i64 a0_2]] rfl (by (try simp only [List.map_toArray, List.map_cons, List.map_nil]); first | done | rfl | (simp only [List.length_drop, List.length_take]; rfl)) ?_; (with_reducible refine (sackbutref04_Valid.calls a0_0 a0_1 a0_2 false _ A8.out).mono ?_); rintro e w75 ⟨rfl, hb⟩; refine ⟨_, rfl, ?_⟩; have n0_ := Aside0.mk (blk_below (g := gb257) (o := .cells #[.int .i64 a0_0, .int .i64 a0_1, .int .i64 a0_2] 23 (0, 0)) (by (with_reducible repeat (first | refine blk_drewN ?_ _ | refine blk_drew ?_ | refine blk_alloc ?_ _)); exact BK257.out) hb); have n1_ := Aside0.mk (below_step (by repeat (first | (with_reducible first | exact HB.out | apply below_alloc | apply pw_below_drewN | apply below_drew1 | refine below_set ?_ GE257.out) | exact HB.out)) hb); clear BK257; clear HB; have BK257 := n0_; have HB := n1_; clear n0_ n1_; (try clear hb); (try clear hb2); (try clear hk); (try clear hi)) | (go_at_call 20; (with_reducible refine (sackbutlaw04_awake.calls  t270 _ A65.out).mono ?_); rintro e w76 ⟨rfl, hb⟩; have n0_ := Aside0.mk (blk_below (g := gb257) (o := .cells #[.int .i64 a0_0, .int .i64 a0_1, .int .i64 a0_2] 23 (0, 0)) (by (with_reducible repeat (first | refine blk_drewN ?_ _ | refine blk_drew ?_ | refine blk_alloc ?_ _)); exact BK257.out) hb); have n1_ := Aside0.mk (below_step (by repeat (first | (with_reducible first | exact HB.out | apply below_alloc | apply pw_below_drewN | apply below_drew1 | refine below_set ?_ GE257.out) | exact HB.out)) hb); clear BK257; clear HB; have BK257 := n0_; have HB := n1_; clear n0_ n1_; (try clear hb); (try clear hb2); (try clear hk); (try clear hi)))
            go_ret
            exact ⟨by first | rfl | (simp [errW_none, errW_some] <;> rfl) | (simp [*, errW_none, errW_some] <;> rfl), by repeat (first | (with_reducible first | exact HB.out | apply below_alloc | apply pw_below_drewN | apply below_drew1 | refine below_set ?_ GE257.out) | exact HB.out)⟩
          · rw [if_neg c64] at H
            have c64b0 : (t268 == 2) = false := beq_eq_false_iff_ne.mpr c64
            have c64b1 : (t268 != 2) = true := bne_iff_ne.mpr c64
            obtain rfl := Option.some.inj H
            go_enter Tryd.func7, Tryd.ntmps7
            go_wp2_with (first | ((with_reducible refine gate_dst (N := 2) rfl ?_); refine box_event ?hg (N := 2) ?hd (cs := #[.int .i64 a0_0, .int .i64 a0_1, .int .i64 a0_2]) (t := 23) ?hr ?_; (case hd => rfl); (case hg => rfl); (case hr => first | (go_simp; done) | (go_simp; rfl)); intro gb257 hg w77 hbox hb; have n0_ := Aside0.mk (below_step (by repeat (first | (with_reducible first | exact HB.out | apply below_alloc | apply pw_below_drewN | apply below_drew1) | exact HB.out)) hb); have n1_ := Aside0.mk (hbox); have n2_ := Aside0.mk ((by rw [hg]; exact (below_size (by repeat (first | (with_reducible first | exact HB.out | apply below_alloc | apply pw_below_drewN | apply below_drew1) | exact HB.out))) : w.heap.size ≤ gb257)); have n3_ := Aside0.mk ((by rw [hg]; exact (below_size (by repeat (first | (with_reducible first | exact HB.out | apply below_alloc | apply pw_below_drewN | apply below_drew1) | exact HB.out))) : w.heap.size ≤ gb257)); clear HB; have HB := n0_; have BK257 := n1_; have GW257 := n2_; have GE257 := n3_; clear n0_ n1_ n2_ n3_; clear hb hbox hg; have hcz78_0 : w77.cell? ⟨gb257, 0, none⟩ = some (.int .i64 a0_0) := (blk_cell BK257.out 0).trans rfl; have hcz78_1 : w77.cell? ⟨gb257, 1, none⟩ = some (.int .i64 a0_1) := (blk_cell BK257.out 1).trans rfl; have hcz78_2 : w77.cell? ⟨gb257, 2, none⟩ = some (.int .i64 a0_2) := (blk_cell BK257.out 2).trans rfl; have hfz78_0 := blk_frozen BK257.out 0; have hfz78_1 := blk_frozen BK257.out 1; have hfz78_2 := blk_frozen BK257.out 2) | ((with_reducible refine gate_callee (f := 17) rfl ?_); refine goesL_ (some 13) rfl rfl Tryd.func17 (by kernel_rfl) rfl #[.agg #[.int .i64 a0_0, .int .i64 a0_1, .int .i64 a0_2]] rfl (by (try simp only [List.map_toArray, List.map_cons, List.map_nil]); first | done | rfl | (simp only [List.length_drop, List.length_take]; rfl)) ?_; (with_reducible refine (sackbutlaw04_Of.calls a0_0 a0_1 a0_2 t258 t259 t260 _ A3.out).mono ?_); rintro e w79 ⟨rfl, hb⟩; refine ⟨_, rfl, ?_⟩; have n0_ := Aside0.mk (blk_below (g := gb257) (o := .cells #[.int .i64 a0_0, .int .i64 a0_1, .int .i64 a0_2] 23 (0, 0)) (by (with_reducible repeat (first | refine blk_drewN ?_ _ | refine blk_drew ?_ | refine blk_alloc ?_ _)); exact BK257.out) hb); have n1_ := Aside0.mk (below_step (by repeat (first | (with_reducible first | exact HB.out | apply below_alloc | apply pw_below_drewN | apply below_drew1 | refine below_set ?_ GE257.out) | exact HB.out)) hb); clear BK257; clear HB; have BK257 := n0_; have HB := n1_; clear n0_ n1_; (try clear hb); (try clear hb2); (try clear hk); (try clear hi)) | ((with_reducible refine gate_callee (f := 18) rfl ?_); refine goesL_ (some 15) rfl rfl Tryd.func18 (by kernel_rfl) rfl #[.string a1] rfl (by (try simp only [List.map_toArray, List.map_cons, List.map_nil]); first | done | rfl | (simp only [List.length_drop, List.length_take]; rfl)) ?_; (with_reducible refine (sackbutlaw04_text.calls a1 t261 _ A4.out).mono ?_); rintro e w80 ⟨rfl, hb⟩; refine ⟨_, rfl, ?_⟩; have n0_ := Aside0.mk (blk_below (g := gb257) (o := .cells #[.int .i64 a0_0, .int .i64 a0_1, .int .i64 a0_2] 23 (0, 0)) (by (with_reducible repeat (first | refine blk_drewN ?_ _ | refine blk_drew ?_ | refine blk_alloc ?_ _)); exact BK257.out) hb); have n1_ := Aside0.mk (below_step (by repeat (first | (with_reducible first | exact HB.out | apply below_alloc | apply pw_below_drewN | apply below_drew1 | refine below_set ?_ GE257.out) | exact HB.out)) hb); clear BK257; clear HB; have BK257 := n0_; have HB := n1_; clear n0_ n1_; (try clear hb); (try clear hb2); (try clear hk); (try clear hi)) | ((with_reducible refine gate_callee (f := 30) rfl ?_); refine goesL_ (some 16) rfl rfl Tryd.func30 (by kernel_rfl) rfl #[.agg #[.int .i64 t258, .int .i64 t259, .int .i64 t260], .string t261] rfl (by (try simp only [List.map_toArray, List.map_cons, List.map_nil]); first | done | rfl | (simp only [List.length_drop, List.length_take]; rfl)) ?_; (with_reducible refine (triads_Tour.calls k t258 t259 t260 t261 false t263 _ A5.out).mono ?_); rintro e w81 ⟨rfl, hb⟩; refine ⟨_, rfl, ?_⟩; have n0_ := Aside0.mk (blk_below (g := gb257) (o := .cells #[.int .i64 a0_0, .int .i64 a0_1, .int .i64 a0_2] 23 (0, 0)) (by (with_reducible repeat (first | refine blk_drewN ?_ _ | refine blk_drew ?_ | refine blk_alloc ?_ _)); exact BK257.out) hb); have n1_ := Aside0.mk (below_step (by repeat (first | (with_reducible first | exact HB.out | apply below_alloc | apply pw_below_drewN | apply below_drew1 | refine below_set ?_ GE257.out) | exact HB.out)) hb); clear BK257; clear HB; have BK257 := n0_; have HB := n1_; clear n0_ n1_; (try clear hb); (try clear hb2); (try clear hk); (try clear hi); have hcz82_0 : w81.cell? ⟨gb257, 0, none⟩ = some (.int .i64 a0_0) := (blk_cell BK257.out 0).trans rfl; have hcz82_1 : w81.cell? ⟨gb257, 1, none⟩ = some (.int .i64 a0_1) := (blk_cell BK257.out 1).trans rfl; have hcz82_2 : w81.cell? ⟨gb257, 2, none⟩ = some (.int .i64 a0_2) := (blk_cell BK257.out 2).trans rfl; have hfz82_0 := blk_frozen BK257.out 0; have hfz82_1 := blk_frozen BK257.out 1; have hfz82_2 := blk_frozen BK257.out 2) | ((with_reducible refine gate_callee (f := 17) rfl ?_); refine goesL_ (some 21) rfl rfl Tryd.func17 (by kernel_rfl) rfl #[.agg #[.int .i64 a0_0, .int .i64 a0_1, .int .i64 a0_2]] rfl (by (try simp only [List.map_toArray, List.map_cons, List.map_nil]); first | done | rfl | (simp only [List.length_drop, List.length_take]; rfl)) ?_; (with_reducible refine (sackbutlaw04_Of.calls a0_0 a0_1 a0_2 t264 t265 t266 _ A6.out).mono ?_); rintro e w83 ⟨rfl, hb⟩; refine ⟨_, rfl, ?_⟩; have n0_ := Aside0.mk (blk_below (g := gb257) (o := .cells #[.int .i64 a0_0, .int .i64 a0_1, .int .i64 a0_2] 23 (0, 0)) (by (with_reducible repeat (first | refine blk_drewN ?_ _ | refine blk_drew ?_ | refine blk_alloc ?_ _)); exact BK257.out) hb); have n1_ := Aside0.mk (below_step (by repeat (first | (with_reducible first | exact HB.out | apply below_alloc | apply pw_below_drewN | apply below_drew1 | refine below_set ?_ GE257.out) | exact HB.out)) hb); clear BK257; clear HB; have BK257 := n0_; have HB := n1_; clear n0_ n1_; (try clear hb); (try clear hb2); (try clear hk); (try clear hi)) | ((with_reducible refine gate_callee (f := 31) rfl ?_); refine goesL_ (some 22) rfl rfl Tryd.func31 (by kernel_rfl) rfl #[.agg #[.int .i64 t264, .int .i64 t265, .int .i64 t266]] rfl (by (try simp only [List.map_toArray, List.map_cons, List.map_nil]); first | done | rfl | (simp only [List.length_drop, List.length_take]; rfl)) ?_; (with_reducible refine (triads_Tours.calls t264 t265 t266 t267 t268 _ A7.out).mono ?_); rintro e w84 ⟨rfl, hb⟩; refine ⟨_, rfl, ?_⟩; have n0_ := Aside0.mk (blk_below (g := gb257) (o := .cells #[.int .i64 a0_0, .int .i64 a0_1, .int .i64 a0_2] 23 (0, 0)) (by (with_reducible repeat (first | refine blk_drewN ?_ _ | refine blk_drew ?_ | refine blk_alloc ?_ _)); exact BK257.out) hb); have n1_ := Aside0.mk (below_step (by repeat (first | (with_reducible first | exact HB.out | apply below_alloc | apply pw_below_drewN | apply below_drew1 | refine below_set ?_ GE257.out) | exact HB.out)) hb); clear BK257; clear HB; have BK257 := n0_; have HB := n1_; clear n0_ n1_; (try clear hb); (try clear hb2); (try clear hk); (try clear hi); have hcz85_0 : w84.cell? ⟨gb257, 0, none⟩ = some (.int .i64 a0_0) := (blk_cell BK257.out 0).trans rfl; have hcz85_1 : w84.cell? ⟨gb257, 1, none⟩ = some (.int .i64 a0_1) := (blk_cell BK257.out 1).trans rfl; have hcz85_2 : w84.cell? ⟨gb257, 2, none⟩ = some (.int .i64 a0_2) := (blk_cell BK257.out 2).trans rfl; have hfz85_0 := blk_frozen BK257.out 0; have hfz85_1 := blk_frozen BK257.out 1; have hfz85_2 := blk_frozen BK257.out 2) | ((with_reducible refine gate_callee (f := 28) rfl ?_); refine goesL_ (some 26) rfl rfl Tryd.func28 (by kernel_rfl) rfl #[.agg #[.int .i64 a0_0, .int .i64 a0_1, .int .i64 a0_2]] rfl (by (try simp only [List.map_toArray, List.map_cons, List.map_nil]); first | done | rfl | (simp only [List.length_drop, List.length_take]; rfl)) ?_; (with_reducible refine (sackbutref04_Valid.calls a0_0 a0_1 a0_2 false _ A8.out).mono ?_); rintro e w86 ⟨rfl, hb⟩; refine ⟨_, rfl, ?_⟩; have n0_ := Aside0.mk (blk_below (g := gb257) (o := .cells #[.int .i64 a0_0, .int .i64 a0_1, .int .i64 a0_2] 23 (0, 0)) (by (with_reducible repeat (first | refine blk_drewN ?_ _ | refine blk_drew ?_ | refine blk_alloc ?_ _)); exact BK257.out) hb); have n1_ := Aside0.mk (below_step (by repeat (first | (with_reducible first | exact HB.out | apply below_alloc | apply pw_below_drewN | apply below_drew1 | refine below_set ?_ GE257.out) | exact HB.out)) hb); clear BK257; clear HB; have BK257 := n0_; have HB := n1_; clear n0_ n1_; (try clear hb); (try clear hb2); (try clear hk); (try clear hi)))
            go_ret
            exact ⟨by first | rfl | (simp [errW_none, errW_some] <;> rfl) | (simp [*, errW_none, errW_some] <;> rfl), by repeat (first | (with_reducible first | exact HB.out | apply below_alloc | apply pw_below_drewN | apply below_drew1 | refine below_set ?_ GE257.out) | exact HB.out)⟩
        · rw [if_neg c63] at H
          have c63b0 : (t263 == 2) = false := beq_eq_false_iff_ne.mpr c63
          have c63b1 : (t263 != 2) = true := bne_iff_ne.mpr c63
          obtain rfl := Option.some.inj H
          go_enter Tryd.func7, Tryd.ntmps7
          go_wp2_with (first | ((with_reducible refine gate_dst (N := 2) rfl ?_); refine box_event ?hg (N := 2) ?hd (cs := #[.int .i64 a0_0, .int .i64 a0_1, .int .i64 a0_2]) (t := 23) ?hr ?_; (case hd => rfl); (case hg => rfl); (case hr => first | (go_simp; done) | (go_simp; rfl)); intro gb257 hg w87 hbox hb; have n0_ := Aside0.mk (below_step (by repeat (first | (with_reducible first | exact HB.out | apply below_alloc | apply pw_below_drewN | apply below_drew1) | exact HB.out)) hb); have n1_ := Aside0.mk (hbox); have n2_ := Aside0.mk ((by rw [hg]; exact (below_size (by repeat (first | (with_reducible first | exact HB.out | apply below_alloc | apply pw_below_drewN | apply below_drew1) | exact HB.out))) : w.heap.size ≤ gb257)); have n3_ := Aside0.mk ((by rw [hg]; exact (below_size (by repeat (first | (with_reducible first | exact HB.out | apply below_alloc | apply pw_below_drewN | apply below_drew1) | exact HB.out))) : w.heap.size ≤ gb257)); clear HB; have HB := n0_; have BK257 := n1_; have GW257 := n2_; have GE257 := n3_; clear n0_ n1_ n2_ n3_; clear hb hbox hg; have hcz88_0 : w87.cell? ⟨gb257, 0, none⟩ = some (.int .i64 a0_0) := (blk_cell BK257.out 0).trans rfl; have hcz88_1 : w87.cell? ⟨gb257, 1, none⟩ = some (.int .i64 a0_1) := (blk_cell BK257.out 1).trans rfl; have hcz88_2 : w87.cell? ⟨gb257, 2, none⟩ = some (.int .i64 a0_2) := (blk_cell BK257.out 2).trans rfl; have hfz88_0 := blk_frozen BK257.out 0; have hfz88_1 := blk_frozen BK257.out 1; have hfz88_2 := blk_frozen BK257.out 2) | ((with_reducible refine gate_callee (f := 17) rfl ?_); refine goesL_ (some 13) rfl rfl Tryd.func17 (by kernel_rfl) rfl #[.agg #[.int .i64 a0_0, .int .i64 a0_1, .int .i64 a0_2]] rfl (by (try simp only [List.map_toArray, List.map_cons, List.map_nil]); first | done | rfl | (simp only [List.length_drop, List.length_take]; rfl)) ?_; (with_reducible refine (sackbutlaw04_Of.calls a0_0 a0_1 a0_2 t258 t259 t260 _ A3.out).mono ?_); rintro e w89 ⟨rfl, hb⟩; refine ⟨_, rfl, ?_⟩; have n0_ := Aside0.mk (blk_below (g := gb257) (o := .cells #[.int .i64 a0_0, .int .i64 a0_1, .int .i64 a0_2] 23 (0, 0)) (by (with_reducible repeat (first | refine blk_drewN ?_ _ | refine blk_drew ?_ | refine blk_alloc ?_ _)); exact BK257.out) hb); have n1_ := Aside0.mk (below_step (by repeat (first | (with_reducible first | exact HB.out | apply below_alloc | apply pw_below_drewN | apply below_drew1 | refine below_set ?_ GE257.out) | exact HB.out)) hb); clear BK257; clear HB; have BK257 := n0_; have HB := n1_; clear n0_ n1_; (try clear hb); (try clear hb2); (try clear hk); (try clear hi)) | ((with_reducible refine gate_callee (f := 18) rfl ?_); refine goesL_ (some 15) rfl rfl Tryd.func18 (by kernel_rfl) rfl #[.string a1] rfl (by (try simp only [List.map_toArray, List.map_cons, List.map_nil]); first | done | rfl | (simp only [List.length_drop, List.length_take]; rfl)) ?_; (with_reducible refine (sackbutlaw04_text.calls a1 t261 _ A4.out).mono ?_); rintro e w90 ⟨rfl, hb⟩; refine ⟨_, rfl, ?_⟩; have n0_ := Aside0.mk (blk_below (g := gb257) (o := .cells #[.int .i64 a0_0, .int .i64 a0_1, .int .i64 a0_2] 23 (0, 0)) (by (with_reducible repeat (first | refine blk_drewN ?_ _ | refine blk_drew ?_ | refine blk_alloc ?_ _)); exact BK257.out) hb); have n1_ := Aside0.mk (below_step (by repeat (first | (with_reducible first | exact HB.out | apply below_alloc | apply pw_below_drewN | apply below_drew1 | refine below_set ?_ GE257.out) | exact HB.out)) hb); clear BK257; clear HB; have BK257 := n0_; have HB := n1_; clear n0_ n1_; (try clear hb); (try clear hb2); (try clear hk); (try clear hi)) | ((with_reducible refine gate_callee (f := 30) rfl ?_); refine goesL_ (some 16) rfl rfl Tryd.func30 (by kernel_rfl) rfl #[.agg #[.int .i64 t258, .int .i64 t259, .int .i64 t260], .string t261] rfl (by (try simp only [List.map_toArray, List.map_cons, List.map_nil]); first | done | rfl | (simp only [List.length_drop, List.length_take]; rfl)) ?_; (with_reducible refine (triads_Tour.calls k t258 t259 t260 t261 false t263 _ A5.out).mono ?_); rintro e w91 ⟨rfl, hb⟩; refine ⟨_, rfl, ?_⟩; have n0_ := Aside0.mk (blk_below (g := gb257) (o := .cells #[.int .i64 a0_0, .int .i64 a0_1, .int .i64 a0_2] 23 (0, 0)) (by (with_reducible repeat (first | refine blk_drewN ?_ _ | refine blk_drew ?_ | refine blk_alloc ?_ _)); exact BK257.out) hb); have n1_ := Aside0.mk (below_step (by repeat (first | (with_reducible first | exact HB.out | apply below_alloc | apply pw_below_drewN | apply below_drew1 | refine below_set ?_ GE257.out) | exact HB.out)) hb); clear BK257; clear HB; have BK257 := n0_; have HB := n1_; clear n0_ n1_; (try clear hb); (try clear hb2); (try clear hk); (try clear hi); have hcz92_0 : w91.cell? ⟨gb257, 0, none⟩ = some (.int .i64 a0_0) := (blk_cell BK257.out 0).trans rfl; have hcz92_1 : w91.cell? ⟨gb257, 1, none⟩ = some (.int .i64 a0_1) := (blk_cell BK257.out 1).trans rfl; have hcz92_2 : w91.cell? ⟨gb257, 2, none⟩ = some (.int .i64 a0_2) := (blk_cell BK257.out 2).trans rfl; have hfz92_0 := blk_frozen BK257.out 0; have hfz92_1 := blk_frozen BK257.out 1; have hfz92_2 := blk_frozen BK257.out 2) | ((with_reducible refine gate_callee (f := 17) rfl ?_); refine goesL_ (some 21) rfl rfl Tryd.func17 (by kernel_rfl) rfl #[.agg #[.int .i64 a0_0, .int .i64 a0_1, .int .i64 a0_2]] rfl (by (try simp only [List.map_toArray, List.map_cons, List.map_nil]); first | done | rfl | (simp only [List.length_drop, List.length_take]; rfl)) ?_; (with_reducible refine (sackbutlaw04_Of.calls a0_0 a0_1 a0_2 t264 t265 t266 _ A6.out).mono ?_); rintro e w93 ⟨rfl, hb⟩; refine ⟨_, rfl, ?_⟩; have n0_ := Aside0.mk (blk_below (g := gb257) (o := .cells #[.int .i64 a0_0, .int .i64 a0_1, .int .i64 a0_2] 23 (0, 0)) (by (with_reducible repeat (first | refine blk_drewN ?_ _ | refine blk_drew ?_ | refine blk_alloc ?_ _)); exact BK257.out) hb); have n1_ := Aside0.mk (below_step (by repeat (first | (with_reducible first | exact HB.out | apply below_alloc | apply pw_below_drewN | apply below_drew1 | refine below_set ?_ GE257.out) | exact HB.out)) hb); clear BK257; clear HB; have BK257 := n0_; have HB := n1_; clear n0_ n1_; (try clear hb); (try clear hb2); (try clear hk); (try clear hi)) | ((with_reducible refine gate_callee (f := 31) rfl ?_); refine goesL_ (some 22) rfl rfl Tryd.func31 (by kernel_rfl) rfl #[.agg #[.int .i64 t264, .int .i64 t265, .int .i64 t266]] rfl (by (try simp only [List.map_toArray, List.map_cons, List.map_nil]); first | done | rfl | (simp only [List.length_drop, List.length_take]; rfl)) ?_; (with_reducible refine (triads_Tours.calls t264 t265 t266 t267 t268 _ A7.out).mono ?_); rintro e w94 ⟨rfl, hb⟩; refine ⟨_, rfl, ?_⟩; have n0_ := Aside0.mk (blk_below (g := gb257) (o := .cells #[.int .i64 a0_0, .int .i64 a0_1, .int .i64 a0_2] 23 (0, 0)) (by (with_reducible repeat (first | refine blk_drewN ?_ _ | refine blk_drew ?_ | refine blk_alloc ?_ _)); exact BK257.out) hb); have n1_ := Aside0.mk (below_step (by repeat (first | (with_reducible first | exact HB.out | apply below_alloc | apply pw_below_drewN | apply below_drew1 | refine below_set ?_ GE257.out) | exact HB.out)) hb); clear BK257; clear HB; have BK257 := n0_; have HB := n1_; clear n0_ n1_; (try clear hb); (try clear hb2); (try clear hk); (try clear hi); have hcz95_0 : w94.cell? ⟨gb257, 0, none⟩ = some (.int .i64 a0_0) := (blk_cell BK257.out 0).trans rfl; have hcz95_1 : w94.cell? ⟨gb257, 1, none⟩ = some (.int .i64 a0_1) := (blk_cell BK257.out 1).trans rfl; have hcz95_2 : w94.cell? ⟨gb257, 2, none⟩ = some (.int .i64 a0_2) := (blk_cell BK257.out 2).trans rfl; have hfz95_0 := blk_frozen BK257.out 0; have hfz95_1 := blk_frozen BK257.out 1; have hfz95_2 := blk_frozen BK257.out 2) | ((with_reducible refine gate_callee (f := 28) rfl ?_); refine goesL_ (some 26) rfl rfl Tryd.func28 (by kernel_rfl) rfl #[.agg #[.int .i64 a0_0, .int .i64 a0_1, .int .i64 a0_2]] rfl (by (try simp only [List.map_toArray, List.map_cons, List.map_nil]); first | done | rfl | (simp only [List.length_drop, List.length_take]; rfl)) ?_; (with_reducible refine (sackbutref04_Valid.calls a0_0 a0_1 a0_2 false _ A8.out).mono ?_); rintro e w96 ⟨rfl, hb⟩; refine ⟨_, rfl, ?_⟩; have n0_ := Aside0.mk (blk_below (g := gb257) (o := .cells #[.int .i64 a0_0, .int .i64 a0_1, .int .i64 a0_2] 23 (0, 0)) (by (with_reducible repeat (first | refine blk_drewN ?_ _ | refine blk_drew ?_ | refine blk_alloc ?_ _)); exact BK257.out) hb); have n1_ := Aside0.mk (below_step (by repeat (first | (with_reducible first | exact HB.out | apply below_alloc | apply pw_below_drewN | apply below_drew1 | refine below_set ?_ GE257.out) | exact HB.out)) hb); clear BK257; clear HB; have BK257 := n0_; have HB := n1_; clear n0_ n1_; (try clear hb); (try clear hb2); (try clear hk); (try clear hi)))
          go_ret
          exact ⟨by first | rfl | (simp [errW_none, errW_some] <;> rfl) | (simp [*, errW_none, errW_some] <;> rfl), by repeat (first | (with_reducible first | exact HB.out | apply below_alloc | apply pw_below_drewN | apply below_drew1 | refine below_set ?_ GE257.out) | exact HB.out)⟩
      · rw [if_neg c62] at H
        have c62b0 : (t267.toList == ([] : List UInt8)) = false := beq_eq_false_iff_ne.mpr c62
        have c62b1 : (t267.toList != ([] : List UInt8)) = true := bne_iff_ne.mpr c62
        obtain rfl := Option.some.inj H
        go_enter Tryd.func7, Tryd.ntmps7
        go_wp2_with (first | ((with_reducible refine gate_dst (N := 2) rfl ?_); refine box_event ?hg (N := 2) ?hd (cs := #[.int .i64 a0_0, .int .i64 a0_1, .int .i64 a0_2]) (t := 23) ?hr ?_; (case hd => rfl); (case hg => rfl); (case hr => first | (go_simp; done) | (go_simp; rfl)); intro gb257 hg w97 hbox hb; have n0_ := Aside0.mk (below_step (by repeat (first | (with_reducible first | exact HB.out | apply below_alloc | apply pw_below_drewN | apply below_drew1) | exact HB.out)) hb); have n1_ := Aside0.mk (hbox); have n2_ := Aside0.mk ((by rw [hg]; exact (below_size (by repeat (first | (with_reducible first | exact HB.out | apply below_alloc | apply pw_below_drewN | apply below_drew1) | exact HB.out))) : w.heap.size ≤ gb257)); have n3_ := Aside0.mk ((by rw [hg]; exact (below_size (by repeat (first | (with_reducible first | exact HB.out | apply below_alloc | apply pw_below_drewN | apply below_drew1) | exact HB.out))) : w.heap.size ≤ gb257)); clear HB; have HB := n0_; have BK257 := n1_; have GW257 := n2_; have GE257 := n3_; clear n0_ n1_ n2_ n3_; clear hb hbox hg; have hcz98_0 : w97.cell? ⟨gb257, 0, none⟩ = some (.int .i64 a0_0) := (blk_cell BK257.out 0).trans rfl; have hcz98_1 : w97.cell? ⟨gb257, 1, none⟩ = some (.int .i64 a0_1) := (blk_cell BK257.out 1).trans rfl; have hcz98_2 : w97.cell? ⟨gb257, 2, none⟩ = some (.int .i64 a0_2) := (blk_cell BK257.out 2).trans rfl; have hfz98_0 := blk_frozen BK257.out 0; have hfz98_1 := blk_frozen BK257.out 1; have hfz98_2 := blk_frozen BK257.out 2) | ((with_reducible refine gate_callee (f := 17) rfl ?_); refine goesL_ (some 13) rfl rfl Tryd.func17 (by kernel_rfl) rfl #[.agg #[.int .i64 a0_0, .int .i64 a0_1, .int .i64 a0_2]] rfl (by (try simp only [List.map_toArray, List.map_cons, List.map_nil]); first | done | rfl | (simp only [List.length_drop, List.length_take]; rfl)) ?_; (with_reducible refine (sackbutlaw04_Of.calls a0_0 a0_1 a0_2 t258 t259 t260 _ A3.out).mono ?_); rintro e w99 ⟨rfl, hb⟩; refine ⟨_, rfl, ?_⟩; have n0_ := Aside0.mk (blk_below (g := gb257) (o := .cells #[.int .i64 a0_0, .int .i64 a0_1, .int .i64 a0_2] 23 (0, 0)) (by (with_reducible repeat (first | refine blk_drewN ?_ _ | refine blk_drew ?_ | refine blk_alloc ?_ _)); exact BK257.out) hb); have n1_ := Aside0.mk (below_step (by repeat (first | (with_reducible first | exact HB.out | apply below_alloc | apply pw_below_drewN | apply below_drew1 | refine below_set ?_ GE257.out) | exact HB.out)) hb); clear BK257; clear HB; have BK257 := n0_; have HB := n1_; clear n0_ n1_; (try clear hb); (try clear hb2); (try clear hk); (try clear hi)) | ((with_reducible refine gate_callee (f := 18) rfl ?_); refine goesL_ (some 15) rfl rfl Tryd.func18 (by kernel_rfl) rfl #[.string a1] rfl (by (try simp only [List.map_toArray, List.map_cons, List.map_nil]); first | done | rfl | (simp only [List.length_drop, List.length_take]; rfl)) ?_; (with_reducible refine (sackbutlaw04_text.calls a1 t261 _ A4.out).mono ?_); rintro e w100 ⟨rfl, hb⟩; refine ⟨_, rfl, ?_⟩; have n0_ := Aside0.mk (blk_below (g := gb257) (o := .cells #[.int .i64 a0_0, .int .i64 a0_1, .int .i64 a0_2] 23 (0, 0)) (by (with_reducible repeat (first | refine blk_drewN ?_ _ | refine blk_drew ?_ | refine blk_alloc ?_ _)); exact BK257.out) hb); have n1_ := Aside0.mk (below_step (by repeat (first | (with_reducible first | exact HB.out | apply below_alloc | apply pw_below_drewN | apply below_drew1 | refine below_set ?_ GE257.out) | exact HB.out)) hb); clear BK257; clear HB; have BK257 := n0_; have HB := n1_; clear n0_ n1_; (try clear hb); (try clear hb2); (try clear hk); (try clear hi)) | ((with_reducible refine gate_callee (f := 30) rfl ?_); refine goesL_ (some 16) rfl rfl Tryd.func30 (by kernel_rfl) rfl #[.agg #[.int .i64 t258, .int .i64 t259, .int .i64 t260], .string t261] rfl (by (try simp only [List.map_toArray, List.map_cons, List.map_nil]); first | done | rfl | (simp only [List.length_drop, List.length_take]; rfl)) ?_; (with_reducible refine (triads_Tour.calls k t258 t259 t260 t261 false t263 _ A5.out).mono ?_); rintro e w101 ⟨rfl, hb⟩; refine ⟨_, rfl, ?_⟩; have n0_ := Aside0.mk (blk_below (g := gb257) (o := .cells #[.int .i64 a0_0, .int .i64 a0_1, .int .i64 a0_2] 23 (0, 0)) (by (with_reducible repeat (first | refine blk_drewN ?_ _ | refine blk_drew ?_ | refine blk_alloc ?_ _)); exact BK257.out) hb); have n1_ := Aside0.mk (below_step (by repeat (first | (with_reducible first | exact HB.out | apply below_alloc | apply pw_below_drewN | apply below_drew1 | refine below_set ?_ GE257.out) | exact HB.out)) hb); clear BK257; clear HB; have BK257 := n0_; have HB := n1_; clear n0_ n1_; (try clear hb); (try clear hb2); (try clear hk); (try clear hi); have hcz102_0 : w101.cell? ⟨gb257, 0, none⟩ = some (.int .i64 a0_0) := (blk_cell BK257.out 0).trans rfl; have hcz102_1 : w101.cell? ⟨gb257, 1, none⟩ = some (.int .i64 a0_1) := (blk_cell BK257.out 1).trans rfl; have hcz102_2 : w101.cell? ⟨gb257, 2, none⟩ = some (.int .i64 a0_2) := (blk_cell BK257.out 2).trans rfl; have hfz102_0 := blk_frozen BK257.out 0; have hfz102_1 := blk_frozen BK257.out 1; have hfz102_2 := blk_frozen BK257.out 2) | ((with_reducible refine gate_callee (f := 17) rfl ?_); refine goesL_ (some 21) rfl rfl Tryd.func17 (by kernel_rfl) rfl #[.agg #[.int .i64 a0_0, .int .i64 a0_1, .int .i64 a0_2]] rfl (by (try simp only [List.map_toArray, List.map_cons, List.map_nil]); first | done | rfl | (simp only [List.length_drop, List.length_take]; rfl)) ?_; (with_reducible refine (sackbutlaw04_Of.calls a0_0 a0_1 a0_2 t264 t265 t266 _ A6.out).mono ?_); rintro e w103 ⟨rfl, hb⟩; refine ⟨_, rfl, ?_⟩; have n0_ := Aside0.mk (blk_below (g := gb257) (o := .cells #[.int .i64 a0_0, .int .i64 a0_1, .int .i64 a0_2] 23 (0, 0)) (by (with_reducible repeat (first | refine blk_drewN ?_ _ | refine blk_drew ?_ | refine blk_alloc ?_ _)); exact BK257.out) hb); have n1_ := Aside0.mk (below_step (by repeat (first | (with_reducible first | exact HB.out | apply below_alloc | apply pw_below_drewN | apply below_drew1 | refine below_set ?_ GE257.out) | exact HB.out)) hb); clear BK257; clear HB; have BK257 := n0_; have HB := n1_; clear n0_ n1_; (try clear hb); (try clear hb2); (try clear hk); (try clear hi)) | ((with_reducible refine gate_callee (f := 31) rfl ?_); refine goesL_ (some 22) rfl rfl Tryd.func31 (by kernel_rfl) rfl #[.agg #[.int .i64 t264, .int .i64 t265, .int .i64 t266]] rfl (by (try simp only [List.map_toArray, List.map_cons, List.map_nil]); first | done | rfl | (simp only [List.length_drop, List.length_take]; rfl)) ?_; (with_reducible refine (triads_Tours.calls t264 t265 t266 t267 t268 _ A7.out).mono ?_); rintro e w104 ⟨rfl, hb⟩; refine ⟨_, rfl, ?_⟩; have n0_ := Aside0.mk (blk_below (g := gb257) (o := .cells #[.int .i64 a0_0, .int .i64 a0_1, .int .i64 a0_2] 23 (0, 0)) (by (with_reducible repeat (first | refine blk_drewN ?_ _ | refine blk_drew ?_ | refine blk_alloc ?_ _)); exact BK257.out) hb); have n1_ := Aside0.mk (below_step (by repeat (first | (with_reducible first | exact HB.out | apply below_alloc | apply pw_below_drewN | apply below_drew1 | refine below_set ?_ GE257.out) | exact HB.out)) hb); clear BK257; clear HB; have BK257 := n0_; have HB := n1_; clear n0_ n1_; (try clear hb); (try clear hb2); (try clear hk); (try clear hi); have hcz105_0 : w104.cell? ⟨gb257, 0, none⟩ = some (.int .i64 a0_0) := (blk_cell BK257.out 0).trans rfl; have hcz105_1 : w104.cell? ⟨gb257, 1, none⟩ = some (.int .i64 a0_1) := (blk_cell BK257.out 1).trans rfl; have hcz105_2 : w104.cell? ⟨gb257, 2, none⟩ = some (.int .i64 a0_2) := (blk_cell BK257.out 2).trans rfl; have hfz105_0 := blk_frozen BK257.out 0; have hfz105_1 := blk_frozen BK257.out 1; have hfz105_2 := blk_frozen BK257.out 2) | ((with_reducible refine gate_callee (f := 28) rfl ?_); refine goesL_ (some 26) rfl rfl Tryd.func28 (by kernel_rfl) rfl #[.agg #[.int .i64 a0_0, .int .i64 a0_1, .int .i64 a0_2]] rfl (by (try simp only [List.map_toArray, List.map_cons, List.map_nil]); first | done | rfl | (simp only [List.length_drop, List.length_take]; rfl)) ?_; (with_reducible refine (sackbutref04_Valid.calls a0_0 a0_1 a0_2 false _ A8.out).mono ?_); rintro e w106 ⟨rfl, hb⟩; refine ⟨_, rfl, ?_⟩; have n0_ := Aside0.mk (blk_below (g := gb257) (o := .cells #[.int .i64 a0_0, .int .i64 a0_1, .int .i64 a0_2] 23 (0, 0)) (by (with_reducible repeat (first | refine blk_drewN ?_ _ | refine blk_drew ?_ | refine blk_alloc ?_ _)); exact BK257.out) hb); have n1_ := Aside0.mk (below_step (by repeat (first | (with_reducible first | exact HB.out | apply below_alloc | apply pw_below_drewN | apply below_drew1 | refine below_set ?_ GE257.out) | exact HB.out)) hb); clear BK257; clear HB; have BK257 := n0_; have HB := n1_; clear n0_ n1_; (try clear hb); (try clear hb2); (try clear hk); (try clear hi)))
        go_ret
        exact ⟨by first | rfl | (simp [errW_none, errW_some] <;> rfl) | (simp [*, errW_none, errW_some] <;> rfl), by repeat (first | (with_reducible first | exact HB.out | apply below_alloc | apply pw_below_drewN | apply below_drew1 | refine below_set ?_ GE257.out) | exact HB.out)⟩

end Go.Proofs.YtpaeobpmkdekfaaDoor.P
end

section
namespace Go.Proofs.YtpaeobpmkdekfaaDoor.Base
open Go.RowKit Go.Proofs.YtpaeobpmkdekfaaDoor.P Go.Proofs.YtpaeobpmkdekfaaDoor.Kit Go.Proofs.YtpaeobpmkdekfaaDoorW.PrintWords Go.Proofs.YtpaeobpmkdekfaaDoorW.PrintLast Go.Proofs.YtpaeobpmkdekfaaDoor.Tri
theorem rTour_l0 {n a b : Int} (hk : isKind n a b = true) (s : ByteArray) (hs : 0 < s.size) (v : Bool) (hv : v = true ↔ Visits n a b s.data.toList) : ∀ (d i : Nat) (M : List Bool), i + d = (2 * n).toNat → M.length = (2 * n).toNat → (∀ x : Nat, x < (2 * n).toNat → (M.getD x false = true ↔ ∃ j, j < i ∧ q n a b s.data.toList j = (x : Int))) → (∀ j k : Nat, j < k → k < i → q n a b s.data.toList j ≠ q n a b s.data.toList k) → Ev (fun k => sackbutref04_Tour.l0 k s M (q n a b s.data.toList i) (2 * n) (i : Int) n a b) v
  | 0, i, M, hi, hm, hbit, hd => by
    have hn := kind_pos' hk
    have h16 := (of_decide_eq_true hk).2.1
    refine Ev.done fun k => ?_
    simp only [sackbutref04_Tour.l0]
    rw [if_neg (by omega)]
    congr 1
    by_cases h0 : q n a b s.data.toList i = 0
    · have hvt : v = true := hv.2 ⟨fun j k hjk hk2 => hd j k hjk (by omega), by rw [show (2 * n).toNat = i by omega]; exact h0⟩
      rw [hvt, h0]
      rfl
    · cases hvv : v with
      | false => simpa using h0
      | true =>
        have := (hv.1 hvv).2
        rw [show (2 * n).toNat = i by omega] at this
        exact absurd this h0
  | d + 1, i, M, hi, hm, hbit, hd => by
    have hn := kind_pos' hk
    have h16 := (of_decide_eq_true hk).2.1
    have hq := q_range (a := a) (b := b) hn s.data.toList i
    obtain ⟨x, hx⟩ : ∃ x : Nat, (x : Int) = q n a b s.data.toList i := ⟨(q n a b s.data.toList i).toNat, by omega⟩
    have hxl : x < (2 * n).toNat := by omega
    have hbx := hbit x hxl
    have hll := data_length s
    have hrd : rdOf false M (x : Int) = M.getD x false := by unfold rdOf; rw [Int.toNat_natCast]
    cases ht : M.getD x false with
    | true =>
      refine Ev.done fun k => ?_
      simp only [sackbutref04_Tour.l0]
      rw [if_pos (by omega), if_pos (by omega), ← hx, if_pos (by omega), hrd, ht, if_pos rfl]
      congr 1
      symm
      cases hvv : v with
      | false => rfl
      | true =>
        obtain ⟨j, hj, he⟩ := hbx.1 ht
        exact absurd (he.trans hx) ((hv.1 hvv).1 j i hj (by omega))
    | false =>
      have hmod : Int.tmod (i : Int) (s.size : Int) = ((i % s.size : Nat) : Int) := by
        rw [Int.tmod_eq_emod_of_nonneg (by omega)]
        simp
      have hlt := Nat.mod_lt i hs
      have hbt := bt_nat s (i % s.size) (by omega)
      have hlet : s.data.toList.getD (i % s.size) 0 = letter s.data.toList i := by unfold letter; rw [hll]
      have hne : ∀ j, j < i → q n a b s.data.toList j ≠ q n a b s.data.toList i := by
        intro j hj e
        have := hbx.2 ⟨j, hj, e.trans hx.symm⟩
        rw [ht] at this
        cases this
      refine Ev.step (fun k => ?_) (rTour_l0 hk s hs v hv d (i + 1) (M.set x true) (by omega) (by rw [List.length_set]; exact hm) ?_ ?_)
      · simp only [sackbutref04_Tour.l0]
        rw [if_pos (by omega), if_pos (by omega), ← hx, if_pos (by omega), hrd, ht, if_neg (by decide), if_neg (by omega), hmod, if_pos (by omega), if_pos (by omega), hbt, rStep_f hk (x : Int) _ (by omega) (by omega), hlet, w64 (x := (i : Int) + 1) (by omega) (by omega), q_succ, ← hx, Int.toNat_natCast]
        rfl
      · intro y hy
        by_cases e : x = y
        · subst e
          rw [List.getD_eq_getElem?_getD, List.getElem?_set_self (by omega)]
          exact ⟨fun _ => ⟨i, by omega, hx.symm⟩, fun _ => rfl⟩
        · rw [List.getD_eq_getElem?_getD, List.getElem?_set_ne e, ← List.getD_eq_getElem?_getD, hbit y hy]
          constructor
          · rintro ⟨j, hj, g⟩
            exact ⟨j, by omega, g⟩
          · rintro ⟨j, hj, g⟩
            by_cases hji : j = i
            · subst hji
              omega
            · exact ⟨j, by omega, g⟩
      · intro j k hjk hk1
        by_cases hki : k = i
        · subst hki
          exact hne j hjk
        · exact hd j k hjk (by omega)
theorem rTour_f {n a b : Int} (hk : isKind n a b = true) (s : ByteArray) : Ev (fun k => sackbutref04_Tour.f k n a b s) (tourV n a b s.data.toList) := by
  have hn := kind_pos' hk
  have h16 := (of_decide_eq_true hk).2.1
  have hl := data_length s
  unfold sackbutref04_Tour.f
  by_cases he : s.toList = []
  · have he2 : s.data.toList = [] := by rw [ByteArray.toList_eq] at he; exact he
    have : tourV n a b s.data.toList = false := by
      cases h : tourV n a b s.data.toList with
      | false => rfl
      | true => exact absurd he2 ((tourV_iff n a b _).1 h).1
    rw [this]
    simp only [he, if_true]
    exact Ev.now _
  · have he2 : s.data.toList ≠ [] := by rw [ByteArray.toList_eq] at he; exact he
    have hs : 0 < s.size := by
      have := List.length_pos_iff.2 he2
      omega
    have g1 : 0 ≤ 2 * n := by omega
    have g2 : (2 * n).toNat ≤ 281474976710656 := by omega
    rw [w64 (x := 2 * n) (by omega) (by omega)]
    simp only [he, if_false, g1, g2, if_true]
    refine rTour_l0 hk s hs _ (by rw [tourV_iff]; exact ⟨fun h => h.2, fun h => ⟨he2, h⟩⟩) (2 * n).toNat 0 _ (by omega) (by rw [List.length_replicate]) ?_ (fun j k _ h => by omega)
    intro x hx
    constructor
    · intro h
      rw [List.getD_eq_getElem?_getD, List.getElem?_replicate, if_pos hx] at h
      cases h
    · rintro ⟨j, hj, _⟩
      omega
theorem rdO_nat (l : List ByteArray) (i : Nat) (h : i < l.length) : rdOf ByteArray.empty l (i : Int) = l[i] := by
  unfold rdOf
  rw [Int.toNat_natCast, List.getD_eq_getElem?_getD, List.getElem?_eq_getElem h]
  rfl
theorem rTours_l3 {n a b : Int} (hk : isKind n a b = true) (r : Int) (L : List ByteArray) (hl : L.length ≤ 1000000) (P : ByteArray → Bool) (hP : ∀ s, P s = tourV n a b s.data.toList) (R : ByteArray × Int)
    (h1 : ∀ s, L.find? P = some s → R = (s, 0)) (h0 : L.find? P = none → Ev (fun k => sackbutref04_Tours.l0 k L (wrap64 (r + 1)) n a b) R) :
    ∀ d j : Nat, j + d = L.length → (∀ i (hi : i < L.length), i < j → P L[i] = false) → Ev (fun k => sackbutref04_Tours.l3 k L r L (L.length : Int) (j : Int) n a b) R
  | 0, j, hj, hf => by
    refine Ev.step (fun k => ?_) (h0 (find_none P L fun i hi => hf i hi (by omega)))
    simp only [sackbutref04_Tours.l3]
    rw [if_neg (by omega)]
  | d + 1, j, hj, hf => by
    have hjl : j < L.length := by omega
    refine Ev.step (f := fun k => (sackbutref04_Tour.f k n a b L[j]).bind fun t256 => (if t256 = true then (some (L[j], 0)) else (sackbutref04_Tours.l3 k L r L (L.length : Int) (wrap64 ((j : Int) + 1)) n a b))) (fun k => ?_) (Ev.bind (rTour_f hk L[j]) ?_)
    · simp only [sackbutref04_Tours.l3]
      rw [if_pos (by omega), if_pos (by omega), if_pos (by omega), rdO_nat L j hjl]
    · cases ht : tourV n a b L[j].data.toList with
      | true =>
        simp only [if_true]
        rw [h1 L[j] (find_at P L j hjl hf (by rw [hP]; exact ht))]
        exact Ev.now _
      | false =>
        simp only [Bool.false_eq_true, if_false]
        rw [w64 (x := (j : Int) + 1) (by omega) (by omega)]
        refine rTours_l3 hk r L hl P hP R h1 h0 d (j + 1) (by omega) ?_
        intro i hi hij
        by_cases e : i = j
        · subst e
          rw [hP]
          exact ht
        · exact hf i hi (by omega)
theorem rTours_l2 {n a b : Int} (r : Int) (L X : List ByteArray) (s : ByteArray) (hs : s.size ≤ 100) (hX : X.length ≤ 1000000) (j : Int) (R : ByteArray × Int) (hE : Ev (fun k => sackbutref04_Tours.l1 k (X ++ ext3 s) r L (L.length : Int) (wrap64 (j + 1)) n a b) R) :
    Ev (fun k => sackbutref04_Tours.l2 k X s r L (L.length : Int) j [(⟨#[76]⟩ : ByteArray), (⟨#[80]⟩ : ByteArray), (⟨#[82]⟩ : ByteArray)] 3 0 n a b) R := by
  have e76 : rdOf ByteArray.empty [(⟨#[76]⟩ : ByteArray), (⟨#[80]⟩ : ByteArray), (⟨#[82]⟩ : ByteArray)] 0 = ⟨#[76]⟩ := rfl
  have e80 : rdOf ByteArray.empty [(⟨#[76]⟩ : ByteArray), (⟨#[80]⟩ : ByteArray), (⟨#[82]⟩ : ByteArray)] 1 = ⟨#[80]⟩ := rfl
  have e82 : rdOf ByteArray.empty [(⟨#[76]⟩ : ByteArray), (⟨#[80]⟩ : ByteArray), (⟨#[82]⟩ : ByteArray)] 2 = ⟨#[82]⟩ := rfl
  have z76 : (⟨#[76]⟩ : ByteArray).size = 1 := rfl
  have z80 : (⟨#[80]⟩ : ByteArray).size = 1 := rfl
  have z82 : (⟨#[82]⟩ : ByteArray).size = 1 := rfl
  refine Ev.step (f := fun k => sackbutref04_Tours.l2 k (X ++ [s ++ ⟨#[76]⟩]) s r L (L.length : Int) j [(⟨#[76]⟩ : ByteArray), (⟨#[80]⟩ : ByteArray), (⟨#[82]⟩ : ByteArray)] 3 1 n a b) (fun k => ?_) (Ev.step (f := fun k => sackbutref04_Tours.l2 k (X ++ [s ++ ⟨#[76]⟩] ++ [s ++ ⟨#[80]⟩]) s r L (L.length : Int) j [(⟨#[76]⟩ : ByteArray), (⟨#[80]⟩ : ByteArray), (⟨#[82]⟩ : ByteArray)] 3 2 n a b) (fun k => ?_) (Ev.step (f := fun k => sackbutref04_Tours.l2 k (X ++ [s ++ ⟨#[76]⟩] ++ [s ++ ⟨#[80]⟩] ++ [s ++ ⟨#[82]⟩]) s r L (L.length : Int) j [(⟨#[76]⟩ : ByteArray), (⟨#[80]⟩ : ByteArray), (⟨#[82]⟩ : ByteArray)] 3 3 n a b) (fun k => ?_) (Ev.step (fun k => ?_) hE)))
  · simp only [sackbutref04_Tours.l2]
    rw [if_pos (by decide), if_pos (by decide), if_pos (by decide), e76, z76, if_pos (by omega), if_pos (by omega), show wrap64 (0 + 1) = 1 from w64 (by decide) (by decide)]
  · simp only [sackbutref04_Tours.l2]
    rw [if_pos (by decide), if_pos (by decide), if_pos (by decide), e80, z80, if_pos (by omega), if_pos (by simp; omega), show wrap64 (1 + 1) = 2 from w64 (by decide) (by decide)]
  · simp only [sackbutref04_Tours.l2]
    rw [if_pos (by decide), if_pos (by decide), if_pos (by decide), e82, z82, if_pos (by omega), if_pos (by simp; omega), show wrap64 (2 + 1) = 3 from w64 (by decide) (by decide)]
  · simp only [sackbutref04_Tours.l2]
    rw [if_neg (by decide)]
    congr 1
    simp [ext3]
theorem rTours_l1 {n a b : Int} (r : Int) (L : List ByteArray) (hL : L.length ≤ 300) (hs : ∀ s, s ∈ L → s.size ≤ 100) (R : ByteArray × Int) (hE : Ev (fun k => sackbutref04_Tours.l3 k (nextLevel L) r (nextLevel L) ((nextLevel L).length : Int) 0 n a b) R) :
    ∀ d j : Nat, j + d = L.length → Ev (fun k => sackbutref04_Tours.l1 k (nextLevel (L.take j)) r L (L.length : Int) (j : Int) n a b) R
  | 0, j, hj => by
    refine Ev.step (fun k => ?_) hE
    simp only [sackbutref04_Tours.l1]
    rw [if_neg (by omega), List.take_of_length_le (by omega)]
  | d + 1, j, hj => by
    have hjl : j < L.length := by omega
    have ih := rTours_l1 r L hL hs R hE d (j + 1) (by omega)
    rw [nextLevel_take L j hjl] at ih
    have hw : wrap64 ((j : Int) + 1) = ((j + 1 : Nat) : Int) := by rw [w64 (by omega) (by omega)]; rfl
    rw [← hw] at ih
    refine Ev.step (fun k => ?_) (rTours_l2 r L (nextLevel (L.take j)) L[j] (hs _ (List.getElem_mem hjl)) (by rw [nextLevel_length, List.length_take]; omega) (j : Int) R ih)
    simp only [sackbutref04_Tours.l1]
    rw [if_pos (by omega), if_pos (by omega), if_pos (by omega), rdO_nat L j hjl]
    rfl
def resOf : Option ByteArray → ByteArray × Int
  | some s => (s, 0)
  | none => (⟨#[]⟩, 4)
theorem rTours_l0 {n a b : Int} (hk : isKind n a b = true) (P : ByteArray → Bool) (hP : ∀ s, P s = tourV n a b s.data.toList) : ∀ (d r : Nat) (L : List ByteArray), r + d = 6 → L.length = 3 ^ r → (∀ s, s ∈ L → s.size = r) → Ev (fun k => sackbutref04_Tours.l0 k L (r : Int) n a b) (resOf (firstOf P d L))
  | 0, r, L, hr, hl, hs => by
    refine Ev.done fun k => ?_
    simp only [sackbutref04_Tours.l0]
    rw [if_neg (by omega)]
    rfl
  | d + 1, r, L, hr, hl, hs => by
    have h3 : 3 ^ r ≤ 3 ^ 5 := Nat.pow_le_pow_right (by decide) (by omega)
    have hnl := nextLevel_length L
    have ih := rTours_l0 hk P hP d (r + 1) (nextLevel L) (by omega) (by rw [hnl, hl, Nat.pow_succ]) (nextLevel_size hs)
    have hw : wrap64 ((r : Int) + 1) = ((r + 1 : Nat) : Int) := by rw [w64 (by omega) (by omega)]; rfl
    rw [← hw] at ih
    have hE := rTours_l3 hk (r : Int) (nextLevel L) (by omega) P hP (resOf (firstOf P (d + 1) L)) (fun s h => by
      unfold firstOf
      rw [h]
      rfl) (fun h => by
      have e : firstOf P (d + 1) L = firstOf P d (nextLevel L) := by
        show (match (nextLevel L).find? P with | some s => some s | none => firstOf P d (nextLevel L)) = _
        rw [h]
      rw [e]
      exact ih) (nextLevel L).length 0 (by omega) (fun i _ h => by omega)
    refine Ev.step (fun k => ?_) (rTours_l1 (r : Int) L (by omega) (fun s h => by have := hs s h; omega) _ hE L.length 0 (by omega))
    simp only [sackbutref04_Tours.l0]
    rw [if_pos (by omega)]
    rfl
theorem rTours_f {n a b : Int} (hk : isKind n a b = true) : Ev (fun k => sackbutref04_Tours.f k n a b) (toursV n a b) := by
  have e : toursV n a b = resOf (firstOf (fun s => tourV n a b s.data.toList) 6 [⟨#[]⟩]) := rfl
  rw [e]
  unfold sackbutref04_Tours.f
  exact rTours_l0 hk (fun s => tourV n a b s.data.toList) (fun _ => rfl) 6 0 [⟨#[]⟩] rfl rfl (by intro s hs; rw [List.mem_singleton.1 hs]; rfl)
theorem tours_f (n a b : Int) (hn : Int64 n) (ha : Int64 a) (hb : Int64 b) : triads_Tours.f n a b = some (if isKind n a b = true ∧ n ≤ 12 then toursV n a b else (⟨#[]⟩, 2)) := by
  unfold triads_Tours.f
  rw [valid_f n a b hn ha hb]
  simp only [Option.bind_some]
  cases hk : isKind n a b with
  | false => simp
  | true =>
    by_cases h : n ≤ 12
    · simp [h]
    · simp [h]
end Go.Proofs.YtpaeobpmkdekfaaDoor.Base
end
