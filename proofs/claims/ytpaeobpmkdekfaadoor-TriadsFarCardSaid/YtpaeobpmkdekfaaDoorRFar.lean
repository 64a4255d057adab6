/- Far of the reference: the walk through its code. -/
import Derived.Test.YtpaeobpmkdekfaaDoorP0
import Derived.Test.YtpaeobpmkdekfaaDoorWays
import Derived.Outline
namespace Go.Proofs.YtpaeobpmkdekfaaDoor.P
open Go.RowKit Go.Proofs.YtpaeobpmkdekfaaDoorW.PrintWords Go.Proofs.YtpaeobpmkdekfaaDoorW.PrintLast Go.Proofs.YtpaeobpmkdekfaaDoorW.PrintMore
set_option linter.unusedVariables false
section
open Go.Proofs.YtpaeobpmkdekfaaDoor.MapLaws Go.Proofs.YtpaeobpmkdekfaaDoor.Base
def sackbutref04_Far.f (a0_0 a0_1 a0_2 a1 : Int) : Option (List Int) := if isKind a0_0 a0_1 a0_2 = true ∧ 0 ≤ a1 ∧ a1 < 2 * a0_0 then some (Bfs.counts (searchL a0_0 a0_1 a0_2 [76, 80, 82] a1)) else none
/-- Those of the first triads. -/
def below (L : Bfs.Met Int) (i : Nat) : Bfs.Met Int := L.filter fun p => decide (p.1 < (i : Int))
theorem below_zero {n : Int} {L : Bfs.Met Int} (h : Bfs.Good n L) : below L 0 = [] := by
  unfold below
  rw [List.filter_eq_nil_iff]
  intro p hp
  have := (h.range p hp).1
  simp
  omega
theorem below_top {n : Int} {L : Bfs.Met Int} (h : Bfs.Good n L) (m : Nat) (hm : 2 * n ≤ (m : Int)) : below L m = L := by
  unfold below
  rw [List.filter_eq_self]
  intro p hp
  have := (h.range p hp).2
  simp
  omega
theorem below_out {L : Bfs.Met Int} {i : Nat} (h : Bfs.known L (i : Int) = false) : below L (i + 1) = below L i := by
  unfold below
  refine List.filter_congr ?_
  intro p hp
  by_cases e : p.1 = (i : Int)
  · rw [Bfs.known_iff.2 ⟨p.2, e ▸ hp⟩] at h
    cases h
  · rw [Bool.eq_iff_iff, decide_eq_true_eq, decide_eq_true_eq]
    omega
theorem nodup_filter_keys {L : Bfs.Met Int} (h : (L.map (·.1)).Nodup) (f : Int × List UInt8 → Bool) : ((L.filter f).map (·.1)).Nodup := h.sublist (List.filter_sublist.map _)
theorem below_in {L : Bfs.Met Int} (hn : (L.map (·.1)).Nodup) {i : Nat} {u : List UInt8} (h : ((i : Int), u) ∈ L) : (below L (i + 1)).Perm (below L i ++ [((i : Int), u)]) := by
  refine (List.perm_ext_iff_of_nodup (nodup_of_keys (nodup_filter_keys hn _)) ?_).2 ?_
  · refine nodup_of_keys ?_
    rw [List.map_append, List.nodup_append]
    refine ⟨nodup_filter_keys hn _, by simp, ?_⟩
    intro x hx y hy e
    obtain ⟨p, hp, rfl⟩ := List.mem_map.1 hx
    have h1 := of_decide_eq_true (List.mem_filter.1 hp).2
    simp at hy
    omega
  · intro p
    unfold below
    rw [List.mem_append, List.mem_filter, List.mem_filter, decide_eq_true_eq, decide_eq_true_eq, List.mem_singleton]
    constructor
    · rintro ⟨h1, h2⟩
      by_cases e : p.1 = (i : Int)
      · right
        have h3 : ((i : Int), p.2) ∈ L := by rw [← e]; exact h1
        have h4 := key_unique hn h3 h
        rw [← e, ← h4]
      · left
        exact ⟨h1, by omega⟩
    · rintro (⟨h1, h2⟩ | rfl)
      · exact ⟨h1, by omega⟩
      · exact ⟨h, by simp; omega⟩
set_option maxHeartbeats 4000000 in
set_option maxRecDepth 100000 in
theorem sackbutref04_Far.calls (a0_0 : Int) (a0_1 : Int) (a0_2 : Int) (a1 : Int) (r : List Int) (w : World) (h : sackbutref04_Far.f a0_0 a0_1 a0_2 a1 = some r) :
    Calls Tryd.prog 38 #[.agg #[.int .i64 a0_0, .int .i64 a0_1, .int .i64 a0_2], .int .i64 a1] w fun e w' => ∃ v0_ : Value, e = .returned (v0_) ∧ Kd.R (Kd.int .i64) 3 w' w.heap.size (fun _ => True) v0_ r ∧ Below w.heap.size w w' := by
  unfold sackbutref04_Far.f at h
  by_cases hr : isKind a0_0 a0_1 a0_2 = true ∧ 0 ≤ a1 ∧ a1 < 2 * a0_0
  case neg => rw [if_neg hr] at h; cases h
  rw [if_pos hr] at h
  obtain ⟨hk, p1, p2⟩ := hr
  have hn5 : 5 ≤ a0_0 := (of_decide_eq_true hk).1
  have hn16 : a0_0 ≤ 16 := (of_decide_eq_true hk).2.1
  have HWf := Aside0.mk (show sackbutref04_ways.f a0_0 a0_1 a0_2 a1 = some (wayL (2 * a0_0).toNat (searchL a0_0 a0_1 a0_2 [76, 80, 82] a1), metL (2 * a0_0).toNat (searchL a0_0 a0_1 a0_2 [76, 80, 82] a1)) from if_pos ⟨hk, p1, p2⟩)
  have hgood := searchL_good hk [76, 80, 82] a1 p1 p2
  have hr1 := Option.some.inj h
  obtain ⟨L, hL⟩ : ∃ L, L = searchL a0_0 a0_1 a0_2 [76, 80, 82] a1 := ⟨_, rfl⟩
  rw [← hL] at hr1 hgood HWf
  obtain ⟨m, hm⟩ : ∃ m, m = (2 * a0_0).toNat := ⟨_, rfl⟩
  rw [← hm] at HWf
  have hmn : (m : Int) = 2 * a0_0 := by omega
  have HR := Aside0.mk hr1
  have HG := Aside0.mk hgood
  have hL32 : L.length ≤ 32 := by rcases hgood.length with h | h <;> omega
  have HB0 := Aside0.mk (show Below w.heap.size w (w.alloc (.cells #[.int .i64 a0_0, .int .i64 a0_1, .int .i64 a0_2] 23)) from (Below.refl _ w).alloc (Nat.le_refl _) _)
  have info3 : (Tryd.prog.info? 3).map (fun i => (i.zero, i.size, i.bytes)) = some (some (.int .i64 0), 1, 8) := by kernel_rfl
  clear h hk hgood hr1 hL hm
  go_enter Tryd.func38, Tryd.ntmps38
  go_wp2_with fail
  refine (sackbutref04_ways.calls a0_0 a0_1 a0_2 a1 _ _ _ HWf.out).mono ?_
  rintro e W1 ⟨v5, v6, rfl, hw5, hm6, hb⟩
  have HB1 := Aside0.mk (HB0.out.trans (hb.mono HB0.out.size))
  have HW1 := Aside0.mk (Kd.R_mono (Kd.R_lower hw5 HB0.out.size) (ok' := fun _ => True) (fun _ _ => trivial))
  have HM1 := Aside0.mk (Kd.R_mono (Kd.R_lower hm6 HB0.out.size) (ok' := fun _ => True) (fun _ _ => trivial))
  obtain ⟨g5, c5, hv5, _⟩ := Kd.R_form HW1.out (by rw [wayL_length]; omega)
  obtain ⟨g6, c6, hv6, _⟩ := Kd.R_form HM1.out (by rw [metL_length]; omega)
  rw [wayL_length] at hv5
  rw [metL_length] at hv6
  subst hv5 hv6
  have hmn1 : (m : Int) ≤ 2 * a0_0 := by omega
  have hmn2 : 2 * a0_0 ≤ (m : Int) := by omega
  clear hmn
  clear hw5 hm6 hb
  go_wp2_with fail
  go_loopg [7, 18] m (fun gk v q wr => ∃ i : Nat, gk + i = m ∧ q = .int .i64 (i : Int) ∧ Aside0 (Kd.R Kd.string 9 wr w.heap.size (fun _ => True) (.slice (some ⟨g5, 0, none⟩) m c5) (wayL m L)) ∧ Aside0 (Kd.R Kd.bool 4 wr w.heap.size (fun _ => True) (.slice (some ⟨g6, 0, none⟩) m c6) (metL m L)) ∧ Aside0 (Kd.R (Kd.int .i64) 3 wr w.heap.size (fun _ => True) v (Bfs.counts (below L i))) ∧ Aside0 (Below w.heap.size w wr))
  case atStart => exact ⟨0, rfl, rfl, HW1, HM1, ⟨by rw [below_zero HG.out]; exact Kd.R_nil _ _ _ _ _⟩, HB1⟩
  case round =>
    obtain ⟨i, hgi, rfl, hW, hM, hR, hbel⟩ := hrel
    clear HW1 HM1 HB1 HB0
    by_cases hlt : i < m
    · have hd : decide (i < m) = true := decide_eq_true hlt
      have hd2 : decide ((i : Int) < (m : Int)) = true := decide_eq_true (by omega)
      have hi0 : (0 : Int) ≤ (i : Int) := by omega
      have hi1 : (i : Int) < (m : Int) := by omega
      have hx6 := (Kd.R_celln (d := false) hM.out (i : Int) hi0 hi1).1
      have hx5 := (Kd.R_celln (d := ByteArray.empty) hW.out (i : Int) hi0 hi1).1
      rw [rd_met m L i hi0 hi1, show (i : Int).toNat = i by omega] at hx6
      rw [rd_way m L i hi0 hi1, show (i : Int).toNat = i by omega] at hx5
      obtain ⟨wo, rfl⟩ : ∃ wo : World, wo = wr := ⟨_, rfl⟩
      obtain ⟨gq, rfl⟩ : ∃ gq : Nat, gq = gk := ⟨_, rfl⟩
      cases hkn : Bfs.known L (i : Int) with
      | false =>
        rw [hkn] at hx6
        have HKn := Aside0.mk hkn
        clear hkn
        go_wp2_with fail
        go_loopg [7] 0 (fun gk v wr => Aside0 (Kd.R Kd.string 9 wr w.heap.size (fun _ => True) (.slice (some ⟨g5, 0, none⟩) m c5) (wayL m L)) ∧ Aside0 (Kd.R Kd.bool 4 wr w.heap.size (fun _ => True) (.slice (some ⟨g6, 0, none⟩) m c6) (metL m L)) ∧ Aside0 (Kd.R (Kd.int .i64) 3 wr w.heap.size (fun _ => True) v (Bfs.counts (below L i))) ∧ Aside0 (Below w.heap.size w wr))
        case atStart => exact ⟨hW, hM, hR, hbel⟩
        case round =>
          obtain ⟨hW2, hM2, hR2, hbel2⟩ := hrel
          clear hW hM hR hbel
          go_wp2_with fail
          go_roundg (m - i - 1)
          case measure => omega
          case rel => exact ⟨i + 1, by omega, rfl, hW2, hM2, ⟨by rw [below_out HKn.out]; exact hR2.out⟩, hbel2⟩
      | true =>
        rw [hkn] at hx6
        obtain ⟨u, hu⟩ := Bfs.known_iff.1 hkn
        rw [wordOf_mem HG.out.nodup hu] at hx5
        have HU := Aside0.mk hu
        have hul0 : u.length < L.length := HG.out.short _ hu
        have hul : u.length < 32 := by omega
        have hbl : (below L i).length ≤ 32 := Nat.le_trans (List.length_filter_le _ _) hL32
        have hol : (Bfs.counts (below L i)).length ≤ 32 := by
          have := Bfs.counts_top (below L i) L.length (fun p hp => HG.out.short p (List.mem_filter.1 hp).1)
          omega
        clear hkn hu
        go_wp2_with fail
        go_loopg [7] (u.length + 1 - (Bfs.counts (below L i)).length) (fun gk v wr => ∃ z : Nat, z + gk = u.length + 1 - (Bfs.counts (below L i)).length ∧ Aside0 (Kd.R Kd.string 9 wr w.heap.size (fun _ => True) (.slice (some ⟨g5, 0, none⟩) m c5) (wayL m L)) ∧ Aside0 (Kd.R Kd.bool 4 wr w.heap.size (fun _ => True) (.slice (some ⟨g6, 0, none⟩) m c6) (metL m L)) ∧ Aside0 (Kd.R (Kd.int .i64) 3 wr w.heap.size (fun _ => True) v (Bfs.counts (below L i) ++ List.replicate z 0)) ∧ Aside0 (Below w.heap.size w wr))
        case atStart => exact ⟨0, by omega, hW, hM, ⟨by simpa using hR.out⟩, hbel⟩
        case round =>
          obtain ⟨z, hz, hW2, hM2, hR2, hbel2⟩ := hrel
          clear hW hM hR hbel hx5 hx6
          obtain ⟨A, cc, hv, hlc, _⟩ := Kd.R_reads hR2.out
          obtain ⟨mm, hmm⟩ : ∃ mm, mm = (Bfs.counts (below L i) ++ List.replicate z 0).length := ⟨_, rfl⟩
          rw [← hmm] at hv hlc
          have hmz : mm = (Bfs.counts (below L i)).length + z := by rw [hmm]; simp
          have HMz := Aside0.mk hmz
          have HMl := Aside0.mk hmm
          have hm32 : mm ≤ 100 := by omega
          have hx5 := (Kd.R_celln (d := ByteArray.empty) hW2.out (i : Int) hi0 hi1).1
          rw [rd_way m L i hi0 hi1, show (i : Int).toNat = i by omega, wordOf_mem HG.out.nodup HU.out] at hx5
          have hsz : (⟨u.toArray⟩ : ByteArray).size = u.length := rfl
          by_cases hc : mm ≤ u.length
          · have dc : decide (mm ≤ u.length) = true := decide_eq_true hc
            clear hmm hmz
            subst hv
            go_wp2_with (at_builtin; refine Kd.R_append (Kd.int .i64) (w0 := w) w.heap.size rfl (.tmp 34) (.tmp 35) 54 3 (.int .i64 0) 8 rfl Tryd.underlying54 info3 rfl (by decide) (by omega) (.slice A mm cc) (Bfs.counts (below L i) ++ List.replicate z 0) 0 [.int .i64 0] (fun _ => True) (fun _ => False) rfl rfl rfl (fun _ hk => hk.elim) (fun _ _ => trivial) hR2.out hbel2.out hbel2.out.size (by rw [← HMl.out]; omega) ?_; intro v4 w4 hq4 hb4 hg4 hat4)
            have hzm := HMz.out
            have HR5 := Aside0.mk hq4
            have HW4 := Aside0.mk (Kd.R_over' (v := (.slice A mm cc)) hW2.out (Kd.R_typed hR2.out) (by decide) hg4)
            have HM4 := Aside0.mk (Kd.R_over' (v := (.slice A mm cc)) hM2.out (Kd.R_typed hR2.out) (by decide) hg4)
            go_roundg (gk - 1)
            case measure => omega
            case rel =>
              refine ⟨z + 1, by omega, HW4, HM4, ⟨?_⟩, ⟨hb4⟩⟩
              have := HR5.out
              rw [List.append_assoc, ← List.replicate_succ'] at this
              exact this
          · have dc : decide (mm ≤ u.length) = false := decide_eq_false hc
            obtain ⟨g, cap, hv2, hgw, hgl, _⟩ := Kd.R_form hR2.out (by omega)
            rw [← hmm] at hv2
            rw [hv] at hv2
            injection hv2 with hA _ hcc
            subst hA hcc
            subst hv
            have hgk0 : gk = 0 := by omega
            have hcd : (u.length : Int).toNat = u.length := by omega
            have hR3 := hR2.out
            rw [show Bfs.counts (below L i) ++ List.replicate z 0 = Bfs.pad (Bfs.counts (below L i)) u.length by unfold Bfs.pad; congr 2; omega] at hR3
            have HR3 := Aside0.mk hR3
            have hcell := Kd.R_celln (d := (0 : Int)) hR3 (u.length : Int) (by omega) (by omega)
            have hput := Kd.R_putg hR3 (u.length : Int) (rdOf 0 (Bfs.pad (Bfs.counts (below L i)) u.length) (u.length : Int) + 1)
            obtain ⟨q, hq⟩ : ∃ q, q = rdOf 0 (Bfs.pad (Bfs.counts (below L i)) u.length) (u.length : Int) := ⟨_, rfl⟩
            have hqv : q = (Bfs.counts (below L i)).getD u.length 0 := by
              rw [hq]
              show (Bfs.pad (Bfs.counts (below L i)) u.length).getD (u.length : Int).toNat 0 = _
              rw [hcd, Bfs.pad_getD]
            have hqb := Bfs.counts_nonneg (below L i) u.length
            rw [← hqv] at hqb
            have HQv := Aside0.mk hqv
            rw [← hq, hcd] at hcell hput
            have hc0 := hcell.1
            have hf0 := hcell.2
            have HPut := Aside0.mk hput
            have hj0 : (0 : Int) ≤ (u.length : Int) := by omega
            have hj1 : (u.length : Int) < (mm : Int) := by omega
            have hj2 : u.length < mm := by omega
            have hq0 : 0 ≤ q := by omega
            have hq1 : q ≤ 100 := by omega
            clear hmm hmz hq hqv hcell hput hR3 hqb
            go_wp2_with fail
            have hG := HPut.out.2
            have HR6 := Aside0.mk HPut.out.1
            have HW6 := Aside0.mk (Kd.R_over' (v := (.slice (some ⟨g, 0, none⟩) mm cc)) hW2.out (Kd.R_typed hR2.out) (by decide) hG)
            have HM6 := Aside0.mk (Kd.R_over' (v := (.slice (some ⟨g, 0, none⟩) mm cc)) hM2.out (Kd.R_typed hR2.out) (by decide) hG)
            have HB6 := Aside0.mk (hbel2.out.grown hG hbel2.out.size (fun k e => by cases e; omega))
            go_roundg (m - i - 1)
            case measure => omega
            case rel =>
              refine ⟨i + 1, by omega, rfl, HW6, HM6, ⟨?_⟩, HB6⟩
              have := HR6.out
              rw [Bfs.counts_perm (below_in HG.out.nodup HU.out), Bfs.counts_snoc]
              unfold Bfs.bump
              rw [Bfs.pad_getD, ← HQv.out]
              exact this
    · have hd : decide (i < m) = false := decide_eq_false hlt
      have hd2 : decide ((i : Int) < (m : Int)) = false := decide_eq_false (by omega)
      go_wp2_with fail
      go_ret
      refine ⟨_, rfl, ?_, hbel.out⟩
      rw [← HR.out, ← below_top HG.out i (by omega)]
      exact hR.out
end
end Go.Proofs.YtpaeobpmkdekfaaDoor.P
