/- Far of the program: the walk through its code. -/
import Derived.Test.YtpaeobpmkdekfaaDoorP0
import Derived.Test.YtpaeobpmkdekfaaDoorP1
import Derived.Test.YtpaeobpmkdekfaaDoorSearch
import Derived.Test.YtpaeobpmkdekfaaDoorCounts
namespace Go.Proofs.YtpaeobpmkdekfaaDoor.P
open Go.RowKit Go.Proofs.YtpaeobpmkdekfaaDoorW.PrintWords Go.Proofs.YtpaeobpmkdekfaaDoorW.PrintLast Go.Proofs.YtpaeobpmkdekfaaDoorW.PrintMore
set_option linter.unusedVariables false
set_option linter.unusedSimpArgs false
section
open Go.Proofs.YtpaeobpmkdekfaaDoor.MapLaws Go.Proofs.YtpaeobpmkdekfaaDoor.Base
/-- What a range over a map has handed out. -/
structure Coll (L dn : Bfs.Met Int) (left : Lit → Bool) : Prop where
  nodup : (dn.map (·.1)).Nodup
  sub : ∀ p, p ∈ dn → p ∈ L
  left : ∀ x : Int, left (.int .i64 x) = (Bfs.known L x && !Bfs.known dn x)
theorem Coll.start (L : Bfs.Met Int) : Coll L [] (Maps.has (mapD (H := Unit) L)) where
  nodup := by simp
  sub := by simp
  left := by
    intro x
    rw [mapD_has]
    show _ = (Bfs.known L x && !false)
    rw [Bool.not_false, Bool.and_true]
    rfl
theorem Coll.step {L dn : Bfs.Met Int} {left : Lit → Bool} (h : Coll L dn left) {x : Int} {u : List UInt8} (hx : left (.int .i64 x) = true) (hu : (x, u) ∈ L) : Coll L (dn ++ [(x, u)]) (fun z => left z && !z.sameKey (.int .i64 x)) where
  nodup := by
    rw [List.map_append, List.nodup_append]
    refine ⟨h.nodup, by simp, ?_⟩
    intro y hy z hz e
    obtain rfl : z = x := by simpa using hz
    subst e
    obtain ⟨q, hq, rfl⟩ := List.mem_map.1 hy
    have h1 := h.left q.1
    rw [hx, Bfs.known_iff.2 ⟨q.2, hq⟩] at h1
    simp at h1
  sub := by
    intro p hp
    rcases List.mem_append.1 hp with hp | hp
    · exact h.sub p hp
    · obtain rfl : p = (x, u) := by simpa using hp
      exact hu
  left := by
    intro y
    rw [h.left y, Bfs.known_append]
    have e1 : Bfs.known [(x, u)] y = decide (x = y) := by simp [Bfs.known]
    rw [e1]
    by_cases e : x = y
    · subst e
      have : Lit.sameKey (.int .i64 x) (.int .i64 x) = true := WideAt.sameKey_self (keyLit x)
      rw [this]
      simp
    · have : Lit.sameKey (.int .i64 y) (.int .i64 x) = false := by
        cases hs : Lit.sameKey (.int .i64 y) (.int .i64 x) with
        | false => rfl
        | true =>
          have h1 := WideAt.sameKey_eq hs
          injection h1 with _ h1
          exact absurd h1.symm e
      rw [this, decide_eq_false e]
      simp
theorem nodup_of_keys : ∀ {L : Bfs.Met Int}, (L.map (·.1)).Nodup → L.Nodup
  | [], _ => by simp
  | p :: L, h => by
    rw [List.map_cons, List.nodup_cons] at h
    rw [List.nodup_cons]
    exact ⟨fun hp => h.1 (List.mem_map.2 ⟨p, hp, rfl⟩), nodup_of_keys h.2⟩
theorem key_unique : ∀ {L : Bfs.Met Int}, (L.map (·.1)).Nodup → ∀ {x : Int} {u v : List UInt8}, (x, u) ∈ L → (x, v) ∈ L → u = v
  | [], _, _, _, _, h, _ => by simp at h
  | p :: L, hn, x, u, v, h1, h2 => by
    rw [List.map_cons, List.nodup_cons] at hn
    rcases List.mem_cons.1 h1 with e1 | h1
    · rcases List.mem_cons.1 h2 with e2 | h2
      · rw [← e1] at e2
        injection e2 with _ e2
        exact e2.symm
      · exact absurd (List.mem_map.2 ⟨_, h2, by rw [← e1]⟩) hn.1
    · rcases List.mem_cons.1 h2 with e2 | h2
      · exact absurd (List.mem_map.2 ⟨_, h1, by rw [← e2]⟩) hn.1
      · exact key_unique hn.2 h1 h2
theorem Coll.all {L dn : Bfs.Met Int} {left : Lit → Bool} (h : Coll L dn left) (hn : (L.map (·.1)).Nodup) (h0 : ∀ kl, left kl = false) : dn.Perm L := by
  refine (List.perm_ext_iff_of_nodup (nodup_of_keys h.nodup) (nodup_of_keys hn)).2 ?_
  intro p
  refine ⟨h.sub p, fun hp => ?_⟩
  have h1 := h.left p.1
  rw [h0, Bfs.known_iff.2 ⟨p.2, hp⟩] at h1
  have h2 : Bfs.known dn p.1 = true := by simpa using h1.symm
  obtain ⟨u, hu⟩ := Bfs.known_iff.1 h2
  have e := key_unique hn (h.sub _ hu) hp
  rw [e] at hu
  exact hu
theorem Coll.length {L dn : Bfs.Met Int} {left : Lit → Bool} (h : Coll L dn left) : dn.length ≤ L.length := Bfs.nodup_length dn L (nodup_of_keys h.nodup) h.sub
def triads_Far.f (a0_0 a0_1 a0_2 a1 : Int) : Option (List Int × Int) := (triads_Kind_isTriad.f a0_0 a0_1 a0_2 [a1]).bind fun v => if v = true then (if isKind a0_0 a0_1 a0_2 = true ∧ 0 ≤ a1 ∧ a1 < 2 * a0_0 then some (Bfs.counts (searchL a0_0 a0_1 a0_2 [76, 80, 82] a1), 0) else none) else some ([], 2)
theorem lit1_C (W : World) (x : Int) : Kd.C (Kd.int .i64) (W.alloc (.cells #[.int .i64 x] 3)) (some ⟨W.heap.size, 0, none⟩) ([x] : List Int).length [x] := by
  refine Kd.C_of_reads (enc := Value.int .i64) (d := (0 : Int)) (h1 := fun _ => rfl) ⟨rfl, by simp, fun _ => ⟨_, rfl, fun j hj => ?_⟩⟩
  have hb := World.alloc_heap_new W (.cells #[.int .i64 x] 3)
  obtain rfl : j = 0 := by simp at hj; omega
  exact (blk_cell hb 0).trans rfl
set_option maxHeartbeats 4000000 in
set_option maxRecDepth 100000 in
theorem triads_Far.calls (a0_0 : Int) (a0_1 : Int) (a0_2 : Int) (a1 : Int) (r1 : List Int) (r2 : Int) (w : World) (h : triads_Far.f a0_0 a0_1 a0_2 a1 = some (r1, r2)) :
    Calls Tryd.prog 34 #[.agg #[.int .i64 a0_0, .int .i64 a0_1, .int .i64 a0_2], .int .i64 a1] w fun e w' => ∃ v0_ : Value, e = .returned (.tuple #[v0_, .int .i64 r2]) ∧ Kd.R (Kd.int .i64) 3 w' w.heap.size (fun _ => True) v0_ r1 ∧ Below w.heap.size w w' := by
  obtain ⟨v, hv, h2⟩ := Option.bind_eq_some_iff.1 h
  have HV := Aside0.mk hv
  have H2 := Aside0.mk h2
  clear h h2 hv
  have HB0 := Aside0.mk (show Below w.heap.size w ((w.alloc (.cells #[.int .i64 a0_0, .int .i64 a0_1, .int .i64 a0_2] 27)).alloc (.cells #[.int .i64 a1] 3)) from ((Below.refl _ w).alloc (Nat.le_refl _) _).alloc (by simp) _)
  have HX0 := Aside0.mk (show ((w.alloc (.cells #[.int .i64 a0_0, .int .i64 a0_1, .int .i64 a0_2] 27)).alloc (.cells #[.int .i64 a1] 3)).heap[w.heap.size]? = some (.cells #[.int .i64 a0_0, .int .i64 a0_1, .int .i64 a0_2] 27 (0, 0)) from blk_alloc (World.alloc_heap_new w _) _)
  have hC0 := lit1_C (w.alloc (.cells #[.int .i64 a0_0, .int .i64 a0_1, .int .i64 a0_2] 27)) a1
  rw [World.size_alloc] at hC0
  have HC0 := Aside0.mk hC0
  have law := Maps.int_keyed (P := Tryd.prog) Tryd.underlying3
  clear hC0
  go_enter Tryd.func34, Tryd.ntmps34
  go_wp2_with fail
  refine (triads_Kind_isTriad.calls a0_0 a0_1 a0_2 _ 1 [a1] v _ HC0.out (by simp) HV.out).mono ?_
  rintro e W1 ⟨rfl, hb⟩
  have HB1 := Aside0.mk (HB0.out.trans (hb.mono HB0.out.size))
  have HX1 := Aside0.mk ((hb.block _ (blk_lt HX0.out)).trans HX0.out)
  clear hb
  have q0 : W1.cell? ⟨w.heap.size, 0, none⟩ = some (.int .i64 a0_0) := (blk_cell HX1.out 0).trans rfl
  have q1 : W1.cell? ⟨w.heap.size, 1, none⟩ = some (.int .i64 a0_1) := (blk_cell HX1.out 1).trans rfl
  have q2 : W1.cell? ⟨w.heap.size, 2, none⟩ = some (.int .i64 a0_2) := (blk_cell HX1.out 2).trans rfl
  cases v with
  | false =>
    have h3 := H2.out
    rw [if_neg (by decide)] at h3
    obtain ⟨rfl, rfl⟩ : ([] : List Int) = r1 ∧ (2 : Int) = r2 := by simpa using h3
    clear h3
    go_wp2_with fail
    go_ret2
    exact ⟨_, rfl, Kd.R_nil _ _ _ _ _, HB1.out⟩
  | true =>
    have h3 := H2.out
    rw [if_pos rfl] at h3
    by_cases hr : isKind a0_0 a0_1 a0_2 = true ∧ 0 ≤ a1 ∧ a1 < 2 * a0_0
    case neg => rw [if_neg hr] at h3; cases h3
    rw [if_pos hr] at h3
    obtain ⟨hk, p1, p2⟩ := hr
    have hn16 : a0_0 ≤ 16 := (of_decide_eq_true hk).2.1
    obtain ⟨hr1, rfl⟩ : Bfs.counts (searchL a0_0 a0_1 a0_2 [76, 80, 82] a1) = r1 ∧ (0 : Int) = r2 := by simpa using h3
    have HK := Aside0.mk hk
    have hgood := searchL_good hk [76, 80, 82] a1 p1 p2
    obtain ⟨L, hL⟩ : ∃ L, L = searchL a0_0 a0_1 a0_2 [76, 80, 82] a1 := ⟨_, rfl⟩
    rw [← hL] at hr1 hgood
    have HR := Aside0.mk hr1
    have HG := Aside0.mk hgood
    have HL := Aside0.mk hL
    have hL32 : L.length ≤ 32 := by rcases hgood.length with h | h <;> omega
    clear h3 hk hgood hL hr1
    go_wp2_with fail
    refine (search_calls HK.out a1 p1 p2 ⟨#[76, 80, 82]⟩ (by decide) (by decide) W1).mono ?_
    rintro e W2 ⟨B, rfl, hB, hown, hb⟩
    have HB2 := Aside0.mk (HB1.out.trans (hb.mono HB1.out.size))
    have hown' : W2.ownsMap (H := Unit) Tryd.prog 3 (plainElem Tryd.prog 9) B L.length (mapD L) := by rw [HL.out]; exact hown
    have HO := Aside0.mk hown'
    have hBw : w.heap.size ≤ B := Nat.le_trans HB1.out.size hB
    clear hb hown hown' hB
    go_wp2_with (at_range; refine wpList_range_own _ rfl _ 85 rfl 3 9 law Tryd.underlying85 _ B _ _ rfl HO.out ?_; intro W3 hrg hg3 hs3)
    go_frame
    obtain ⟨r, hr⟩ : ∃ r, r = W2.heap.size := ⟨_, rfl⟩
    rw [← hr] at hrg hs3 ⊢
    have hBr : B < r := by rw [hr]; exact HO.out.lt
    have hwr : w.heap.size ≤ r := by omega
    rw [mapD_size _ HG.out.nodup] at hrg
    have HRg := Aside0.mk hrg
    have HB3 := Aside0.mk (HB2.out.grown hg3 HB2.out.size (fun k e => by cases e))
    clear hrg hg3 hs3 hr
    go_loopg [6] L.length (fun gk v wr => ∃ (dn : Bfs.Met Int) (left : Lit → Bool), Aside0 (wr.ranges (H := Unit) Tryd.prog 3 (plainElem Tryd.prog 9) B r L.length (mapD L) left gk) ∧ Aside0 (Coll L dn left) ∧ Aside0 (Kd.R (Kd.int .i64) 3 wr w.heap.size (fun k => k ≠ B ∧ k ≠ r) v (Bfs.counts dn)) ∧ Aside0 (Below w.heap.size w wr))
    case atStart => exact ⟨[], _, HRg, ⟨Coll.start L⟩, ⟨Kd.R_nil _ _ _ _ _⟩, HB3⟩
    case round =>
      obtain ⟨dn, left, hrg, hcol, hR, hbel⟩ := hrel
      go_wp2_with (at_next; refine wpList_next_ranges_is _ rfl _ rfl 3 9 .i64 law Tryd.underlying3 Tryd.underlying9 B r _ _ _ _ rfl hrg.out ?_ ?_)
      · intro h0 hl0
        go_wp2_with fail
        go_ret2
        have hp := hcol.out.all HG.out.nodup hl0
        have e : Bfs.counts dn = r1 := (Bfs.counts_perm hp).trans HR.out
        exact ⟨_, rfl, by rw [← e]; exact Kd.R_mono hR.out (fun _ _ => trivial), hbel.out⟩
      · intro x c W4 cnt2 hwx hcs hlx hat hrg4 hlt hg4 hs4 hen
        obtain ⟨wo, rfl⟩ : ∃ wo : World, wo = wr := ⟨_, rfl⟩
        obtain ⟨gq, rfl⟩ : ∃ gq : Nat, gq = gk := ⟨_, rfl⟩
        have hkn := hcol.out.left x
        rw [hlx] at hkn
        have hkL : Bfs.known L x = true := by
          cases hc : Bfs.known L x with
          | true => rfl
          | false => rw [hc] at hkn; simp at hkn
        obtain ⟨u, hu⟩ := Bfs.known_iff.1 hkL
        have hcu : u = c.data.toList := by
          have h1 := hat (.lit (.string []))
          rw [mapD_at L HG.out.nodup x u hu] at h1
          injection h1 with h1
          injection h1
        have hul : u.length < L.length := HG.out.short _ hu
        have hcz : c.size = u.length := by rw [hcu]; exact (data_length c).symm
        have HC4 := Aside0.mk (hcol.out.step hlx hu)
        have HRg4 := Aside0.mk hrg4
        have hdn := hcol.out.length
        have HR4 := Aside0.mk (Kd.R_mono (Kd.R_grown hR.out hg4 (fun k hk e => hk.2 (Option.some.inj e))) (ok' := fun k => k ≠ B ∧ k ≠ r) (fun _ h => h))
        have HB4 := Aside0.mk (hbel.out.grown hg4 hbel.out.size (fun k e => by cases e; omega))
        have HCu := Aside0.mk hcu
        have HCz := Aside0.mk hcz
        clear hkn hkL hu hcu hcz hat hrg4 hg4 hs4 hwx hcs hlx
        have info3 : (Tryd.prog.info? 3).map (fun i => (i.zero, i.size, i.bytes)) = some (some (.int .i64 0), 1, 8) := by kernel_rfl
        have hol : (Bfs.counts dn).length ≤ 32 := by
          have := Bfs.counts_top dn L.length (fun p hp => HG.out.short p (hcol.out.sub p hp))
          omega
        have hzl : c.size < 32 := by have := HCz.out; omega
        go_wp2_with fail
        go_loopg [6] (c.size + 1 - (Bfs.counts dn).length) (fun gk v wr => ∃ z : Nat, z + gk = c.size + 1 - (Bfs.counts dn).length ∧ Aside0 (wr.ranges (H := Unit) Tryd.prog 3 (plainElem Tryd.prog 9) B r L.length (mapD L) (fun z => left z && !z.sameKey (Lit.int .i64 x)) cnt2) ∧ Aside0 (Kd.R (Kd.int .i64) 3 wr w.heap.size (fun k => k ≠ B ∧ k ≠ r) v (Bfs.counts dn ++ List.replicate z 0)) ∧ Aside0 (Below w.heap.size w wr))
        case atStart => exact ⟨0, by omega, HRg4, ⟨by simpa using HR4.out⟩, HB4⟩
        case round =>
          obtain ⟨z, hz, hrg2, hR2, hbel2⟩ := hrel
          clear HRg4 HR4 HB4
          obtain ⟨A, cc, hv, hlc, _⟩ := Kd.R_reads hR2.out
          obtain ⟨m, hm⟩ : ∃ m, m = (Bfs.counts dn ++ List.replicate z 0).length := ⟨_, rfl⟩
          rw [← hm] at hv hlc
          have hmz : m = (Bfs.counts dn).length + z := by rw [hm]; simp
          have HMz := Aside0.mk hmz
          have HMl := Aside0.mk hm
          have hm32 : m ≤ 100 := by omega
          have hBlt := hrg2.out.owns.lt
          have hrlt := hrg2.out.lt
          by_cases hc : m ≤ c.size
          · have dc : decide (m ≤ c.size) = true := decide_eq_true hc
            clear hm hmz
            subst hv
            go_wp2_with (at_builtin; refine Kd.R_append (Kd.int .i64) (w0 := w) w.heap.size rfl (.tmp 27) (.tmp 28) 54 3 (.int .i64 0) 8 rfl Tryd.underlying54 info3 rfl (by decide) (by omega) (.slice A m cc) (Bfs.counts dn ++ List.replicate z 0) 0 [.int .i64 0] (fun k => k ≠ B ∧ k ≠ r) (fun _ => False) rfl rfl rfl (fun _ hk => hk.elim) (fun k hk => by omega) hR2.out hbel2.out hbel2.out.size (by rw [← HMl.out]; omega) ?_; intro v4 w4 hq4 hb4 hg4 hat4)
            have hzm := HMz.out
            have hne := hR2.out.1
            have HR5 := Aside0.mk hq4
            have HRg5 := Aside0.mk (hrg2.out.kept hg4 (fun e => (hne B e.symm).1 rfl) (fun e => (hne r e.symm).2 rfl))
            go_roundg (gk - 1)
            case measure => omega
            case rel =>
              refine ⟨z + 1, by omega, HRg5, ⟨?_⟩, ⟨hb4⟩⟩
              have := HR5.out
              rw [List.append_assoc, ← List.replicate_succ'] at this
              exact this
          · have dc : decide (m ≤ c.size) = false := decide_eq_false hc
            obtain ⟨g, cap, hv2, hgw, hgl, _⟩ := Kd.R_form hR2.out (by omega)
            rw [← hm] at hv2
            rw [hv] at hv2
            injection hv2 with hA _ hcc
            subst hA hcc
            have hgn : g ≠ B ∧ g ≠ r := hR2.out.1 g (by rw [hv]; rfl)
            subst hv
            have hgk0 : gk = 0 := by omega
            have hcd : (c.size : Int).toNat = c.size := by omega
            have hR3 := hR2.out
            rw [show Bfs.counts dn ++ List.replicate z 0 = Bfs.pad (Bfs.counts dn) c.size by unfold Bfs.pad; congr 2; omega] at hR3
            have HR3 := Aside0.mk hR3
            have hcell := Kd.R_celln (d := (0 : Int)) hR3 (c.size : Int) (by omega) (by omega)
            have hput := Kd.R_putg hR3 (c.size : Int) (rdOf 0 (Bfs.pad (Bfs.counts dn) c.size) (c.size : Int) + 1)
            obtain ⟨q, hq⟩ : ∃ q, q = rdOf 0 (Bfs.pad (Bfs.counts dn) c.size) (c.size : Int) := ⟨_, rfl⟩
            have hqv : q = (Bfs.counts dn).getD c.size 0 := by
              rw [hq]
              show (Bfs.pad (Bfs.counts dn) c.size).getD (c.size : Int).toNat 0 = _
              rw [hcd, Bfs.pad_getD]
            have hqb := Bfs.counts_nonneg dn c.size
            rw [← hqv] at hqb
            have HQv := Aside0.mk hqv
            rw [← hq, hcd] at hcell hput
            have hc0 := hcell.1
            have hf0 := hcell.2
            have HPut := Aside0.mk hput
            have hi0 : (0 : Int) ≤ (c.size : Int) := by omega
            have hi1 : (c.size : Int) < (m : Int) := by omega
            have hi2 : c.size < m := by omega
            have hq0 : 0 ≤ q := by omega
            have hq1 : q ≤ 100 := by omega
            clear hm hmz hq hqv hcell hput hR3 hqb
            go_wp2_with fail
            have hG := HPut.out.2
            have HR6 := Aside0.mk HPut.out.1
            have HRg6 := Aside0.mk (hrg2.out.kept hG (fun e => hgn.1 (Option.some.inj e).symm) (fun e => hgn.2 (Option.some.inj e).symm))
            have HB6 := Aside0.mk (hbel2.out.grown hG hbel2.out.size (fun k e => by cases e; omega))
            go_roundg cnt2
            case measure => omega
            case rel =>
              refine ⟨dn ++ [(x, u)], _, HRg6, HC4, ⟨?_⟩, HB6⟩
              have := HR6.out
              rw [Bfs.counts_snoc]
              unfold Bfs.bump
              have e1 : u.length = c.size := HCz.out.symm
              rw [show ((x, u) : Int × List UInt8).2 = u from rfl, e1, Bfs.pad_getD, ← HQv.out]
              exact this
end
end Go.Proofs.YtpaeobpmkdekfaaDoor.P
