/- Texts that the proof of TriadsAlike needs, put together in build order by this session's program (wip/tools/claimtrim.py). -/
import Derived.Test.YtpaeobpmkdekfaaDoorTriadsAlikeM5
import Derived.Test.YtpaeobpmkdekfaaDoorTriadsAlikeM8
import Derived.Test.YtpaeobpmkdekfaaDoorTriadsAlikeM12
import Derived.Test.YtpaeobpmkdekfaaDoorTriadsAlikeM13
import Derived.Deep.RegionHeld3
section
namespace Go.Proofs.YtpaeobpmkdekfaaDoor.P
open Go.RowKit Go.Proofs.YtpaeobpmkdekfaaDoorW.PrintWords Go.Proofs.YtpaeobpmkdekfaaDoorW.PrintLast Go.Proofs.YtpaeobpmkdekfaaDoorW.PrintMore
set_option linter.unusedVariables false
set_option linter.unusedSimpArgs false
section
open Go.Proofs.YtpaeobpmkdekfaaDoor.MapLaws Go.Proofs.YtpaeobpmkdekfaaDoor.Bfs Go.Proofs.YtpaeobpmkdekfaaDoor.Base
theorem search.zeroS (w : World) : (zeroValue 9).run Tryd.prog w = .ok (.string ⟨#[]⟩) w := by kernel_rfl
def stepU (n a b : Int) (t : Int) (c : UInt8) : Int := stepI n a b t (c.toNat : Int)
/-- What has been met from a triad on, by some steps. -/
def searchL (n a b : Int) (steps : List UInt8) (t : Int) : Bfs.Met Int := Bfs.go (stepU n a b) steps 65 0 [(t, [])]
theorem encode_ascii (c : UInt8) (h : c.toNat < 128) : Utf8.encode (c.toNat : Int) = ⟨#[c]⟩ := by
  have hv : Utf8.valid (c.toNat : Int) = true := by
    unfold Utf8.valid
    simp
    omega
  have key : ∀ m : Nat, m < 128 → Utf8.valid (m : Int) = true → Utf8.encode (m : Int) = ⟨#[UInt8.ofNat m]⟩ := by
    intro m hm hv
    unfold Utf8.encode
    simp only [hv, if_true, Int.toNat_natCast]
    exact if_pos hm
  rw [key _ h hv, UInt8.ofNat_toNat]
theorem owns_same {H : Type} {P : Program} {k : TypeId} {R : Value → Option (DataW H × List MemPlace)} {w w' : World} {b n : Nat} {D : DataW H} (h : w.ownsMap P k R b n D) (e : w'.heap[b]? = w.heap[b]?) : w'.ownsMap P k R b n D := by
  obtain ⟨es, clock, hb, r⟩ := h
  exact ⟨es, clock, e.trans hb, r⟩
theorem str_snoc (l : List UInt8) (c : UInt8) (h : l.length ≤ 1000) : plainElem (H := Unit) Tryd.prog 9 (.string (⟨l.toArray⟩ ++ ⟨#[c]⟩)) = some (.lit (.string (l ++ [c])), []) := by
  have h3 : (⟨l.toArray⟩ ++ ⟨#[c]⟩ : ByteArray).size = l.length + 1 := by
    rw [ByteArray.size_append]
    rfl
  rw [plainElem_string (H := Unit) (P := Tryd.prog) (e := 9) Tryd.underlying9 (s := ⟨l.toArray⟩ ++ ⟨#[c]⟩) (by rw [h3]; unfold maxLen; omega)]
  simp
theorem go_end {T : Type} [DecidableEq T] (f : T → UInt8 → T) (steps : List UInt8) (k i : Nat) (L : Bfs.Met T) (h : L.length ≤ i) : Bfs.go f steps k i L = L := by
  cases k with
  | zero => rfl
  | succ k =>
    unfold Bfs.go
    rw [List.getElem?_eq_none_iff.2 h]
theorem go_more {T : Type} [DecidableEq T] (f : T → UInt8 → T) (steps : List UInt8) (k i : Nat) (L : Bfs.Met T) (h : i < L.length) (hk : 0 < k) : Bfs.go f steps k i L = Bfs.go f steps (k - 1) (i + 1) (Bfs.visit f L[i] steps L) := by
  obtain ⟨k, rfl⟩ : ∃ m, k = m + 1 := ⟨k - 1, by omega⟩
  rw [Bfs.go, List.getElem?_eq_getElem h]
  rfl
set_option maxHeartbeats 4000000 in
set_option maxRecDepth 100000 in
theorem search_calls {n a b : Int} (hk : isKind n a b = true) (t : Int) (ht0 : 0 ≤ t) (ht1 : t < 2 * n) (s : ByteArray) (hs : s.size ≤ 60) (hasc : ∀ c, c ∈ s.data.toList → c.toNat < 128) (w : World) :
    Calls Tryd.prog 64 #[.agg #[.int .i64 n, .int .i64 a, .int .i64 b], .int .i64 t, .string s] w fun e w' => ∃ B, e = .returned (.map (some B)) ∧ w.heap.size ≤ B ∧ w'.ownsMap (H := Unit) Tryd.prog 3 (plainElem Tryd.prog 9) B (searchL n a b s.data.toList t).length (mapD (searchL n a b s.data.toList t)) ∧ Below w.heap.size w w' := by
  obtain ⟨R, hR⟩ : ∃ R, R = searchL n a b s.data.toList t := ⟨_, rfl⟩
  rw [← hR]
  have HR := Aside0.mk (show Bfs.go (stepU n a b) s.data.toList 65 0 [(t, [])] = R from hR.symm)
  clear hR
  have hn16 : n ≤ 16 := (of_decide_eq_true hk).2.1
  have hn5 : 5 ≤ n := (of_decide_eq_true hk).1
  have HK := Aside0.mk hk
  have HAsc := Aside0.mk hasc
  have hmm := @run_makeMap Tryd.prog
  have law := Maps.int_keyed (P := Tryd.prog) Tryd.underlying3
  have kb := fun W => print_bytes (P := Tryd.prog) 9 95 5 Tryd.underlying9 Tryd.underlying95 Tryd.underlying5 s W
  have wf3 : ∀ x : Int, 0 ≤ x → x < 2 * n → (Lit.int .i64 x).wf = true := fun x h0 h1 => WalkArith.wf_i64 (by omega)
  have HWf := Aside0.mk wf3
  have hkey0 := Maps.keyOf_int_mk (P := Tryd.prog) Tryd.underlying3 (wf3 t ht0 ht1)
  have HGood := Aside0.mk (Bfs.Good.start ht0 ht1)
  clear wf3 hk hasc
  have hown0 : ((w.alloc (.cells #[.int .i64 n, .int .i64 a, .int .i64 b] 27)).alloc (.map #[] 0)).ownsMap (H := Unit) Tryd.prog 3 (plainElem Tryd.prog 9) (w.heap.size + 1) 0 (.map []) := by
    have := World.ownsMap_made (H := Unit) (w.alloc (.cells #[.int .i64 n, .int .i64 a, .int .i64 b] 27)) Tryd.prog 3 (plainElem Tryd.prog 9)
    rwa [World.size_alloc] at this
  have HO0 := Aside0.mk hown0
  have HB0 := Aside0.mk (show Below w.heap.size w ((w.alloc (.cells #[.int .i64 n, .int .i64 a, .int .i64 b] 27)).alloc (.map #[] 0)) from ((Below.refl _ w).alloc (Nat.le_refl _) _).alloc (by simp) _)
  have HX0 := Aside0.mk (show ((w.alloc (.cells #[.int .i64 n, .int .i64 a, .int .i64 b] 27)).alloc (.map #[] 0)).heap[w.heap.size]? = some (.cells #[.int .i64 n, .int .i64 a, .int .i64 b] 27 (0, 0)) from blk_alloc (World.alloc_heap_new w _) _)
  clear hown0
  go_enter Tryd.func64, Tryd.ntmps64
  go_wp2_with (refine wpList_insert_own _ rfl _ _ _ 85 rfl 3 9 law Tryd.underlying85 (plainElem Tryd.prog 9) (w.heap.size + 1) 0 (.map []) rfl HO0.out (by decide) _ _ _ rfl rfl hkey0 (.lit (.string [])) [] (plainElem_string Tryd.underlying9 (by decide)) ?_; intro w1 hown1 hgrow1; have HO1 := Aside0.mk hown1; have HX1 := Aside0.mk ((hgrow1.block _ (blk_lt HX0.out) (by simp)).trans HX0.out); have HB1 := Aside0.mk (HB0.out.grown hgrow1 HB0.out.size (fun k hk => by cases hk; omega)); have HS1 := Aside0.mk (show w.heap.size + 2 ≤ w1.heap.size by have := hgrow1.size; simp at this; omega); clear hown1 hgrow1 hmm)
  have hQ0 : (Kd.int .i64).Q 3 (w1.alloc (.cells #[.int .i64 t] 3)) w.heap.size (fun k => w.heap.size + 2 ≤ k) (.slice (some ⟨w1.heap.size, 0, none⟩) 1 1) [t] := by
    refine Kd.Q_of_R (Kd.R_of_own (xs := [t]) ?_ (fun k hk => by have h1 : some w1.heap.size = some k := hk; cases h1; exact HS1.out))
    refine ⟨rfl, .inr ⟨w1.heap.size, 1, #[.int .i64 t], rfl, by have := HS1.out; omega, World.alloc_heap_new w1 _, Nat.le_refl _, by decide, rfl, rfl⟩⟩
  have HQ0 := Aside0.mk hQ0
  clear hQ0
  go_loopg [8] 65 (fun gk v wr => ∃ (i : Nat) (L : Bfs.Met Int), gk + i = 65 ∧ i ≤ L.length ∧ Aside0 (Bfs.go (stepU n a b) s.data.toList gk i L = R) ∧ Aside0 (Bfs.Good n L) ∧ Aside0 ((Kd.int .i64).Q 3 wr w.heap.size (fun k => w.heap.size + 2 ≤ k) v ((L.drop i).map (·.1))) ∧ Aside0 (wr.ownsMap (H := Unit) Tryd.prog 3 (plainElem Tryd.prog 9) (w.heap.size + 1) L.length (mapD L)) ∧ Aside0 (wr.heap[w.heap.size]? = some (.cells #[.int .i64 n, .int .i64 a, .int .i64 b] 27 (0, 0))) ∧ Aside0 (w.heap.size + 2 ≤ wr.heap.size) ∧ Aside0 (Below w.heap.size w wr))
  case atStart =>
    exact ⟨0, [(t, [])], rfl, by simp, HR, HGood, HQ0, ⟨owns_same HO1.out (Below.heap_alloc _ _ _ (by have := HS1.out; omega))⟩, ⟨blk_alloc HX1.out _⟩, ⟨by have := HS1.out; simp; omega⟩, ⟨HB1.out.alloc HB1.out.size _⟩⟩
  case round =>
    obtain ⟨i, L, hgi, hiL, hgo, hgood, hq, hown, hbx, hsz, hbel⟩ := hrel
    clear HO0 HB0 HX0 HO1 HX1 HB1 HS1 HQ0 HR HGood
    have hLn : L.length ≤ 32 := by rcases hgood.out.length with h | h <;> omega
    obtain ⟨A, cc, hv, hlc, hC⟩ := Kd.Q_reads hq.out
    clear hC
    obtain ⟨m, hm⟩ : ∃ m, m = ((L.drop i).map (·.1)).length := ⟨_, rfl⟩
    rw [← hm] at hv hlc
    have HMl := Aside0.mk hm
    have hmi : m = L.length - i := by rw [hm]; simp
    clear hm
    subst hv
    by_cases hlt : i < L.length
    · have hm0 : 0 < m := by omega
      have d0 : decide (0 < m) = true := decide_eq_true hm0
      clear hmi
      go_wp2_with fail
      obtain ⟨wo, rfl⟩ : ∃ wo : World, wo = wr := ⟨_, rfl⟩
      obtain ⟨gq, rfl⟩ : ∃ gq : Nat, gq = gk := ⟨_, rfl⟩
      obtain ⟨p, hp⟩ : ∃ p, p = L[i] := ⟨_, rfl⟩
      have hpL : p ∈ L := hp ▸ List.getElem_mem hlt
      have hgo2 := hgo.out
      rw [go_more _ _ _ _ _ hlt (by omega), ← hp] at hgo2
      have HGo := Aside0.mk hgo2
      have HP := Aside0.mk hp
      have HPL := Aside0.mk hpL
      have hW1 := bytes_below (Below.refl _ wo) (Nat.le_refl _) 5 s
      have HW1 := Aside0.mk hW1
      have HRd := Aside0.mk (show ∀ j, j < s.size → (Lib.bytesWorld wo 5 s).cell? ⟨wo.heap.size, j, none⟩ = some (.int .u8 (s.data.toList.getD j 0).toNat) from fun j hj => Lib.bytesWorld_cell _ 5 s j hj)
      have HSw := Aside0.mk (Lib.bytesWorld_size wo 5 s)
      have HQ := Aside0.mk (Kd.Q_mono (Kd.Q_below (Kd.Q_elderB hq.out wo.heap.size (Nat.le_refl _)) hW1) (ok' := fun k => w.heap.size + 2 ≤ k ∧ k ≠ wo.heap.size) (fun k h => h))
      have HOw := Aside0.mk (owns_same hown.out (hW1.block _ (by have := hsz.out; omega)))
      have HBx := Aside0.mk ((hW1.block _ (blk_lt hbx.out)).trans hbx.out)
      have HBel := Aside0.mk (hbel.out.trans (hW1.mono hbel.out.size))
      clear hgo2 hp hpL hW1 hgo hq hown hbx hbel
      go_loopg [8, 27] s.size (fun gk v q wr => ∃ (j : Nat), gk + j = s.size ∧ q = .int .i64 (j : Int) ∧ Aside0 (Bfs.Good n (Bfs.visit (stepU n a b) p (s.data.toList.take j) L)) ∧ Aside0 ((Kd.int .i64).Q 3 wr w.heap.size (fun k => w.heap.size + 2 ≤ k ∧ k ≠ wo.heap.size) v (((Bfs.visit (stepU n a b) p (s.data.toList.take j) L).drop i).map (·.1))) ∧ Aside0 (wr.ownsMap (H := Unit) Tryd.prog 3 (plainElem Tryd.prog 9) (w.heap.size + 1) (Bfs.visit (stepU n a b) p (s.data.toList.take j) L).length (mapD (Bfs.visit (stepU n a b) p (s.data.toList.take j) L))) ∧ Aside0 (wr.heap[w.heap.size]? = some (.cells #[.int .i64 n, .int .i64 a, .int .i64 b] 27 (0, 0))) ∧ Aside0 (∀ j, j < s.size → wr.cell? ⟨wo.heap.size, j, none⟩ = some (.int .u8 (s.data.toList.getD j 0).toNat)) ∧ Aside0 (wo.heap.size < wr.heap.size) ∧ Aside0 (Below w.heap.size w wr))
      case atStart =>
        exact ⟨0, by omega, rfl, hgood, HQ, HOw, HBx, HRd, ⟨by have := HSw.out; omega⟩, HBel⟩
      case round =>
        obtain ⟨j, hgj, rfl, hgood2, hq2, hown2, hbx2, hrd2, hsz2, hbel2⟩ := hrel
        clear HQ HOw HBx HRd HSw HBel HW1
        have hdl := data_length s
        obtain ⟨M, hM⟩ : ∃ M, M = Bfs.visit (stepU n a b) p (s.data.toList.take j) L := ⟨_, rfl⟩
        rw [← hM] at hgood2 hq2 hown2
        have HMp := Aside0.mk (show L <+: M from hM ▸ Bfs.visit_prefix _ p _ L)
        have HM := Aside0.mk hM
        clear hM
        have hML : L.length ≤ M.length := HMp.out.length_le
        have hMn : M.length ≤ 32 := by rcases hgood2.out.length with h | h <;> omega
        have hpM : M[i]? = some p := by
          obtain ⟨Z, hZ⟩ := HMp.out
          rw [← hZ, List.getElem?_append_left hlt, List.getElem?_eq_getElem hlt, HP.out]
        have HPM := Aside0.mk hpM
        clear hpM
        have hlenM : ((M.drop i).map (·.1)).length = M.length - i := by simp
        obtain ⟨g, o, cc2, hv2, _, hgl, _⟩ := Kd.Q_form hq2.out (by rw [hlenM]; omega)
        have hgb : w.heap.size + 2 ≤ g ∧ g ≠ wo.heap.size := hq2.out.1 g (by rw [hv2]; rfl)
        obtain ⟨m2, hm2⟩ : ∃ m2, m2 = ((M.drop i).map (·.1)).length := ⟨_, rfl⟩
        rw [← hm2] at hv2
        have hmM : m2 + i = M.length := by omega
        have HM2 := Aside0.mk hm2
        clear hm2 hlenM
        subst hv2
        by_cases hj : j < s.size
        · have dj : decide ((j : Int) < (s.size : Int)) = true := decide_eq_true (by omega)
          have hcb := hrd2.out j hj
          obtain ⟨c, hc⟩ : ∃ c, c = s.data.toList.getD j 0 := ⟨_, rfl⟩
          rw [← hc] at hcb
          have hca : c.toNat < 128 := HAsc.out c (by rw [hc, List.getD_eq_getElem?_getD, List.getElem?_eq_getElem (by omega)]; exact List.getElem_mem _)
          have HC2 := Aside0.mk hc
          clear hc
          have hl0 : (0 : Int) ≤ (j : Int) := by omega
          have hl1 : (j : Int) < (s.size : Int) := by omega
          have hnat : (j : Int).toNat = j := by omega
          have hb0 : wr.cell? ⟨w.heap.size, 0, none⟩ = some (.int .i64 n) := (blk_cell hbx2.out 0).trans rfl
          have hb1 : wr.cell? ⟨w.heap.size, 1, none⟩ = some (.int .i64 a) := (blk_cell hbx2.out 1).trans rfl
          have hb2 : wr.cell? ⟨w.heap.size, 2, none⟩ = some (.int .i64 b) := (blk_cell hbx2.out 2).trans rfl
          have hp0 : wr.cell? ⟨g, o, none⟩ = some (.int .i64 p.1) := by
            have h1 := (Kd.Q_cell (d := (0 : Int)) hq2.out 0 (by omega) (by omega)).1
            have h2 : rdOf (0 : Int) ((M.drop i).map (·.1)) 0 = p.1 := by
              have e := List.getElem?_eq_some_iff.1 HPM.out
              obtain ⟨e1, e2⟩ := e
              rw [List.drop_eq_getElem_cons e1, List.map_cons]
              show ([M[i].1] ++ _).getD 0 0 = _
              rw [e2]
              rfl
            rw [h2] at h1
            exact h1
          obtain ⟨q, hqd⟩ : ∃ q, q = stepU n a b p.1 c := ⟨_, rfl⟩
          have hpr := hgood2.out.range p (List.mem_of_getElem? HPM.out)
          have hqr : 0 ≤ q ∧ q < 2 * n := by rw [hqd]; exact step_range HK.out _ _
          have HSt := Aside0.mk (show triads_Kind_step.f n a b p.1 (c.toNat : Int) = some q by rw [hqd]; exact step_f HK.out _ _ hpr.1 hpr.2)
          have HQd := Aside0.mk hqd
          clear hqd
          have hI : (0 : Int) < (m2 : Int) := by omega
          have hI2 : 0 < m2 := by omega
          go_wp2_with fail
          go_region_held3 (fun W => W.cell? ⟨w.heap.size, 0, none⟩ = some (.int .i64 n) ∧ W.cell? ⟨w.heap.size, 1, none⟩ = some (.int .i64 a) ∧ W.cell? ⟨w.heap.size, 2, none⟩ = some (.int .i64 b) ∧ W.cell? ⟨g, o, none⟩ = some (.int .i64 p.1)) ((first | go_keep | exact ⟨(hb.cell (World.block_lt_of_cell? _ _ hb0)).trans hb0, (hb.cell (World.block_lt_of_cell? _ _ hb1)).trans hb1, (hb.cell (World.block_lt_of_cell? _ _ hb2)).trans hb2, (hb.cell (World.block_lt_of_cell? _ _ hp0)).trans hp0⟩))
            ((go_at_call 80; refine (triads_Kind_step.calls n a b p.1 (c.toNat : Int) q _ HSt.out).mono ?_; rintro e w' ⟨rfl, hb⟩))
          replace hb : Below wr.heap.size wr w' := (below_drew (Below.refl _ wr)).trans hb
          have HOw := Aside0.mk (owns_same hown2.out (hb.block _ (by have := hsz.out; have := hsz2.out; omega)))
          have HBx := Aside0.mk ((hb.block _ (blk_lt hbx2.out)).trans hbx2.out)
          have HRd := Aside0.mk (show ∀ j, j < s.size → w'.cell? ⟨wo.heap.size, j, none⟩ = some (.int .u8 (s.data.toList.getD j 0).toNat) from fun j hj => (World.cell?_of_block (hb.block _ hsz2.out)).trans (hrd2.out j hj))
          have HQ := Aside0.mk (Kd.Q_below hq2.out hb)
          have HSz := Aside0.mk (Nat.lt_of_lt_of_le hsz2.out hb.size)
          have HBel := Aside0.mk (hbel2.out.trans (hb.mono hbel2.out.size))
          have hkq := Maps.keyOf_int_mk (P := Tryd.prog) Tryd.underlying3 (HWf.out q hqr.1 hqr.2)
          have hkp := Maps.keyOf_int_mk (P := Tryd.prog) Tryd.underlying3 (HWf.out p.1 hpr.1 hpr.2)
          have hp0' := (hb.cell (World.block_lt_of_cell? _ _ hp0)).trans hp0
          have HPut := Aside0.mk (show Bfs.visit (stepU n a b) p (s.data.toList.take (j + 1)) L = Bfs.put (stepU n a b) p M c by rw [Bfs.visit_take _ _ _ _ _ (by omega), ← HM.out, ← HC2.out])
          have HG2 := Aside0.mk (show Bfs.Good n (Bfs.put (stepU n a b) p M c) from Bfs.Good.put hgood2.out (List.mem_of_getElem? HPM.out) c (by rw [← HQd.out]; exact hqr))
          clear hb hb0 hb1 hb2 hp0 hcb
          cases hkn : Bfs.known M q with
          | true =>
            obtain ⟨u, hu⟩ := Bfs.known_iff.1 hkn
            have HU := Aside0.mk hu
            have HKn := Aside0.mk hkn
            clear hkn hu
            go_wp2_with (at_lookup; refine wpList_lookup_own_ok_str _ rfl _ _ 85 rfl 3 9 law Tryd.underlying85 Tryd.underlying9 (search.zeroS _) (w.heap.size + 1) M.length (mapD M) rfl HOw.out _ (.int .i64 q) rfl hkq ⟨u.toArray⟩ (mapD_at M hgood2.out.nodup q u HU.out _) true ((mapD_has M q).trans HKn.out) ?_)
            have HV := Aside0.mk (show Bfs.visit (stepU n a b) p (s.data.toList.take (j + 1)) L = M by rw [HPut.out, Bfs.put, if_pos (by rw [← HQd.out]; exact HKn.out)])
            go_roundg (s.size - j - 1)
            case measure => omega
            case rel => exact ⟨j + 1, by omega, rfl, ⟨by rw [HV.out]; exact hgood2.out⟩, ⟨by rw [HV.out]; exact HQ.out⟩, ⟨by rw [HV.out]; exact HOw.out⟩, HBx, HRd, HSz, HBel⟩
          | false =>
            have HKn := Aside0.mk hkn
            clear hkn
            have HV := Aside0.mk (show Bfs.visit (stepU n a b) p (s.data.toList.take (j + 1)) L = M ++ [(q, p.2 ++ [c])] by rw [HPut.out, Bfs.put, if_neg (by rw [← HQd.out, HKn.out]; decide), ← HQd.out])
            have kc : ∀ W : World, (convert 5 9 (.int .u8 (c.toNat : Int))).run Tryd.prog W = .ok (.string ⟨#[c]⟩) W := fun W => by rw [run_convert_int_string (P := Tryd.prog) W 5 9 .u8 (c.toNat : Int) rfl Tryd.underlying9, encode_ascii c hca]
            have hsum : ¬ 9223372036854775807 < p.2.length + 1 := by have := hgood2.out.short p (List.mem_of_getElem? HPM.out); omega
            have hval := str_snoc p.2 c (by have := hgood2.out.short p (List.mem_of_getElem? HPM.out); omega)
            have HVal := Aside0.mk hval
            have info3 : (Tryd.prog.info? 3).map (fun i => (i.zero, i.size, i.bytes)) = some (some (.int .i64 0), 1, 8) := by kernel_rfl
            clear hval
            go_wp2_with (first | (at_lookup; refine wpList_lookup_own_ok_str _ rfl _ _ 85 rfl 3 9 law Tryd.underlying85 Tryd.underlying9 (search.zeroS _) (w.heap.size + 1) M.length (mapD M) rfl HOw.out _ (.int .i64 q) rfl hkq ⟨#[]⟩ (mapD_at_none M q HKn.out _) false ((mapD_has M q).trans HKn.out) ?_) | (at_lookup; refine wpList_lookup_own_str _ rfl _ _ 85 rfl 3 9 law Tryd.underlying85 Tryd.underlying9 (search.zeroS _) (w.heap.size + 1) M.length (mapD M) rfl HOw.out _ (.int .i64 p.1) rfl hkp ⟨p.2.toArray⟩ (mapD_at M hgood2.out.nodup p.1 p.2 (List.mem_of_getElem? HPM.out) _) ?_) | (at_mapUpdate; refine wpList_mapUpdate_own _ rfl _ _ _ 85 rfl 3 9 law Tryd.underlying85 (plainElem Tryd.prog 9) (w.heap.size + 1) M.length (mapD M) rfl HOw.out (by unfold maxLen; omega) _ _ (.int .i64 q) rfl rfl hkq (.lit (.string (p.2 ++ [c]))) [] HVal.out ?_; intro w3 hown3 hgrow3; have HQ3 := Aside0.mk (Kd.Q_mono (Kd.Q_grown (Kd.Q_bound HQ.out) hgrow3 (fun k hk e => by have h1 := Option.some.inj e; have h2 := hk.1.1; omega)) (ok' := fun k => w.heap.size + 2 ≤ k ∧ k ≠ wo.heap.size) (fun _ h => h.1)); have HB3 := Aside0.mk (HBel.out.grown hgrow3 HBel.out.size (fun k e => by cases e; omega)); have HX3 := Aside0.mk ((hgrow3.block _ (blk_lt HBx.out) (by simp)).trans HBx.out); have HS3 := Aside0.mk (Nat.lt_of_lt_of_le HSz.out hgrow3.size); have HR3 := Aside0.mk (show ∀ j, j < s.size → w3.cell? ⟨wo.heap.size, j, none⟩ = some (.int .u8 (s.data.toList.getD j 0).toNat) from fun j hj => (World.cell?_of_block (hgrow3.block _ HSz.out (by have := hsz.out; simp; omega))).trans (HRd.out j hj)); have HO3 := Aside0.mk hown3; clear hown3 hgrow3) | (at_builtin; refine Kd.Q_append (Kd.int .i64) (w0 := w) w.heap.size rfl (.tmp 55) (.tmp 57) 54 3 (.int .i64 0) 8 rfl Tryd.underlying54 info3 rfl (by decide) (by omega) (.slice (some ⟨g, o, none⟩) m2 cc2) ((M.drop i).map (·.1)) q [.int .i64 q] (fun k => w.heap.size + 2 ≤ k ∧ k ≠ wo.heap.size) (fun _ => False) rfl rfl rfl (fun _ hk => hk.elim) (fun k hk => by have := HS3.out; have := hsz.out; omega) HQ3.out HB3.out (by have := HS3.out; have := hsz.out; omega) (by rw [← HM2.out]; omega) ?_; intro v4 w4 hq4 hb4 hg4 hat4))
            have hown : (w.heap.size + 1) < w3.heap.size := by have := HS3.out; have := hsz.out; omega
            have e1 := hg4.block (w.heap.size + 1) hown (by simp [Value.ownBlock]; omega)
            have e2 := hg4.block w.heap.size (by omega) (by simp [Value.ownBlock]; omega)
            have e3 := hg4.block wo.heap.size HS3.out (by simp [Value.ownBlock]; omega)
            have HO4 := Aside0.mk (owns_same HO3.out e1)
            have HQ4 := Aside0.mk hq4
            go_roundg (s.size - j - 1)
            case measure => omega
            case rel =>
              refine ⟨j + 1, by omega, rfl, ⟨by rw [HV.out, ← HV.out, HPut.out]; exact HG2.out⟩, ⟨?_⟩, ⟨?_⟩, ⟨e2.trans HX3.out⟩, ⟨fun j hj => (World.cell?_of_block e3).trans (HR3.out j hj)⟩, ⟨Nat.lt_of_lt_of_le HS3.out hg4.size⟩, ⟨hb4⟩⟩
              · rw [HV.out, List.drop_append_of_le_length (by omega), List.map_append]
                exact HQ4.out
              · rw [HV.out, mapD_snoc, List.length_append]
                exact HO4.out
        · have dj : decide ((j : Int) < (s.size : Int)) = false := decide_eq_false (by omega)
          have hj0 : j = s.size := by omega
          have hMe : M = Bfs.visit (stepU n a b) p s.data.toList L := by rw [HM.out, hj0, List.take_of_length_le (by omega)]
          have HG3 := Aside0.mk (show Bfs.go (stepU n a b) s.data.toList (64 - i) (i + 1) M = R by rw [hMe, show 64 - i = gq - 1 by omega]; exact HGo.out)
          have hqd := Kd.Q_drop (k := 1) hq2.out (by rw [← HM2.out]; omega)
          rw [← List.map_drop, List.drop_drop] at hqd
          clear hMe
          by_cases hc1 : cc2 = 1
          · subst hc1
            rw [if_pos rfl] at hqd
            have HQd := Aside0.mk (Kd.Q_mono hqd (ok' := fun k => w.heap.size + 2 ≤ k) (fun _ h => h.1))
            clear hqd
            go_wp2_with fail
            go_roundg (64 - i)
            case measure => omega
            case rel => exact ⟨i + 1, M, by omega, by omega, HG3, hgood2, HQd, hown2, hbx2, ⟨by have := hsz.out; have := hsz2.out; omega⟩, hbel2⟩
          · rw [if_neg hc1] at hqd
            have HQd := Aside0.mk (Kd.Q_mono hqd (ok' := fun k => w.heap.size + 2 ≤ k) (fun _ h => h.1))
            clear hqd
            go_wp2_with fail
            go_roundg (64 - i)
            case measure => omega
            case rel => exact ⟨i + 1, M, by omega, by omega, HG3, hgood2, HQd, hown2, hbx2, ⟨by have := hsz.out; have := hsz2.out; omega⟩, hbel2⟩
    · obtain rfl : m = 0 := by omega
      go_wp2_with fail
      go_ret
      refine ⟨w.heap.size + 1, rfl, by omega, ?_, hbel.out⟩
      have := hgo.out
      rw [go_end _ _ _ _ _ (by omega)] at this
      rw [← this]
      exact hown.out
end
section
open Go.Proofs.YtpaeobpmkdekfaaDoor.MapLaws Go.Proofs.YtpaeobpmkdekfaaDoor.Base
theorem searchL_good {n a b : Int} (hk : isKind n a b = true) (s : List UInt8) (t : Int) (ht0 : 0 ≤ t) (ht1 : t < 2 * n) : Bfs.Good n (searchL n a b s t) := by
  have key : ∀ (k i : Nat) (L : Bfs.Met Int), Bfs.Good n L → Bfs.Good n (Bfs.go (stepU n a b) s k i L) := by
    intro k
    induction k with
    | zero => intro i L h; exact h
    | succ k ih =>
      intro i L h
      by_cases hi : i < L.length
      · rw [go_more _ _ _ _ _ hi (by omega)]
        refine ih _ _ ?_
        have hp := List.getElem_mem hi
        generalize L[i] = p at hp
        have vis : ∀ (cs : List UInt8) (M : Bfs.Met Int), Bfs.Good n M → p ∈ M → Bfs.Good n (Bfs.visit (stepU n a b) p cs M) := by
          intro cs
          induction cs with
          | nil => intro M hM _; exact hM
          | cons c cs ihc =>
            intro M hM hpM
            exact ihc _ (Bfs.Good.put hM hpM c (step_range hk _ _)) ((Bfs.put_prefix _ p M c).subset hpM)
        exact vis s L h hp
      · rw [go_end _ _ _ _ _ (by omega)]
        exact h
  exact key _ _ _ (Bfs.Good.start ht0 ht1)
end
end Go.Proofs.YtpaeobpmkdekfaaDoor.P
end

section
namespace Go.Proofs.YtpaeobpmkdekfaaDoor.P
open Go.RowKit Go.Proofs.YtpaeobpmkdekfaaDoorW.PrintWords Go.Proofs.YtpaeobpmkdekfaaDoorW.PrintLast Go.Proofs.YtpaeobpmkdekfaaDoorW.PrintMore
set_option linter.unusedVariables false
set_option linter.unusedSimpArgs false
section
open Go.Proofs.YtpaeobpmkdekfaaDoor.MapLaws Go.Proofs.YtpaeobpmkdekfaaDoor.Base
def triads_Size.f (a0_0 a0_1 a0_2 : Int) : Option (Int × Int) := (triads_Kind_valid.f a0_0 a0_1 a0_2).bind fun v => if v = true then (if isKind a0_0 a0_1 a0_2 = true then some (((searchL a0_0 a0_1 a0_2 [76, 80, 82] 0).length : Int), 0) else none) else some (0, 2)
set_option maxHeartbeats 4000000 in
set_option maxRecDepth 100000 in
theorem triads_Size.calls (a0_0 : Int) (a0_1 : Int) (a0_2 : Int) (r1 : Int) (r2 : Int) (w : World) (h : triads_Size.f a0_0 a0_1 a0_2 = some (r1, r2)) :
    Calls Tryd.prog 35 #[.agg #[.int .i64 a0_0, .int .i64 a0_1, .int .i64 a0_2]] w fun e w' => e = .returned (.tuple #[.int .i64 r1, .int .i64 r2]) ∧ Below w.heap.size w w' := by
  obtain ⟨v, hv, h2⟩ := Option.bind_eq_some_iff.1 h
  have HV := Aside0.mk hv
  have H2 := Aside0.mk h2
  clear h h2 hv
  have HB0 := Aside0.mk (show Below w.heap.size w (w.alloc (.cells #[.int .i64 a0_0, .int .i64 a0_1, .int .i64 a0_2] 27)) from (Below.refl _ w).alloc (Nat.le_refl _) _)
  have HX0 := Aside0.mk (show (w.alloc (.cells #[.int .i64 a0_0, .int .i64 a0_1, .int .i64 a0_2] 27)).heap[w.heap.size]? = some (.cells #[.int .i64 a0_0, .int .i64 a0_1, .int .i64 a0_2] 27 (0, 0)) from World.alloc_heap_new w _)
  go_enter Tryd.func35, Tryd.ntmps35
  go_wp2_with fail
  refine (triads_Kind_valid.calls a0_0 a0_1 a0_2 v _ HV.out).mono ?_
  rintro e W1 ⟨rfl, hb⟩
  have HB1 := Aside0.mk (HB0.out.trans (hb.mono HB0.out.size))
  have HX1 := Aside0.mk ((hb.block _ (blk_lt HX0.out)).trans HX0.out)
  clear hb
  have q0 : W1.cell? ⟨w.heap.size, 0, none⟩ = some (.int .i64 a0_0) := (blk_cell HX1.out 0).trans rfl
  have q1 : W1.cell? ⟨w.heap.size, 1, none⟩ = some (.int .i64 a0_1) := (blk_cell HX1.out 1).trans rfl
  have q2 : W1.cell? ⟨w.heap.size, 2, none⟩ = some (.int .i64 a0_2) := (blk_cell HX1.out 2).trans rfl
  cases v with
  | false =>
    have h3 := H2.out
    rw [if_neg (by decide)] at h3
    obtain ⟨rfl, rfl⟩ : (0 : Int) = r1 ∧ (2 : Int) = r2 := by simpa using h3
    clear h3
    go_wp2_with fail
    go_ret2
    exact ⟨rfl, HB1.out⟩
  | true =>
    have h3 := H2.out
    rw [if_pos rfl] at h3
    by_cases hk : isKind a0_0 a0_1 a0_2 = true
    case neg => rw [if_neg hk] at h3; cases h3
    rw [if_pos hk] at h3
    have hn : 5 ≤ a0_0 := (of_decide_eq_true hk).1
    have HR := Aside0.mk (Option.some.inj h3)
    have HK := Aside0.mk hk
    have HG := Aside0.mk (searchL_good hk [76, 80, 82] 0 (by omega) (by omega))
    clear h3 hk
    go_wp2_with fail
    refine (search_calls HK.out 0 (by omega) (by omega) ⟨#[76, 80, 82]⟩ (by decide) (by decide) W1).mono ?_
    rintro e W2 ⟨B, rfl, hB, hown, hb⟩
    have HB2 := Aside0.mk (HB1.out.trans (hb.mono HB1.out.size))
    have HO := Aside0.mk hown
    clear hb hown
    go_wp2_with (at_len; refine wpList_len_own _ rfl _ 85 rfl 3 9 Tryd.underlying85 _ B _ _ rfl HO.out ?_)
    go_ret2
    have h4 := HR.out
    rw [mapD_size _ HG.out.nodup]
    obtain ⟨rfl, rfl⟩ : ((searchL a0_0 a0_1 a0_2 [76, 80, 82] 0).length : Int) = r1 ∧ (0 : Int) = r2 := by simpa using h4
    exact ⟨rfl, HB2.out⟩
end
end Go.Proofs.YtpaeobpmkdekfaaDoor.P
end

section
namespace Go.Proofs.YtpaeobpmkdekfaaDoor.P
open Go.RowKit Go.Proofs.YtpaeobpmkdekfaaDoorW.PrintWords Go.Proofs.YtpaeobpmkdekfaaDoorW.PrintLast Go.Proofs.YtpaeobpmkdekfaaDoorW.PrintMore
set_option linter.unusedVariables false
set_option linter.unusedSimpArgs false
section
open Go.Proofs.YtpaeobpmkdekfaaDoor.MapLaws Go.Proofs.YtpaeobpmkdekfaaDoor.Base
/-- What a range over a map has handed out. -/
structure Coll (L dn : Bfs.Met Int) (left : Lit → Bool) : Prop where
  nodup : (dn.map (·.1)).Nodup
  sub : ∀ p, p ∈ dn → p ∈ L
  left : ∀ x : Int, left (.int .i64 x) = (Bfs.known L x && !Bfs.known dn x)
theorem Coll.start (L : Bfs.Met Int) : Coll L [] (Maps.has (mapD (H := Unit) L)) where
  nodup := by simp
  sub := by simp
  left := by
    intro x
    rw [mapD_has]
    show _ = (Bfs.known L x && !false)
    rw [Bool.not_false, Bool.and_true]
    rfl
theorem Coll.step {L dn : Bfs.Met Int} {left : Lit → Bool} (h : Coll L dn left) {x : Int} {u : List UInt8} (hx : left (.int .i64 x) = true) (hu : (x, u) ∈ L) : Coll L (dn ++ [(x, u)]) (fun z => left z && !z.sameKey (.int .i64 x)) where
  nodup := by
    rw [List.map_append, List.nodup_append]
    refine ⟨h.nodup, by simp, ?_⟩
    intro y hy z hz e
    obtain rfl : z = x := by simpa using hz
    subst e
    obtain ⟨q, hq, rfl⟩ := List.mem_map.1 hy
    have h1 := h.left q.1
    rw [hx, Bfs.known_iff.2 ⟨q.2, hq⟩] at h1
    simp at h1
  sub := by
    intro p hp
    rcases List.mem_append.1 hp with hp | hp
    · exact h.sub p hp
    · obtain rfl : p = (x, u) := by simpa using hp
      exact hu
  left := by
    intro y
    rw [h.left y, Bfs.known_append]
    have e1 : Bfs.known [(x, u)] y = decide (x = y) := by simp [Bfs.known]
    rw [e1]
    by_cases e : x = y
    · subst e
      have : Lit.sameKey (.int .i64 x) (.int .i64 x) = true := WideAt.sameKey_self (keyLit x)
      rw [this]
      simp
    · have : Lit.sameKey (.int .i64 y) (.int .i64 x) = false := by
        cases hs : Lit.sameKey (.int .i64 y) (.int .i64 x) with
        | false => rfl
        | true =>
          have h1 := WideAt.sameKey_eq hs
          injection h1 with _ h1
          exact absurd h1.symm e
      rw [this, decide_eq_false e]
      simp
theorem nodup_of_keys : ∀ {L : Bfs.Met Int}, (L.map (·.1)).Nodup → L.Nodup
  | [], _ => by simp
  | p :: L, h => by
    rw [List.map_cons, List.nodup_cons] at h
    rw [List.nodup_cons]
    exact ⟨fun hp => h.1 (List.mem_map.2 ⟨p, hp, rfl⟩), nodup_of_keys h.2⟩
theorem key_unique : ∀ {L : Bfs.Met Int}, (L.map (·.1)).Nodup → ∀ {x : Int} {u v : List UInt8}, (x, u) ∈ L → (x, v) ∈ L → u = v
  | [], _, _, _, _, h, _ => by simp at h
  | p :: L, hn, x, u, v, h1, h2 => by
    rw [List.map_cons, List.nodup_cons] at hn
    rcases List.mem_cons.1 h1 with e1 | h1
    · rcases List.mem_cons.1 h2 with e2 | h2
      · rw [← e1] at e2
        injection e2 with _ e2
        exact e2.symm
      · exact absurd (List.mem_map.2 ⟨_, h2, by rw [← e1]⟩) hn.1
    · rcases List.mem_cons.1 h2 with e2 | h2
      · exact absurd (List.mem_map.2 ⟨_, h1, by rw [← e2]⟩) hn.1
      · exact key_unique hn.2 h1 h2
theorem Coll.all {L dn : Bfs.Met Int} {left : Lit → Bool} (h : Coll L dn left) (hn : (L.map (·.1)).Nodup) (h0 : ∀ kl, left kl = false) : dn.Perm L := by
  refine (List.perm_ext_iff_of_nodup (nodup_of_keys h.nodup) (nodup_of_keys hn)).2 ?_
  intro p
  refine ⟨h.sub p, fun hp => ?_⟩
  have h1 := h.left p.1
  rw [h0, Bfs.known_iff.2 ⟨p.2, hp⟩] at h1
  have h2 : Bfs.known dn p.1 = true := by simpa using h1.symm
  obtain ⟨u, hu⟩ := Bfs.known_iff.1 h2
  have e := key_unique hn (h.sub _ hu) hp
  rw [e] at hu
  exact hu
theorem Coll.length {L dn : Bfs.Met Int} {left : Lit → Bool} (h : Coll L dn left) : dn.length ≤ L.length := Bfs.nodup_length dn L (nodup_of_keys h.nodup) h.sub
end
end Go.Proofs.YtpaeobpmkdekfaaDoor.P
end

section
namespace Go.Proofs.YtpaeobpmkdekfaaDoor.P
open Go.RowKit Go.Proofs.YtpaeobpmkdekfaaDoorW.PrintWords Go.Proofs.YtpaeobpmkdekfaaDoorW.PrintLast Go.Proofs.YtpaeobpmkdekfaaDoorW.PrintMore
attribute [local go_sem] max2_int min2_int max_two min_two max_three min_three max_four min_four   -- for this text's walks alone
set_option linter.unusedVariables false
set_option linter.unusedSimpArgs false
end Go.Proofs.YtpaeobpmkdekfaaDoor.P
end

section
namespace Go.Proofs.YtpaeobpmkdekfaaDoor.Base
open Go.RowKit Go.Proofs.YtpaeobpmkdekfaaDoor.P Go.Proofs.YtpaeobpmkdekfaaDoor.Kit Go.Proofs.YtpaeobpmkdekfaaDoorW.PrintWords Go.Proofs.YtpaeobpmkdekfaaDoorW.PrintLast
theorem rd_nat (l : List Int) (i : Nat) (h : i < l.length) : rd l (i : Int) = l[i] := by
  unfold rd
  rw [List.getD_eq_getElem?_getD, show ((i : Int)).toNat = i from Int.toNat_natCast i, List.getElem?_eq_getElem h]
  rfl
end Go.Proofs.YtpaeobpmkdekfaaDoor.Base
end

section
namespace Go.Proofs.YtpaeobpmkdekfaaDoor.Base
open Go.Proofs.YtpaeobpmkdekfaaDoor.P Go.Proofs.YtpaeobpmkdekfaaDoor.Tri
theorem kind_pos {n a b : Int} (hk : isKind n a b = true) : 0 < n := by
  have := (of_decide_eq_true hk).1
  omega
theorem stepU_range {n a b : Int} (hk : isKind n a b = true) (t : Int) (c : UInt8) : 0 ≤ stepU n a b t c ∧ stepU n a b t c < 2 * n := step_range hk t _
/-- The triads, in a list. -/
def all (n : Int) : List Int := (List.range (2 * n).toNat).map fun (x : Nat) => (x : Int)
theorem all_length (n : Int) : (all n).length = (2 * n).toNat := by simp [all]
theorem size_f (n a b : Int) (hn : Int64 n) (ha : Int64 a) (hb : Int64 b) : triads_Size.f n a b = some (if isKind n a b = true then (((searchL n a b [76, 80, 82] 0).length : Int), 0) else (0, 2)) := by
  unfold triads_Size.f
  rw [valid_f n a b hn ha hb]
  simp only [Option.bind_some]
  cases hk : isKind n a b with
  | false => rfl
  | true => rfl
end Go.Proofs.YtpaeobpmkdekfaaDoor.Base
end
