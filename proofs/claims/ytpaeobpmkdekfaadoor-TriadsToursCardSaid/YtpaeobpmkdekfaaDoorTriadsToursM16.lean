/- Texts that the proof of TriadsTours needs, put together in build order by this session's program (wip/tools/claimtrim.py). -/
import Derived.Test.YtpaeobpmkdekfaaDoorTriadsToursM9
import Derived.Test.YtpaeobpmkdekfaaDoorTriadsToursM15
section
namespace Go.Proofs.YtpaeobpmkdekfaaDoor.Base
open Go.RowKit Go.Proofs.YtpaeobpmkdekfaaDoor.P Go.Proofs.YtpaeobpmkdekfaaDoor.Kit Go.Proofs.YtpaeobpmkdekfaaDoorW.PrintWords Go.Proofs.YtpaeobpmkdekfaaDoorW.PrintLast Go.Proofs.YtpaeobpmkdekfaaDoorW.PrintMore Go.Proofs.YtpaeobpmkdekfaaDoor.Tri
/-- The bits of a number below 2 to the 32. -/
def cnt32 (m : Nat) : Nat := (List.range 32).countP fun i => m.testBit i
theorem ones8 : ∀ x : Fin 256, Lib.onesCount x.val = (List.range 8).countP fun i => x.val.testBit i := by decide +kernel
theorem ones_mod (m k : Nat) : Lib.onesCount (m / 2 ^ k % 256) = (List.range 8).countP fun i => m.testBit (k + i) := by
  rw [ones8 ⟨m / 2 ^ k % 256, Nat.mod_lt _ (by decide)⟩]
  refine List.countP_congr ?_
  intro i hi
  have hi8 := List.mem_range.1 hi
  simp only
  rw [show (256 : Nat) = 2 ^ 8 from rfl, Nat.testBit_mod_two_pow, Nat.testBit_div_two_pow, decide_eq_true hi8, Bool.true_and, Nat.add_comm k i]
theorem range32 (p : Nat → Bool) : (List.range 32).countP p = (List.range 8).countP (fun i => p (24 + i)) + (List.range 8).countP (fun i => p (16 + i)) + (List.range 8).countP (fun i => p (8 + i)) + (List.range 8).countP (fun i => p (0 + i)) := by
  simp only [show List.range 32 = [0, 1, 2, 3, 4, 5, 6, 7, 8, 9, 10, 11, 12, 13, 14, 15, 16, 17, 18, 19, 20, 21, 22, 23, 24, 25, 26, 27, 28, 29, 30, 31] from rfl, show List.range 8 = [0, 1, 2, 3, 4, 5, 6, 7] from rfl, List.countP_cons, List.countP_nil, Nat.reduceAdd]
  omega
theorem pop32_cnt (m : Nat) (hm : m < 2 ^ 32) : pop32 m = cnt32 m := by
  unfold pop32 cnt32
  rw [range32, ← ones_mod m 24, ← ones_mod m 16, ← ones_mod m 8, ← ones_mod m 0]
  have h : m / 16777216 < 256 := by omega
  rw [show (2 ^ 24 : Nat) = 16777216 from rfl, Nat.mod_eq_of_lt h, show (2 ^ 16 : Nat) = 65536 from rfl, show (2 ^ 8 : Nat) = 256 from rfl, show (2 ^ 0 : Nat) = 1 from rfl, Nat.div_one]
theorem countP_one (p : Nat → Bool) (v : Nat) : ∀ l : List Nat, l.Nodup → p v = false → l.countP (fun i => p i || decide (v = i)) = l.countP p + if v ∈ l then 1 else 0
  | [], _, _ => rfl
  | x :: l, hn, hp => by
    obtain ⟨h1, h2⟩ := List.nodup_cons.1 hn
    rw [List.countP_cons, List.countP_cons, countP_one p v l h2 hp]
    by_cases e : v = x
    · subst e
      rw [if_neg h1, hp]
      simp
    · rw [decide_eq_false e, Bool.or_false]
      by_cases hv : v ∈ l
      · rw [if_pos hv, if_pos (List.mem_cons_of_mem _ hv)]; omega
      · have hvx : ¬ v ∈ x :: l := fun g => by
          rcases List.mem_cons.1 g with g | g
          · exact e g
          · exact hv g
        rw [if_neg hv, if_neg hvx]
        omega
theorem test_or (m v i : Nat) : (m ||| 2 ^ v).testBit i = (m.testBit i || decide (v = i)) := by
  rw [Nat.testBit_or, Nat.testBit_two_pow]
theorem cnt32_or (m v : Nat) (hv : v < 32) (hm : m.testBit v = false) : cnt32 (m ||| 2 ^ v) = cnt32 m + 1 := by
  unfold cnt32
  simp only [test_or]
  rw [countP_one (fun i => m.testBit i) v _ List.nodup_range hm, if_pos (List.mem_range.2 hv)]
theorem wraps_u32 (n : Int) (h0 : 0 ≤ n) (h1 : n < 2 ^ 32) : IntKind.u32.wrap n = n := by
  show n % 4294967296 = n
  omega
theorem and32 (a b : Nat) (ha : a < 2 ^ 32) (hb : b < 2 ^ 32) : Go.bits .and .u32 (a : Int) (b : Int) = ((a &&& b : Nat) : Int) := (bits_nat .u32 32 (by decide) wraps_u32 a b ha hb).1
theorem or32 (a b : Nat) (ha : a < 2 ^ 32) (hb : b < 2 ^ 32) : Go.bits .or .u32 (a : Int) (b : Int) = ((a ||| b : Nat) : Int) := (bits_nat .u32 32 (by decide) wraps_u32 a b ha hb).2
theorem shl32 (x : Nat) (hx : x < 32) : shl .u32 1 (x : Int) = ((2 ^ x : Nat) : Int) := by
  have h : 2 ^ x < 2 ^ 32 := Nat.pow_lt_pow_right (by decide) hx
  unfold shl
  rw [Int.toNat_natCast, Nat.min_eq_left (by show x ≤ 32; omega), Int.one_mul]
  have e : (2 : Int) ^ x = ((2 ^ x : Nat) : Int) := by simp
  rw [e]
  exact wraps_u32 _ (Int.natCast_nonneg _) (by exact_mod_cast h)
theorem bit32 (s x : Nat) (hs : s < 2 ^ 32) (hx : x < 32) : Go.bits .and .u32 (shr .u32 (s : Int) (x : Int)) 1 = if s.testBit x then 1 else 0 := by
  have e : shr .u32 (s : Int) (x : Int) = ((s / 2 ^ x : Nat) : Int) := by
    unfold shr
    rw [Int.toNat_natCast, Nat.min_eq_left (by show x ≤ 32; omega)]
    simp
  rw [e]
  have h1 : s / 2 ^ x < 2 ^ 32 := Nat.lt_of_le_of_lt (Nat.div_le_self _ _) hs
  have := and32 (s / 2 ^ x) 1 h1 (by decide)
  rw [show ((1 : Nat) : Int) = 1 from rfl] at this
  rw [this, Nat.and_one_is_mod, Nat.testBit_eq_decide_div_mod_eq]
  have h2 : s / 2 ^ x % 2 < 2 := Nat.mod_lt _ (by decide)
  by_cases h : s / 2 ^ x % 2 = 1
  · simp [h]
  · have : s / 2 ^ x % 2 = 0 := by omega
    simp [this]
/-- The letters of a walk that is repeated. -/
def letter (l : List UInt8) (i : Nat) : UInt8 := l.getD (i % l.length) 0
/-- Its first letters. -/
def word (l : List UInt8) (i : Nat) : List UInt8 := (List.range i).map (letter l)
/-- Where it is after some steps. -/
def q (n a b : Int) (l : List UInt8) (i : Nat) : Int := walkI n a b (word l i) 0
theorem q_succ (n a b : Int) (l : List UInt8) (i : Nat) : q n a b l (i + 1) = stepI n a b (q n a b l i) ((letter l i).toNat : Int) := by
  unfold q word
  rw [List.range_succ, List.map_append, walk_append]
  rfl
theorem q_range {n a b : Int} (hn : 0 < n) (l : List UInt8) (i : Nat) : 0 ≤ q n a b l i ∧ q n a b l i < 2 * n := walk_range hn a b _ 0 (by omega) (by omega)
/-- Whether it visits all. -/
def Visits (n a b : Int) (l : List UInt8) : Prop := (∀ i j : Nat, i < j → (j : Int) < 2 * n → q n a b l i ≠ q n a b l j) ∧ q n a b l (2 * n).toNat = 0
theorem tour_l0 {n a b : Int} (hk : isKind n a b = true) (s : ByteArray) (hs : 0 < s.size) (v : Bool) (hv : v = true ↔ Visits n a b s.data.toList) : ∀ (d i m : Nat), i + d = (2 * n).toNat → m < 2 ^ 32 → (∀ x : Nat, x < 32 → (m.testBit x = true ↔ ∃ j, j < i ∧ q n a b s.data.toList j = (x : Int))) → cnt32 m = i → (∀ j k : Nat, j < k → k < i → q n a b s.data.toList j ≠ q n a b s.data.toList k) → Ev (fun k => triads_Kind_tour.l0 k s (m : Int) (q n a b s.data.toList i) (2 * n) (i : Int) n a b) v
  | 0, i, m, hi, hm, hbit, hc, hd => by
    have hn := kind_pos' hk
    have h16 := (of_decide_eq_true hk).2.1
    refine Ev.done fun k => ?_
    simp only [triads_Kind_tour.l0]
    rw [if_neg (by omega)]
    by_cases h0 : q n a b s.data.toList i = 0
    · rw [if_pos h0]
      unfold bits_OnesCount32.f
      rw [if_pos ⟨by omega, by omega⟩, Int.toNat_natCast, pop32_cnt m hm, hc, w64 (x := 2 * n) (by omega) (by omega)]
      have hvt : v = true := hv.2 ⟨fun j k hjk hk2 => hd j k hjk (by omega), by rw [show (2 * n).toNat = i by omega]; exact h0⟩
      rw [hvt]
      simp only [Option.bind_some, Option.some.injEq, beq_iff_eq]
      omega
    · rw [if_neg h0]
      congr 1
      symm
      cases hvv : v with
      | false => rfl
      | true =>
        have := (hv.1 hvv).2
        rw [show (2 * n).toNat = i by omega] at this
        exact absurd this h0
  | d + 1, i, m, hi, hm, hbit, hc, hd => by
    have hn := kind_pos' hk
    have h16 := (of_decide_eq_true hk).2.1
    have hq := q_range (a := a) (b := b) hn s.data.toList i
    obtain ⟨x, hx⟩ : ∃ x : Nat, (x : Int) = q n a b s.data.toList i := ⟨(q n a b s.data.toList i).toNat, by omega⟩
    have hx32 : x < 32 := by omega
    have hb1 := bit32 m x hm hx32
    have hbx := hbit x hx32
    have hll := data_length s
    cases ht : m.testBit x with
    | true =>
      refine Ev.done fun k => ?_
      simp only [triads_Kind_tour.l0]
      rw [if_pos (by omega), if_pos (by omega), ← hx, hb1, ht, if_pos rfl, if_pos rfl]
      congr 1
      symm
      cases hvv : v with
      | false => rfl
      | true =>
        obtain ⟨j, hj, he⟩ := hbx.1 ht
        exact absurd (he.trans hx) ((hv.1 hvv).1 j i hj (by omega))
    | false =>
      have hpow : 2 ^ x < 2 ^ 32 := Nat.pow_lt_pow_right (by decide) hx32
      have hmod : Int.tmod (i : Int) (s.size : Int) = ((i % s.size : Nat) : Int) := by
        rw [Int.tmod_eq_emod_of_nonneg (by omega)]
        simp
      have hlt := Nat.mod_lt i hs
      have hbt := bt_nat s (i % s.size) (by omega)
      have hlet : s.data.toList.getD (i % s.size) 0 = letter s.data.toList i := by unfold letter; rw [hll]
      have hne : ∀ j, j < i → q n a b s.data.toList j ≠ q n a b s.data.toList i := by
        intro j hj e
        have := hbx.2 ⟨j, hj, e.trans hx.symm⟩
        rw [ht] at this
        cases this
      refine Ev.step (fun k => ?_) (tour_l0 hk s hs v hv d (i + 1) (m ||| 2 ^ x) (by omega) (Nat.or_lt_two_pow hm hpow) ?_ (by rw [cnt32_or m x hx32 ht, hc]) ?_)
      · simp only [triads_Kind_tour.l0]
        rw [if_pos (by omega), if_pos (by omega), ← hx, hb1, ht, hmod, if_neg (by decide), if_neg (by omega), if_pos (by omega), if_pos (by omega), hbt, step_f hk (x : Int) _ (by omega) (by omega), hlet, shl32 x hx32, or32 m (2 ^ x) hm hpow, w64 (x := (i : Int) + 1) (by omega) (by omega), q_succ, ← hx]
        rfl
      · intro y hy
        rw [test_or, Bool.or_eq_true, decide_eq_true_eq, hbit y hy]
        constructor
        · rintro (⟨j, hj, e⟩ | e)
          · exact ⟨j, by omega, e⟩
          · exact ⟨i, by omega, by rw [← e]; exact hx.symm⟩
        · rintro ⟨j, hj, e⟩
          by_cases hji : j = i
          · subst hji
            right
            omega
          · exact .inl ⟨j, by omega, e⟩
      · intro j k hjk hk1
        by_cases hki : k = i
        · subst hki
          exact hne j hjk
        · exact hd j k hjk (by omega)
theorem tour_f {n a b : Int} (hk : isKind n a b = true) (s : ByteArray) (hs : 0 < s.size) (v : Bool) (hv : v = true ↔ Visits n a b s.data.toList) : Ev (fun k => triads_Kind_tour.f k n a b s) v := by
  have hn := kind_pos' hk
  have h16 := (of_decide_eq_true hk).2.1
  unfold triads_Kind_tour.f
  rw [w64 (x := 2 * n) (by omega) (by omega)]
  refine tour_l0 hk s hs v hv (2 * n).toNat 0 0 (by omega) (by decide) ?_ (by decide) (fun j k _ h => by omega)
  intro x _
  rw [Nat.zero_testBit]
  constructor
  · intro h; cases h
  · rintro ⟨j, hj, _⟩; omega
/-- What Tour answers. -/
def tourV (n a b : Int) (l : List UInt8) : Bool := !l.isEmpty && (decide ((List.range (2 * n).toNat).map (q n a b l)).Nodup && decide (q n a b l (2 * n).toNat = 0))
theorem tourV_iff (n a b : Int) (l : List UInt8) : tourV n a b l = true ↔ l ≠ [] ∧ Visits n a b l := by
  unfold tourV Visits
  rw [Bool.and_eq_true, Bool.and_eq_true, decide_eq_true_eq, decide_eq_true_eq, Bool.not_eq_true', List.isEmpty_eq_false_iff, List.Nodup, List.pairwise_map, List.pairwise_iff_getElem]
  refine and_congr_right fun _ => and_congr_left fun _ => ?_
  constructor
  · intro h i j hij hj
    have := h i j (by rw [List.length_range]; omega) (by rw [List.length_range]; omega) hij
    rw [List.getElem_range, List.getElem_range] at this
    exact this
  · intro h i j hi hj hij
    rw [List.length_range] at hi hj
    rw [List.getElem_range, List.getElem_range]
    exact h i j hij (by omega)
theorem Tour_f (n a b : Int) (s : ByteArray) (hn : Int64 n) (ha : Int64 a) (hb : Int64 b) : Ev (fun k => triads_Tour.f k n a b s) (if isKind n a b = true then (if isWalkB s = true then (tourV n a b s.data.toList, 0) else (false, 3)) else (false, 2)) := by
  unfold triads_Tour.f
  rw [valid_f n a b hn ha hb]
  simp only [Option.bind_some, isWalk_f]
  cases hk : isKind n a b with
  | false => simp only [Bool.false_eq_true, if_false]; exact Ev.now _
  | true =>
    cases hw : isWalkB s with
    | false => simp only [Bool.false_eq_true, if_false, if_true]; exact Ev.now _
    | true =>
      simp only [if_true]
      have hl := data_length s
      by_cases he : s.toList = []
      · rw [ByteArray.toList_eq] at he
        have : tourV n a b s.data.toList = false := by
          cases h : tourV n a b s.data.toList with
          | false => rfl
          | true => exact absurd he ((tourV_iff n a b _).1 h).1
        rw [this]
        simp only [ByteArray.toList_eq, he, if_true]
        exact Ev.now _
      · rw [ByteArray.toList_eq] at he
        have hs : 0 < s.size := by
          have := List.length_pos_iff.2 he
          omega
        simp only [ByteArray.toList_eq, he, if_false]
        refine Ev.bind (tour_f hk s hs (tourV n a b s.data.toList) ?_) (Ev.now _)
        rw [tourV_iff]
        exact ⟨fun h => h.2, fun h => ⟨he, h⟩⟩
end Go.Proofs.YtpaeobpmkdekfaaDoor.Base
end

section
namespace Go.Proofs.YtpaeobpmkdekfaaDoor.P
open Go.RowKit Go.Proofs.YtpaeobpmkdekfaaDoorW.PrintWords Go.Proofs.YtpaeobpmkdekfaaDoorW.PrintLast Go.Proofs.YtpaeobpmkdekfaaDoorW.PrintMore
set_option linter.unusedVariables false
set_option linter.unusedSimpArgs false
section
open Go.Shelf Go.Proofs.YtpaeobpmkdekfaaDoor.Base
/-- The method value, called. -/
theorem tour_any {n a b : Int} (hk : isKind n a b = true) (s : ByteArray) (hs : 0 < s.size) (t : Bool) (ht : tourV n a b s.data.toList = t) (w : World) :
    Calls Tryd.prog 62 #[.agg #[.int .i64 n, .int .i64 a, .int .i64 b], .string s] w fun e w' => e = .returned (.bool t) ∧ Below w.heap.size w w' := by
  subst ht
  obtain ⟨k, hk2⟩ := tour_f hk s hs (tourV n a b s.data.toList) (by
    rw [tourV_iff]
    refine ⟨fun h => h.2, fun h => ⟨?_, h⟩⟩
    intro e
    have : s.data.toList.length = 0 := by rw [e]; rfl
    have h2 := data_length s
    omega)
  exact triads_Kind_tour.calls k n a b s _ w (hk2 k (Nat.le_refl _))
/-- What IndexFunc says: the first that visits all, or that none does. -/
def IdxSays (n a b : Int) (l : List ByteArray) (w : World) (e : Ending) (w' : World) : Prop :=
  ((∃ (i : Nat) (h : i < l.length), e = .returned (.int .i64 (i : Int)) ∧ l.find? (fun s => tourV n a b s.data.toList) = some l[i]) ∨ (e = .returned (.int .i64 (-1)) ∧ l.find? (fun s => tourV n a b s.data.toList) = none)) ∧ Below w.heap.size w w'
theorem find_at {α : Type} (P : α → Bool) (l : List α) (i : Nat) (h : i < l.length) (hb : ∀ j (hj : j < l.length), j < i → P l[j] = false) (hp : P l[i] = true) : l.find? P = some l[i] := by
  induction l generalizing i with
  | nil => simp at h
  | cons x l ih =>
    cases i with
    | zero => simp only [List.getElem_cons_zero] at hp ⊢; rw [List.find?_cons_of_pos hp]
    | succ i =>
      have h0 := hb 0 (by simp) (by omega)
      simp only [List.getElem_cons_zero] at h0
      rw [List.find?_cons_of_neg (by rw [h0]; decide)]
      simp only [List.getElem_cons_succ] at hp ⊢
      refine ih i (by simpa using h) ?_ hp
      intro j hj hji
      have := hb (j + 1) (by simpa using hj) (by omega)
      simpa using this
theorem find_none {α : Type} (P : α → Bool) (l : List α) (hb : ∀ j (hj : j < l.length), P l[j] = false) : l.find? P = none := by
  rw [List.find?_eq_none]
  intro x hx
  obtain ⟨j, hj, rfl⟩ := List.mem_iff_getElem.1 hx
  rw [hb j hj]
  decide
set_option maxHeartbeats 1000000 in
set_option maxRecDepth 100000 in
theorem idx_calls {n a b : Int} (hk : isKind n a b = true) (A : Option Addr) (c : Nat) (l : List ByteArray) (hl : ∀ s, s ∈ l → 0 < s.size) (hlen : l.length ≤ 1000000) (w : World) (hC : Kd.C Kd.string w A l.length l) :
    Calls Tryd.prog 63 #[.slice A l.length c, .func (.func 62) #[.agg #[.int .i64 n, .int .i64 a, .int .i64 b]] #[]] w (IdxSays n a b l w) := by
  have HC := Aside0.mk hC
  have HL := Aside0.mk hl
  have HK := Aside0.mk hk
  clear hC hl hk
  go_enter Tryd.func63, Tryd.ntmps63
  go_wp2_with fail
  go_loopw [8] (fun v wr => ∃ k : Nat, v = .int .i64 (k : Int) ∧ k ≤ l.length ∧ Aside0 (Below w.heap.size w wr) ∧ Aside0 (∀ j (hj : j < l.length), j < k → tourV n a b (l[j]).data.toList = false)) (fun v _ => l.length + 1 - (intOf v).toNat)
  case atStart => exact ⟨0, rfl, by omega, ⟨Below.refl _ _⟩, ⟨fun j hj h => by omega⟩⟩
  case round =>
    obtain ⟨k, rfl, hkl, hB, hF⟩ := hrel
    by_cases hlt : k < l.length
    · obtain ⟨ad, hA, hcell⟩ := Kd.at_string (Kd.C_below HC.out hB.out) (k : Int) (by omega) (by omega)
      have hrd : rdOf ByteArray.empty l (k : Int) = l[k] := by
        unfold rdOf
        rw [Int.toNat_natCast, List.getD_eq_getElem?_getD, List.getElem?_eq_getElem hlt]
        rfl
      rw [hrd, Int.toNat_natCast] at hcell
      subst hA
      have hlt' : decide ((k : Int) < (l.length : Int)) = true := decide_eq_true (by omega)
      have hlt2 : (k : Int) < (l.length : Int) := by omega
      obtain ⟨s, hs⟩ : ∃ s, s = l[k] := ⟨_, rfl⟩
      rw [← hs] at hcell
      have HS := Aside0.mk hs
      have hpos : 0 < s.size := by rw [hs]; exact HL.out _ (List.getElem_mem hlt)
      clear hrd hs
      obtain ⟨t, ht⟩ : ∃ t, t = tourV n a b s.data.toList := ⟨_, rfl⟩
      have HT := Aside0.mk ht
      clear ht
      cases t with
      | true =>
        go_wp2_with (go_at_call 62; refine (tour_any HK.out s hpos _ HT.out.symm _).mono ?_; rintro e w' ⟨rfl, hb⟩; have hb' := Aside0.mk hb; clear hb)
        go_ret
        refine ⟨.inl ⟨k, hlt, rfl, ?_⟩, hB.out.trans (hb'.out.mono hB.out.size)⟩
        exact find_at _ l k hlt hF.out (by rw [← HS.out]; exact HT.out.symm)
      | false =>
        go_wp2_with (go_at_call 62; refine (tour_any HK.out s hpos _ HT.out.symm _).mono ?_; rintro e w' ⟨rfl, hb⟩; have hb' := Aside0.mk hb; clear hb)
        go_roundw
        case rel =>
          refine ⟨k + 1, by go_num, by omega, ⟨hB.out.trans (hb'.out.mono hB.out.size)⟩, ⟨fun j hj hjk => ?_⟩⟩
          by_cases e : j = k
          · subst e
            rw [← HS.out]
            exact HT.out.symm
          · exact hF.out j hj (by omega)
        case measure => simp [intOf]; omega
    · obtain rfl : k = l.length := by omega
      go_wp2_with fail
      go_ret
      exact ⟨.inr ⟨rfl, find_none _ l (fun j hj => hF.out j hj hj)⟩, hB.out⟩
end
end Go.Proofs.YtpaeobpmkdekfaaDoor.P
end
