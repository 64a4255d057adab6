/- Texts that the proof of EvenSpreads needs, put together in build order by this session's program (wip/tools/claimtrim.py). -/
import Derived.Test.YthbcdmbicfmeaaaEvenSpreadsM5
import Derived.Test.YthbcdmbicfmeaaaEvenSpreadsM6
import Derived.Deep.RegionHeld3
import Derived.Deep.RegionLaw
section
namespace Go.Proofs.Ythbcdmbicfmeaaa.P
open Go.RowKit Go.Proofs.YthbcdmbicfmeaaaW.PrintWords Go.Proofs.YthbcdmbicfmeaaaW.PrintLast Go.Proofs.YthbcdmbicfmeaaaW.PrintMore
def mnI (x y : Int) : Int := if y < x then y else x
theorem min2_mn (k k' : IntKind) (x y : Int) : Builtin.min2 (.int k x) (.int k' y) = pure (.int k (mnI x y)) := min2_int k k' x y
attribute [local go_sem] min2_mn min_two
set_option linter.unusedVariables false
set_option linter.unusedSimpArgs false
/-- The groups, joined: a of the first sort, b of the second. -/
def joined : Nat → Nat → Nat → List Int → List Int → List Int
  | 0, a, b, x, y => (List.replicate a x ++ List.replicate b y).flatten
  | f + 1, a, b, x, y => if 2 ≤ b then joined f (min a b) (max a b - min a b) (x ++ y) (if b < a then x else y) else (List.replicate a x ++ List.replicate b y).flatten
def even_Strokes.f (a0 a1 : Int) : Option (List Int × Int) := (even_isCircle.f a0).bind fun v => if v = true ∧ 1 ≤ a1 ∧ a1 ≤ a0 then (if 2 ≤ a0 ∧ a0 ≤ 16 then some (joined a0.toNat a1.toNat (a0 - a1).toNat [1] [0], 0) else none) else some ([], 2)
/-- What the two slices are, while the groups are joined. -/
structure Ph (W : World) (base g a : Nat) (fs : List (List Int)) (A2 : Option Addr) (b cb : Nat) (y : List Int) : Prop where
  blk : ∃ cur : Array Value, W.heap[g]? = some (.cells cur 54 (0, 0))
  hb : base ≤ g
  fst : G.C W (some ⟨g, 0, none⟩) a fs
  snd : G.C W A2 b (List.replicate b y)
  cap : b ≤ cb
  ne : ∀ ad, A2 = some ad → ad.block ≠ g
theorem Ph.below {W W' : World} {base g a : Nat} {fs : List (List Int)} {A2 : Option Addr} {b cb : Nat} {y : List Int} (h : Ph W base g a fs A2 b cb y) (hb : Below W.heap.size W W') : Ph W' base g a fs A2 b cb y := by
  obtain ⟨cur, hc⟩ := h.blk
  exact ⟨⟨cur, (hb.block _ (blk_lt hc)).trans hc⟩, h.hb, Kd.C_below h.fst hb, Kd.C_below h.snd hb, h.cap, h.ne⟩
theorem flat_le : ∀ (L : List (List Int)) (n : Nat), L.length ≤ n → (∀ l, l ∈ L → l.length ≤ 16) → L.flatten.length ≤ n * 16
  | [], _, _, _ => by simp
  | l :: L, n, h, hl => by
    obtain ⟨n, rfl⟩ : ∃ m, n = m + 1 := ⟨n - 1, by simp at h; omega⟩
    have h1 := flat_le L n (by simpa using h) (fun l hx => hl l (List.mem_cons_of_mem _ hx))
    have h2 := hl l List.mem_cons_self
    rw [List.flatten_cons, List.length_append]
    omega
theorem set_rep {z x : List Int} {m i : Nat} (h : i < m) : (List.replicate i z ++ List.replicate (m - i) x).set i z = List.replicate (i + 1) z ++ List.replicate (m - (i + 1)) x := by
  rw [List.set_append_right _ _ (by rw [List.length_replicate]; omega), List.length_replicate, Nat.sub_self, show m - i = m - (i + 1) + 1 by omega, List.replicate_succ, List.set_cons_zero, List.replicate_succ', List.append_assoc]
  rfl
theorem Ph.store {W : World} {base g m i : Nat} {x y : List Int} {A2 : Option Addr} {b cb : Nat} {A5 : Option Addr} {c5 : Nat} {q : Value} (h : Ph W base g m (List.replicate i (x ++ y) ++ List.replicate (m - i) x) A2 b cb y) (hi : i < m) (hq : W.cell? ⟨g, i, none⟩ = some q) (hq' : ∀ z, q ≠ .int .i64 z) (hC : (Kd.int .i64).C W A5 (x ++ y).length (x ++ y)) (hl : (x ++ y).length ≤ c5) :
    Ph (W.setCell ⟨g, i, none⟩ (.slice A5 (x ++ y).length c5)) base g m (List.replicate (i + 1) (x ++ y) ++ List.replicate (m - (i + 1)) x) A2 b cb y := by
  obtain ⟨cur, hcur⟩ := h.blk
  refine ⟨⟨_, heap_setCell_same W g i cur 54 _ hcur⟩, h.hb, ?_, G_set_other hq hq' h.ne h.snd, h.cap, h.ne⟩
  rw [← set_rep hi]
  exact G_set_at hi h.fst hC hl
theorem lit_R (W : World) (base : Nat) (hb : base ≤ W.heap.size) (x : Int) : (Kd.int .i64).R 3 (W.alloc (.cells #[.int .i64 x] 3)) base (fun k => k = W.heap.size) (.slice (some ⟨W.heap.size, 0, none⟩) 1 1) [x] := by
  refine ⟨fun k hk => ?_, [.int .i64 x], ⟨rfl, .inr ⟨W.heap.size, 1, #[.int .i64 x], rfl, hb, World.alloc_heap_new _ _, Nat.le_refl _, by decide, rfl, rfl⟩⟩, Reps.one (show Kd.M (Kd.int .i64) _ _ _ x [.int .i64 x] from rfl) (Reps.none _ _)⟩
  obtain rfl : W.heap.size = k := by simpa [Value.ownBlock] using hk
  rfl
set_option maxHeartbeats 8000000 in
set_option maxRecDepth 100000 in
theorem even_Strokes.calls (a0 : Int) (a1 : Int) (r1 : List Int) (r2 : Int) (w : World) (h : even_Strokes.f a0 a1 = some (r1, r2)) :
    Calls Try.prog 23 #[.int .i64 a0, .int .i64 a1] w fun e w' => ∃ v0_ : Value, e = .returned (.tuple #[v0_, .int .i64 r2]) ∧ Kd.R (Kd.int .i64) 3 w' w.heap.size (fun _ => True) v0_ r1 ∧ Below w.heap.size w w' := by
  obtain ⟨v, hv, h2⟩ := Option.bind_eq_some_iff.1 h
  have info54 : (Try.prog.info? 54).map (fun i => (i.zero, i.size, i.bytes)) = some (some (.slice none 0 0), 1, 24) := by kernel_rfl
  have HV := Aside0.mk hv
  have H2 := Aside0.mk h2
  clear h h2 hv
  by_cases hok : v = true ∧ 1 ≤ a1 ∧ a1 ≤ a0
  case neg =>
    have h3 := H2.out
    rw [if_neg hok] at h3
    obtain ⟨rfl, rfl⟩ : ([] : List Int) = r1 ∧ (2 : Int) = r2 := by simpa using h3
    clear h3 H2
    cases v with
    | false =>
      clear hok
      go_enter Try.func23, Try.ntmps23
      go_wp2_with (go_at_call 47; refine (even_isCircle.calls _ false _ HV.out).mono ?_; rintro e w' ⟨rfl, ⟨nd, rfl⟩⟩)
      go_ret2
      exact ⟨_, rfl, Kd.R_nil _ _ _ _ _, pw_below_drewN (Below.refl _ _) _⟩
    | true =>
      by_cases c1 : a1 < 1
      · have d1 : decide (a1 < 1) = true := decide_eq_true c1
        clear hok
        go_enter Try.func23, Try.ntmps23
        go_wp2_with (go_at_call 47; refine (even_isCircle.calls _ true _ HV.out).mono ?_; rintro e w' ⟨rfl, ⟨nd, rfl⟩⟩)
        go_ret2
        exact ⟨_, rfl, Kd.R_nil _ _ _ _ _, pw_below_drewN (Below.refl _ _) _⟩
      · have c2 : a0 < a1 := by
          have := not_and.1 hok rfl
          omega
        have d1 : decide (a1 < 1) = false := decide_eq_false c1
        have d2 : decide (a0 < a1) = true := decide_eq_true c2
        clear hok
        go_enter Try.func23, Try.ntmps23
        go_wp2_with (go_at_call 47; refine (even_isCircle.calls _ true _ HV.out).mono ?_; rintro e w' ⟨rfl, ⟨nd, rfl⟩⟩)
        go_ret2
        exact ⟨_, rfl, Kd.R_nil _ _ _ _ _, pw_below_drewN (Below.refl _ _) _⟩
  have h3 := H2.out
  rw [if_pos hok] at h3
  by_cases h16 : 2 ≤ a0 ∧ a0 ≤ 16
  case neg => rw [if_neg h16] at h3; cases h3
  rw [if_pos h16] at h3
  obtain ⟨hr1, rfl⟩ : joined a0.toNat a1.toNat (a0 - a1).toNat [1] [0] = r1 ∧ (0 : Int) = r2 := by simpa using h3
  obtain ⟨rfl, h1, h1'⟩ := hok
  obtain ⟨h2a, h2b⟩ := h16
  obtain ⟨n, rfl⟩ : ∃ n : Nat, a0 = (n : Int) := ⟨a0.toNat, by omega⟩
  obtain ⟨k, rfl⟩ : ∃ k : Nat, a1 = (k : Int) := ⟨a1.toNat, by omega⟩
  have hn16 : n ≤ 16 := by omega
  have hk1 : 1 ≤ k := by omega
  have hkn : k ≤ n := by omega
  have HR := Aside0.mk hr1
  have d1 : ¬ (k : Int) < 1 := by omega
  have d2 : ¬ (n : Int) < (k : Int) := by omega
  have d3 : decide ((k : Int) < 1) = false := decide_eq_false d1
  have d4 : decide ((n : Int) < (k : Int)) = false := decide_eq_false d2
  have d5 : decide (n < k) = false := decide_eq_false (by omega)
  have HB := Aside0.mk (Below.refl w.heap.size w)
  clear h3 hr1 H2 h1 h1' h2a h2b
  go_enter Try.func23, Try.ntmps23
  go_wp2_with (go_at_call 47; refine (even_isCircle.calls _ true _ HV.out).mono ?_; rintro e w' ⟨rfl, ⟨nd, rfl⟩⟩)
  have hB1 : Below w.heap.size w (w.drewN nd) := pw_below_drewN (Below.refl _ _) _
  obtain ⟨w1, hw1⟩ : ∃ w1, w1 = w.drewN nd := ⟨_, rfl⟩
  rw [← hw1] at hB1 ⊢
  have HB1 := Aside0.mk hB1
  clear hw1 hB1
  go_loopg [6, 7, 28] n (fun gk u v c wr => ∃ i : Nat, gk + i = n ∧ c = .int .i64 (i : Int) ∧ Aside0 (Kd.R G 54 wr w.heap.size (fun b => True ∧ some b ≠ v.ownBlock) u (List.replicate (min i k) [1])) ∧ Aside0 (Kd.R G 54 wr w.heap.size (fun b => True ∧ some b ≠ u.ownBlock) v (List.replicate (i - k) [0])) ∧ Aside0 (Below w.heap.size w wr))
  case atStart =>
    refine ⟨0, by omega, rfl, ⟨?_⟩, ⟨?_⟩, HB1⟩
    · rw [Nat.zero_min]; exact Kd.R_nil _ _ _ _ _
    · rw [Nat.zero_sub]; exact Kd.R_nil _ _ _ _ _
  case round =>
    obtain ⟨i, hgi, rfl, hU, hV, hB⟩ := hrel
    obtain ⟨Au, cu, hu, hlu, _⟩ := Kd.R_reads hU.out
    obtain ⟨Av, cv, hv, hlv, _⟩ := Kd.R_reads hV.out
    obtain ⟨mu, hmu⟩ : ∃ m, m = (List.replicate (min i k) [(1 : Int)]).length := ⟨_, rfl⟩
    obtain ⟨mv, hmv⟩ : ∃ m, m = (List.replicate (i - k) [(0 : Int)]).length := ⟨_, rfl⟩
    rw [← hmu] at hu hlu
    rw [← hmv] at hv hlv
    have HMu := Aside0.mk hmu
    have HMv := Aside0.mk hmv
    clear hmu hmv
    subst hu
    subst hv
    by_cases hin : i < n
    · by_cases hik : i < k
      · have e1 : List.replicate (min (i + 1) k) [(1 : Int)] = List.replicate (min i k) [1] ++ [[1]] := by
          rw [show min (i + 1) k = min i k + 1 by omega, List.replicate_succ']
        have e2 : i + 1 - k = i - k := by omega
        have E1 := Aside0.mk e1
        have E2 := Aside0.mk e2
        clear e1 e2
        have HLt := Aside0.mk (fun b (hb : Value.ownBlock (.slice Av mv cv) = some b) => Kd.R_lt hV.out b hb)
        have HLt2 := Aside0.mk (fun b (hb : Value.ownBlock (.slice Au mu cu) = some b) => Kd.R_lt hU.out b hb)
        have HL := Aside0.mk (show (List.replicate (min i k) [(1 : Int)]).length + 1 ≤ 20 by rw [List.length_replicate]; omega)
        go_wp2_with (at_builtin; go_loud (refine Kd.R_append G (w0 := w) w.heap.size rfl (.tmp 34) (.tmp 36) 53 54 (.slice none 0 0) 24 rfl Try.underlying53 info54 rfl Nat.one_pos (by omega) (.slice Au mu cu) (List.replicate (min i k) [1]) [1] [.slice (some ⟨wr.heap.size, 0, none⟩) 1 1] (fun b => True ∧ some b ≠ Value.ownBlock (.slice Av mv cv)) (fun b => b = wr.heap.size) rfl (by show Value.slice (some ⟨wr.heap.size + 1, 0, none⟩) 1 1 = _; rw [World.size_alloc]) ⟨_, rfl, lit_R wr w.heap.size hB.out.size 1⟩ (fun b hb => ⟨⟨trivial, fun e => by have := HLt.out b e.symm; omega⟩, fun e => by have := HLt2.out b e.symm; omega⟩) (fun b hb => ⟨trivial, fun e => by have := HLt.out b e.symm; simp at hb; omega⟩) (Kd.R_alloc hU.out _) (hB.out.alloc hB.out.size _) (hB.out.alloc hB.out.size _).size (by have := HL.out; omega) ?_); intro v7 w7 hq7 hb7 hg7 hat7; have HQ7 := Aside0.mk hq7; have HB7 := Aside0.mk hb7; have HO7 := Aside0.mk (Kd.R_after (Kd.R_alloc hV.out _) hg7 hat7); clear hq7 hb7 hg7 hat7)
        go_roundg (n - (i + 1))
        case measure => omega
        case rel => exact ⟨i + 1, by omega, by go_num, ⟨by rw [E1.out]; exact HQ7.out⟩, ⟨by rw [E2.out]; exact HO7.out⟩, HB7⟩
      · have e1 : List.replicate (i + 1 - k) [(0 : Int)] = List.replicate (i - k) [0] ++ [[0]] := by
          rw [show i + 1 - k = i - k + 1 by omega, List.replicate_succ']
        have e2 : min (i + 1) k = min i k := by omega
        have E1 := Aside0.mk e1
        have E2 := Aside0.mk e2
        clear e1 e2
        have HLt := Aside0.mk (fun b (hb : Value.ownBlock (.slice Au mu cu) = some b) => Kd.R_lt hU.out b hb)
        have HLt2 := Aside0.mk (fun b (hb : Value.ownBlock (.slice Av mv cv) = some b) => Kd.R_lt hV.out b hb)
        have HL := Aside0.mk (show (List.replicate (i - k) [(0 : Int)]).length + 1 ≤ 20 by rw [List.length_replicate]; omega)
        go_wp2_with (at_builtin; go_loud (refine Kd.R_append G (w0 := w) w.heap.size rfl (.tmp 38) (.tmp 40) 53 54 (.slice none 0 0) 24 rfl Try.underlying53 info54 rfl Nat.one_pos (by omega) (.slice Av mv cv) (List.replicate (i - k) [0]) [0] [.slice (some ⟨wr.heap.size, 0, none⟩) 1 1] (fun b => True ∧ some b ≠ Value.ownBlock (.slice Au mu cu)) (fun b => b = wr.heap.size) rfl (by show Value.slice (some ⟨wr.heap.size + 1, 0, none⟩) 1 1 = _; rw [World.size_alloc]) ⟨_, rfl, lit_R wr w.heap.size hB.out.size 0⟩ (fun b hb => ⟨⟨trivial, fun e => by have := HLt.out b e.symm; omega⟩, fun e => by have := HLt2.out b e.symm; omega⟩) (fun b hb => ⟨trivial, fun e => by have := HLt.out b e.symm; simp at hb; omega⟩) (Kd.R_alloc hV.out _) (hB.out.alloc hB.out.size _) (hB.out.alloc hB.out.size _).size (by have := HL.out; omega) ?_); intro v7 w7 hq7 hb7 hg7 hat7; have HQ7 := Aside0.mk hq7; have HB7 := Aside0.mk hb7; have HO7 := Aside0.mk (Kd.R_after (Kd.R_alloc hU.out _) hg7 hat7); clear hq7 hb7 hg7 hat7)
        go_roundg (n - (i + 1))
        case measure => omega
        case rel => exact ⟨i + 1, by omega, by go_num, ⟨by rw [E2.out]; exact HO7.out⟩, ⟨by rw [E1.out]; exact HQ7.out⟩, HB7⟩
    · obtain rfl : n = i := by omega
      have hph : ∃ g ca, Value.slice Au mu cu = .slice (some ⟨g, 0, none⟩) k ca ∧ k ≤ ca ∧ Ph wr w.heap.size g k (List.replicate k [1]) Av mv cv [0] := by
        have e1 : min n k = k := by omega
        have hU' := hU.out
        rw [e1] at hU'
        obtain ⟨g, ca, hv8, hgb, hglt, cells, hcells⟩ := Kd.R_form hU' (by rw [List.length_replicate]; omega)
        rw [List.length_replicate] at hv8
        obtain ⟨A', c', e3, hl3, hC3⟩ := Kd.R_reads hU'
        rw [List.length_replicate] at e3 hl3 hC3
        obtain ⟨A4, c4, e4, hl4, hC4⟩ := Kd.R_reads hV.out
        have hne := hV.out.1
        rw [hv8] at hne
        have e5 : A' = some ⟨g, 0, none⟩ := by rw [hv8] at e3; injection e3 with e6 _ _; exact e6.symm
        have e7 : A4 = Av := by injection e4 with e6 _ _; exact e6.symm
        have e8 : mv = n - k := by rw [HMv.out, List.length_replicate]
        have e9 : c' = ca := by rw [hv8] at e3; injection e3 with _ _ e6; exact e6.symm
        rw [e5] at hC3
        rw [e7, List.length_replicate] at hC4
        refine ⟨g, ca, hv8, by rw [← e9]; exact hl3, ⟨⟨cells, hcells⟩, hgb, hC3, by rw [e8]; exact hC4, hlv, ?_⟩⟩
        rintro ad rfl
        have h9 := (hne ad.block rfl).2
        intro e10
        exact h9 (by rw [e10]; rfl)
      obtain ⟨g, ca, hvu, hka, hph⟩ := hph
      rw [hvu]
      have hmv : mv = n - k := by rw [HMv.out, List.length_replicate]
      have hj : joined n k mv [1] [0] = r1 := by
        have h9 := HR.out
        rw [Int.toNat_natCast, Int.toNat_natCast, show ((n : Int) - (k : Int)).toNat = mv by omega] at h9
        exact h9
      have HPh := Aside0.mk hph
      have HJ := Aside0.mk hj
      have HSum := Aside0.mk (show k * ([1] : List Int).length + mv * ([0] : List Int).length ≤ 16 by simp; omega)
      clear hvu hph hj hU hV HMu HMv HR
      go_wp2_with fail
      go_loopg [6, 7] n (fun gk u v wr => ∃ (g a ca : Nat) (A2 : Option Addr) (b cb : Nat) (x y : List Int), u = .slice (some ⟨g, 0, none⟩) a ca ∧ v = .slice A2 b cb ∧ a + b ≤ gk ∧ 1 ≤ a ∧ a + b ≤ 16 ∧ a ≤ ca ∧ Aside0 (Ph wr w.heap.size g a (List.replicate a x) A2 b cb y) ∧ Aside0 (joined gk a b x y = r1) ∧ Aside0 (a * x.length + b * y.length ≤ 16) ∧ Aside0 (Below w.heap.size w wr))
      case atStart => exact ⟨g, k, ca, Av, mv, cv, [1], [0], rfl, rfl, by omega, hk1, by omega, hka, HPh, HJ, HSum, hB⟩
      case round =>
        clear HPh HJ HSum hB
        obtain ⟨g, a, ca, A2, b, cb, x, y, rfl, rfl, hgk, ha1, hab, haca, hP, hJ, hS, hB⟩ := hrel
        obtain ⟨gq, rfl⟩ : ∃ gq : Nat, gq = gk := ⟨_, rfl⟩
        by_cases hb2 : 2 ≤ b
        · obtain ⟨m, hm⟩ : ∃ m, m = min a b := ⟨_, rfl⟩
          have hmin : mnI (a : Int) (b : Int) = (m : Int) := by
            unfold mnI
            by_cases h : b < a
            · rw [if_pos (by omega)]; omega
            · rw [if_neg (by omega)]; omega
          have hbi : decide ((2 : Int) ≤ (b : Int)) = true := decide_eq_true (by omega)
          have hbi2 : (2 : Int) ≤ (b : Int) := by omega
          have hma : m ≤ a := by omega
          have hmb : m ≤ b := by omega
          have hm1 : 1 ≤ m := by omega
          have HM := Aside0.mk hm
          clear hm
          obtain ⟨A1', hr1, hc1⟩ := cut_rows (some ⟨g, 0, none⟩) a ca m hma haca
          obtain ⟨A2', hr2, hc2⟩ := cut_rows A2 b cb m hmb hP.out.cap
          have HX := Aside0.mk (hc1 _ _ hP.out.fst)
          have HY := Aside0.mk (hc2 _ _ hP.out.snd)
          rw [List.drop_replicate] at HX HY
          have l1 : (List.replicate (a - m) x).length = a - m := List.length_replicate
          have l2 : (List.replicate (b - m) y).length = b - m := List.length_replicate
          obtain ⟨na, hna⟩ : ∃ na, na = a - m := ⟨_, rfl⟩
          obtain ⟨nb, hnb⟩ : ∃ nb, nb = b - m := ⟨_, rfl⟩
          rw [← hna] at hr1 HX l1
          rw [← hnb] at hr2 HY l2
          have hct := fun (w : World) (B : Nat) hblk hx hy => concat_rows A1' A2' (ca - m) (cb - m) (List.replicate na x) (List.replicate nb y) (by omega) (by omega) w B hblk hx hy
          rw [l1, l2] at hct
          have HCt := Aside0.mk hct
          have HNa := Aside0.mk hna
          have HNb := Aside0.mk hnb
          clear hc1 hc2 hct l1 l2 hna hnb
          go_wp2_with fail
          go_region_held3 (fun W => Below wr.heap.size wr W) ((first | exact Below.refl _ _ | exact below_drew (Below.refl _ _) | exact below_alloc (below_drew (Below.refl _ _)) _ | exact (below_drew (below_alloc (Below.refl _ _) _)).trans (hb.mono (by simp))))
            ((go_at_call 49; refine (HCt.out (wr.alloc (.cells #[.slice A1' na (ca - m), .slice A2' nb (cb - m)] 53)).drew _ (World.alloc_heap_new wr _) (Kd.C_below HX.out (below_drew (below_alloc (Below.refl _ _) _))) (Kd.C_below HY.out (below_drew (below_alloc (Below.refl _ _) _)))).mono ?_; rintro e w3 ⟨vl, rfl, hvl, hb⟩))
          have hb3 : Below wr.heap.size wr w3 := (below_drew (below_alloc (Below.refl _ _) _)).trans (hb.mono (by simp))
          obtain ⟨A3, c3, rfl, hl3, hC3, hA3⟩ := hvl
          have HP3 := Aside0.mk (hP.out.below hb3)
          have HC3 := Aside0.mk hC3
          have HA3 := Aside0.mk (show ∀ ad, A3 = some ad → ad.block ≠ g from fun ad had => by
            have h1 := hA3 ad had
            obtain ⟨cur, hcur⟩ := hP.out.blk
            have h2 := blk_lt hcur
            simp at h1
            omega)
          have HB3 := Aside0.mk (hB.out.trans (hb3.mono hB.out.size))
          obtain ⟨nl, hnl⟩ : ∃ nl, nl = (List.replicate na x ++ List.replicate nb y).length := ⟨_, rfl⟩
          rw [← hnl] at hl3 HC3 ⊢
          have HNl := Aside0.mk hnl
          clear hb hb3 hC3 hA3 hr1 hr2 hnl
          have HPm := Aside0.mk (show Ph w3 w.heap.size g m (List.replicate 0 (x ++ y) ++ List.replicate (m - 0) x) A2 b cb y from by
            refine ⟨HP3.out.blk, HP3.out.hb, ?_, HP3.out.snd, HP3.out.cap, HP3.out.ne⟩
            have h1 : G.C w3 (some ⟨g, 0, none⟩) (List.replicate a x).length (List.replicate a x) := by rw [List.length_replicate]; exact HP3.out.fst
            have h3 := Kd.C_take h1 (m := m) (by rw [List.length_replicate]; omega)
            rw [List.take_replicate, List.length_replicate, show min m a = m by omega] at h3
            simpa using h3)
          go_wp2
          go_loopg [65] m (fun gk c W => ∃ i : Nat, gk + i = m ∧ c = .int .i64 (i : Int) ∧ Aside0 (Ph W w.heap.size g m (List.replicate i (x ++ y) ++ List.replicate (m - i) x) A2 b cb y) ∧ Aside0 (G.C W A3 nl (List.replicate na x ++ List.replicate nb y)) ∧ Aside0 (Below w.heap.size w W))
          case atStart => exact ⟨0, rfl, rfl, HPm, HC3, HB3⟩
          case round =>
            clear HP3 HPm HC3 HB3 HX HY HCt
            obtain ⟨i, hgi, rfl, hP4, hC4, hB4⟩ := hrel
            by_cases him : i < m
            · obtain ⟨ad1, Ax, cx, e1, hcf, hlx, hCx⟩ := G_cell hP4.out.fst i him
              obtain ⟨ad2, Ay, cy, e2, hcs, hly, hCy⟩ := G_cell hP4.out.snd i (by omega)
              have g1 : (List.replicate i (x ++ y) ++ List.replicate (m - i) x).getD i [] = x := by
                rw [List.getD_eq_getElem?_getD, List.getElem?_append_right (by rw [List.length_replicate]; omega), List.length_replicate, Nat.sub_self, List.getElem?_replicate, if_pos (by omega)]
                rfl
              have g2 : (List.replicate b y).getD i [] = y := by
                rw [List.getD_eq_getElem?_getD, List.getElem?_replicate, if_pos (by omega)]
                rfl
              rw [g1] at hcf hlx hCx
              rw [g2] at hcs hly hCy
              have e3 : ad1 = ⟨g, 0, none⟩ := by injection e1 with e1; exact e1.symm
              rw [e3, add_nil] at hcf
              subst e2
              have HCx := Aside0.mk hCx
              have HCy := Aside0.mk hCy
              have hlen : x.length ≤ 16 ∧ y.length ≤ 16 := by
                have h1 := hS.out
                have h2 : x.length ≤ a * x.length := Nat.le_mul_of_pos_left _ (by omega)
                have h3 : y.length ≤ b * y.length := Nat.le_mul_of_pos_left _ (by omega)
                omega
              have hct := fun (w : World) (B : Nat) hblk hx hy => concat_ints Ax Ay cx cy x y (by omega) (by omega) w B hblk hx hy
              obtain ⟨lx, hlxe⟩ : ∃ l, l = x.length := ⟨_, rfl⟩
              obtain ⟨ly, hlye⟩ : ∃ l, l = y.length := ⟨_, rfl⟩
              rw [← hlxe] at hcf hct HCx
              rw [← hlye] at hcs hct HCy
              have HCt := Aside0.mk hct
              have HLx := Aside0.mk hlxe
              have HLy := Aside0.mk hlye
              have b1 := World.block_lt_of_cell? _ _ hcf
              have b2 := World.block_lt_of_cell? _ _ hcs
              have hfz : wr.frozen? ⟨g, i, none⟩ = false := by
                obtain ⟨cur, hcur⟩ := hP4.out.blk
                exact blk_frozen hcur i
              have hK : ∀ W, Below wr.heap.size wr W → W.cell? ⟨g, i, none⟩ = some (.slice Ax lx cx) ∧ W.cell? (ad2.add i) = some (.slice Ay ly cy) ∧ W.frozen? ⟨g, i, none⟩ = false ∧ Below wr.heap.size wr W := fun W hb => ⟨(hb.cell b1).trans hcf, (hb.cell b2).trans hcs, (hb.frozen b1).trans hfz, hb⟩
              have HK := Aside0.mk hK
              clear hfz
              have i0 : (0 : Int) ≤ (i : Int) := by omega
              have i1 : (i : Int) < (m : Int) := by omega
              have i2 : (i : Int) < (b : Int) := by omega
              have i3 : decide ((i : Int) < (m : Int)) = true := decide_eq_true i1
              have i4 : i < b := by omega
              clear hct hlxe hlye hK hlx hly hCx hCy g1 g2 e3 e1 b1 b2 hlen
              go_wp2_with fail
              go_region_law ((go_simp; go_at_call 50; refine (HCt.out (wr.alloc (.cells #[.slice Ax lx cx, .slice Ay ly cy] 54)).drew _ (World.alloc_heap_new wr _) (Kd.C_below HCx.out (below_drew (below_alloc (Below.refl _ _) _))) (Kd.C_below HCy.out (below_drew (below_alloc (Below.refl _ _) _)))).mono ?_; rintro e w5 ⟨vz, rfl, ⟨A5, c5, rfl, hl5, hC5, hA5⟩, hb⟩; have hb5 := Aside0.mk ((below_drew (below_alloc (Below.refl _ _) _)).trans (hb.mono (by simp)) : Below wr.heap.size wr w5); have s1 := (HK.out _ hb5.out).1; have s2 := (HK.out _ hb5.out).2.2.1; clear hb))
              all_goals
                have P5 := hP4.out.below hb5.out
                have hPn := P5.store him s1 (fun z e => by cases e) hC5 hl5
                have hCn := G_set_other (u := .slice A5 (x ++ y).length c5) s1 (fun z e => by cases e) HA3.out (Kd.C_below hC4.out hb5.out)
                have hBn := (hB4.out.trans (hb5.out.mono hB4.out.size)).setCell (p := ⟨g, i, none⟩) P5.hb (.slice A5 (x ++ y).length c5)
                rw [List.length_append] at hPn hCn hBn
                have HPn := Aside0.mk hPn
                have HCn := Aside0.mk hCn
                have HBn := Aside0.mk hBn
                clear P5 hPn hCn hBn hC5 hl5 hA5 s1 s2 hcf hcs
                go_wp2
                go_roundg (m - (i + 1))
                case measure => omega
                case rel => exact ⟨i + 1, by omega, by go_num, HPn, HCn, HBn⟩
            · obtain rfl : m = i := by omega
              have hne : nl = max a b - min a b := by
                have h1 := HNl.out
                have h2 := HNa.out
                have h3 := HNb.out
                have h4 := HM.out
                rw [List.length_append, List.length_replicate, List.length_replicate] at h1
                omega
              have hrep : List.replicate na x ++ List.replicate nb y = List.replicate nl (if b < a then x else y) := by
                have h1 := HNl.out
                have h2 := HNa.out
                have h3 := HNb.out
                have h4 := HM.out
                rw [List.length_append, List.length_replicate, List.length_replicate] at h1
                by_cases h : b < a
                · rw [if_pos h, show nb = 0 by omega, show nl = na by omega]
                  simp
                · rw [if_neg h, show na = 0 by omega, show nl = nb by omega]
                  simp
              have hCl := hC4.out
              rw [hrep] at hCl
              have hfst := hP4.out.fst
              rw [Nat.sub_self, List.replicate_zero, List.append_nil] at hfst
              have HPn := Aside0.mk (show Ph wr w.heap.size g m (List.replicate m (x ++ y)) A3 nl c3 (if b < a then x else y) from ⟨hP4.out.blk, hP4.out.hb, hfst, hCl, hl3, HA3.out⟩)
              have HJn := Aside0.mk (show joined (gq - 1) m nl (x ++ y) (if b < a then x else y) = r1 from by
                have h1 := hJ.out
                rw [show gq = (gq - 1) + 1 by omega, joined, if_pos hb2, ← hne, ← HM.out] at h1
                exact h1)
              have HSn := Aside0.mk (show m * (x ++ y).length + nl * (if b < a then x else y).length ≤ 16 from by
                have h1 := hS.out
                have h4 := HM.out
                rw [List.length_append, Nat.mul_add]
                by_cases h : b < a
                · rw [if_pos h]
                  have e1 : m = b := by omega
                  have e2 : nl = a - b := by omega
                  rw [e1, e2, Nat.sub_mul]
                  have := Nat.mul_le_mul_right x.length (show b ≤ a by omega)
                  omega
                · rw [if_neg h]
                  have e1 : m = a := by omega
                  have e2 : nl = b - a := by omega
                  rw [e1, e2, Nat.sub_mul]
                  have := Nat.mul_le_mul_right y.length (show a ≤ b by omega)
                  omega)
              have hlt1 : m + nl < a + b := by
                have h4 := HM.out
                omega
              clear hne hrep hCl hfst
              go_wp2_with fail
              go_roundg (gq - 1)
              case measure => omega
              case rel => exact ⟨g, m, m, A3, nl, c3, x ++ y, (if b < a then x else y), rfl, rfl, by omega, hm1, by omega, Nat.le_refl _, HPn, HJn, HSn, hB4⟩
        · have hres : (List.replicate a x ++ List.replicate b y).flatten = r1 := by
            rw [← hJ.out, show gq = (gq - 1) + 1 by omega, joined, if_neg hb2]
          have HRes := Aside0.mk hres
          have l1 : (List.replicate a x).length = a := List.length_replicate
          have l2 : (List.replicate b y).length = b := List.length_replicate
          have hct := fun (w : World) (B : Nat) hblk hx hy => concat_rows (some ⟨g, 0, none⟩) A2 ca cb (List.replicate a x) (List.replicate b y) (by omega) (by omega) w B hblk hx hy
          rw [l1, l2] at hct
          have HCt := Aside0.mk hct
          have hbi : decide ((2 : Int) ≤ (b : Int)) = false := decide_eq_false (by omega)
          have hbi2 : ¬ (2 : Int) ≤ (b : Int) := by omega
          have hlen : ∀ l, l ∈ List.replicate a x ++ List.replicate b y → l.length ≤ 16 := by
            intro l hl
            have h1 := hS.out
            rcases List.mem_append.1 hl with h | h
            · rw [List.eq_of_mem_replicate h]
              have h2 : x.length ≤ a * x.length := Nat.le_mul_of_pos_left _ (by omega)
              omega
            · have hb := List.mem_replicate.1 h
              rw [hb.2]
              have h3 : y.length ≤ b * y.length := Nat.le_mul_of_pos_left _ (by omega)
              omega
          have HLen := Aside0.mk hlen
          clear hres l1 l2 hct hlen
          go_wp2_with (go_at_call 49; refine (HCt.out (wr.alloc (.cells #[.slice (some ⟨g, 0, none⟩) a ca, .slice A2 b cb] 53)) _ (World.alloc_heap_new wr _) (Kd.C_alloc hP.out.fst _) (Kd.C_alloc hP.out.snd _)).mono ?_; rintro e w6 ⟨vl, rfl, ⟨A7, c7, rfl, hl7, hC7, hA7⟩, hb⟩; have hb6 := Aside0.mk ((below_alloc (Below.refl _ _) _).trans (hb.mono (by simp)) : Below wr.heap.size wr w6); have hC7' := Aside0.mk hC7; obtain ⟨nz, hnz⟩ : ∃ nz, nz = (List.replicate a x ++ List.replicate b y).length := ⟨_, rfl⟩; rw [← hnz] at hl7 hC7' ⊢; have HNz := Aside0.mk hnz; clear hb hC7 hA7 hnz)
          obtain ⟨L, hLd⟩ : ∃ L, L = List.replicate a x ++ List.replicate b y := ⟨_, rfl⟩
          rw [← hLd] at HLen HNz HRes hC7'
          have hL16 : L.length ≤ 16 := by rw [hLd, List.length_append, List.length_replicate, List.length_replicate]; omega
          have HL16 := Aside0.mk hL16
          have HB6 := Aside0.mk (hB.out.trans (hb6.out.mono hB.out.size))
          clear hLd hL16 hP hJ hS hB hb6
          go_loopg [12, 88] nz (fun gk v c W => ∃ j : Nat, gk + j = nz ∧ c = .int .i64 (j : Int) ∧ Aside0 (Kd.R (Kd.int .i64) 3 W w6.heap.size (fun _ => True) v (L.take j).flatten) ∧ Aside0 (Below w6.heap.size w6 W))
          case atStart => exact ⟨0, by omega, rfl, ⟨Kd.R_nil _ _ _ _ _⟩, ⟨Below.refl _ _⟩⟩
          case round =>
            obtain ⟨j, hgj, rfl, hO, hbl⟩ := hrel
            obtain ⟨Ao, co, ho, hlo, _⟩ := Kd.R_reads hO.out
            obtain ⟨mo, hmo⟩ : ∃ m, m = ((L.take j).flatten).length := ⟨_, rfl⟩
            rw [← hmo] at ho hlo
            have HMo := Aside0.mk hmo
            clear hmo
            subst ho
            by_cases hj : j < nz
            · have hjL : j < L.length := by have := HNz.out; omega
              have hj16 : j ≤ 16 := by have := HL16.out; omega
              obtain ⟨ad, Ag, cg, e1, hcell, hlg, hCg⟩ := G_cell (Kd.C_below hC7'.out hbl.out) j hj
              subst e1
              have hgd : L.getD j [] = L[j] := by rw [List.getD_eq_getElem?_getD, List.getElem?_eq_getElem hjL]; rfl
              have htk : (L.take (j + 1)).flatten = (L.take j).flatten ++ L.getD j [] := by
                rw [List.take_succ_eq_append_getElem hjL, List.flatten_append, hgd]
                simp
              have hl16 : (L.getD j []).length ≤ 16 := by rw [hgd]; exact HLen.out _ (List.getElem_mem hjL)
              obtain ⟨l, hle⟩ : ∃ l, l = L.getD j [] := ⟨_, rfl⟩
              rw [← hle] at hcell hlg hCg htk hl16
              obtain ⟨lg, hlge⟩ : ∃ n, n = l.length := ⟨_, rfl⟩
              rw [← hlge] at hcell hlg hCg hl16
              have HCg := Aside0.mk hCg
              have HTk := Aside0.mk htk
              have HBd := Aside0.mk (show (L.take j).flatten.length ≤ 16 * 16 from flat_le (L.take j) 16 (by rw [List.length_take]; have := HL16.out; omega) (fun l hl => HLen.out l (List.mem_of_mem_take hl)))
              have i0 : (0 : Int) ≤ (j : Int) := by omega
              have i1 : (j : Int) < (nz : Int) := by omega
              have i2 : decide ((j : Int) < (nz : Int)) = true := decide_eq_true i1
              clear hgd htk hle hlge hCg
              go_wp2_with (at_builtin; go_loud (refine R_append_group (w0 := w6) w6.heap.size rfl (.tmp 92) (.tmp 93) rfl (.slice Ao mo co) (L.take j).flatten l Ag lg cg (fun _ => True) rfl rfl (fun _ _ => trivial) hO.out HCg.out hbl.out hbl.out.size (by have := HBd.out; omega) ?_); intro v7 w7 hq7 hb7; have HQ7 := Aside0.mk hq7; have HB7 := Aside0.mk hb7; clear hq7 hb7)
              go_roundg (nz - (j + 1))
              case measure => omega
              case rel => exact ⟨j + 1, by omega, by go_num, ⟨by rw [HTk.out]; exact HQ7.out⟩, HB7⟩
            · have hall : (L.take j).flatten = r1 := by rw [List.take_of_length_le (by have := HNz.out; omega)]; exact HRes.out
              have HAll := Aside0.mk hall
              have i1 : ¬ (j : Int) < (nz : Int) := by omega
              have i2 : decide ((j : Int) < (nz : Int)) = false := decide_eq_false i1
              clear hall
              go_wp2_with fail
              go_ret2
              have hR := hO.out
              rw [HAll.out] at hR
              exact ⟨_, rfl, Kd.R_lower hR HB6.out.size, HB6.out.trans (hbl.out.mono HB6.out.size)⟩
end Go.Proofs.Ythbcdmbicfmeaaa.P
end

section
namespace Go.Proofs.Ythbcdmbicfmeaaa.P
open Go.RowKit Go.Proofs.YthbcdmbicfmeaaaW.PrintWords Go.Proofs.YthbcdmbicfmeaaaW.PrintLast Go.Proofs.YthbcdmbicfmeaaaW.PrintMore
attribute [local go_sem] max2_int min2_int max_two min_two max_three min_three max_four min_four   -- for this text's walks alone
set_option linter.unusedVariables false
set_option linter.unusedSimpArgs false
def slices_Equal_int_int.l0 : Nat → List Int → List Int → Int → Int → Option (Bool)
  | 0, _, _, _, _ => none
  | k + 1, x0, x1, x12, x13 => if x13 < x12 then (if 0 ≤ x13 then (if x13 < (x0.length : Int) then (if x13 < (x1.length : Int) then (if (rd x0 x13) = (rd x1 x13) then (slices_Equal_int_int.l0 k x0 x1 x12 (wrap64 (x13 + 1))) else (some false)) else (none)) else (none)) else (none)) else (some true)
def slices_Equal_int_int.f (k : Nat) (l0 : List Int) (l1 : List Int) : Option (Bool) := if (l0.length : Int) = (l1.length : Int) then (slices_Equal_int_int.l0 k l0 l1 (l0.length : Int) 0) else (some false)
set_option maxHeartbeats 8000000 in
set_option maxRecDepth 100000 in
theorem slices_Equal_int_int.calls (k : Nat) (A0 : Option Addr) (c0 : Nat) (l0 : List Int) (A1 : Option Addr) (c1 : Nat) (l1 : List Int) (r : Bool) (w : World) (hr0 : Kd.C (Kd.int .i64) w A0 l0.length l0) (hc0 : l0.length ≤ c0) (hr1 : Kd.C (Kd.int .i64) w A1 l1.length l1) (hc1 : l1.length ≤ c1) (h : slices_Equal_int_int.f k l0 l1 = some r) :
    Calls Try.prog 24 #[.slice A0 l0.length c0, .slice A1 l1.length c1] w fun e w' => e = .returned (.bool r) ∧ Drawn0 w w' := by
  have HR0 := Aside0.mk hr0
  have HC0 := Aside0.mk hc0
  clear hr0 hc0
  have HR1 := Aside0.mk hr1
  have HC1 := Aside0.mk hc1
  clear hr1 hc1
  have H : (if (l0.length : Int) = (l1.length : Int) then (slices_Equal_int_int.l0 k l0 l1 (l0.length : Int) 0) else (some false)) = some r := h
  clear h
  by_cases c3 : (l0.length : Int) = (l1.length : Int)
  · rw [if_pos c3] at H
    have c3b0 : ((l0.length : Int) == (l1.length : Int)) = true := beq_iff_eq.mpr c3
    have c3b1 : ((l0.length : Int) != (l1.length : Int)) = false := bne_eq_false_iff_eq.mpr c3
    have c3b2 : (l0.length == l1.length) = true := by first | simpa using c3 | (simp at c3 ⊢; omega)
    clear c3
    have H' := Aside0.mk H
    clear H
    go_enter Try.func24, Try.ntmps24
    go_wp2
    repeat (go_quiet (fail); try go_wp2)
    go_loopg [13] k (fun kq v13 w' => ∃ (x13_1 : Int), v13 = .int .i64 x13_1 ∧ Aside0 (slices_Equal_int_int.l0 kq l0 l1 (l0.length : Int) x13_1 = some r) ∧ Aside0 (kq ≤ k) ∧ Drawn0 w w')
    case atStart => exact ⟨(0), (by first | rfl | (simp; done) | (simp [*]; done)), H', ⟨Nat.le_refl _⟩, by repeat (first | exact Drawn0.refl _ | apply Drawn0.step)⟩
    case round =>
      clear H'
      try clear c1
      try clear c2
      try clear p2
      try clear c3
      try clear c3b0
      try clear c3b1
      try clear c3b2
      obtain ⟨x13_1, rfl, HA, HK1, ⟨m1, rfl⟩⟩ := hrel
      cases gk with
      | zero => exact absurd HA.out (by simp [slices_Equal_int_int.l0])
      | succ k1 =>
        have H := HA.out
        clear HA
        simp only [slices_Equal_int_int.l0] at H
        by_cases c4 : x13_1 < (l0.length : Int)
        · rw [if_pos c4] at H
          have c4b0 : decide (x13_1 < (l0.length : Int)) = true := decide_eq_true c4
          clear c4
          by_cases c5 : 0 ≤ x13_1
          · rw [if_pos c5] at H
            have c5b0 : decide (0 ≤ x13_1) = true := decide_eq_true c5
            clear c5
            by_cases c6 : x13_1 < (l0.length : Int)
            · rw [if_pos c6] at H
              have c6b0 : decide (x13_1 < (l0.length : Int)) = true := decide_eq_true c6
              clear c6
              by_cases c7 : x13_1 < (l1.length : Int)
              · rw [if_pos c7] at H
                have c7b0 : decide (x13_1 < (l1.length : Int)) = true := decide_eq_true c7
                clear c7
                by_cases c8 : (rd l0 x13_1) = (rd l1 x13_1)
                · rw [if_pos c8] at H
                  have c8b0 : ((rd l0 x13_1) == (rd l1 x13_1)) = true := beq_iff_eq.mpr c8
                  have c8b1 : ((rd l0 x13_1) != (rd l1 x13_1)) = false := bne_eq_false_iff_eq.mpr c8
                  clear c8
                  have H' := Aside0.mk H
                  clear H
                  have p161 : 0 ≤ (x13_1 : Int) := of_decide_eq_true (by first | (with_reducible assumption) | assumption)
                  have q161 : x13_1 < (l0.length : Int) := of_decide_eq_true (by first | (with_reducible assumption) | assumption)
                  obtain ⟨ad161, e161, hx161_0⟩ := Kd.at_int HR0.out x13_1 p161 q161
                  cases e161
                  replace p161 := eq_true p161
                  replace q161 := eq_true q161
                  have p162 : 0 ≤ (x13_1 : Int) := of_decide_eq_true (by first | (with_reducible assumption) | assumption)
                  have q162 : x13_1 < (l1.length : Int) := of_decide_eq_true (by first | (with_reducible assumption) | assumption)
                  obtain ⟨ad162, e162, hx162_0⟩ := Kd.at_int HR1.out x13_1 p162 q162
                  cases e162
                  replace p162 := eq_true p162
                  replace q162 := eq_true q162
                  go_wp2
                  repeat (go_quiet (fail); try go_wp2)
                  go_roundg k1
                  case measure => have := HK1.out; omega
                  case rel => exact ⟨(wrap64 (x13_1 + 1)), (by first | rfl | (simp; done) | (simp [*]; done)), H', ⟨by have := HK1.out; omega⟩, by repeat (first | exact Drawn0.refl _ | apply Drawn0.step)⟩
                · rw [if_neg c8] at H
                  have c8b0 : ((rd l0 x13_1) == (rd l1 x13_1)) = false := beq_eq_false_iff_ne.mpr c8
                  have c8b1 : ((rd l0 x13_1) != (rd l1 x13_1)) = true := bne_iff_ne.mpr c8
                  obtain rfl := Option.some.inj H
                  have p161 : 0 ≤ (x13_1 : Int) := of_decide_eq_true (by first | (with_reducible assumption) | assumption)
                  have q161 : x13_1 < (l0.length : Int) := of_decide_eq_true (by first | (with_reducible assumption) | assumption)
                  obtain ⟨ad161, e161, hx161_0⟩ := Kd.at_int HR0.out x13_1 p161 q161
                  cases e161
                  replace p161 := eq_true p161
                  replace q161 := eq_true q161
                  have p162 : 0 ≤ (x13_1 : Int) := of_decide_eq_true (by first | (with_reducible assumption) | assumption)
                  have q162 : x13_1 < (l1.length : Int) := of_decide_eq_true (by first | (with_reducible assumption) | assumption)
                  obtain ⟨ad162, e162, hx162_0⟩ := Kd.at_int HR1.out x13_1 p162 q162
                  cases e162
                  replace p162 := eq_true p162
                  replace q162 := eq_true q162
                  go_wp2
                  repeat (go_quiet (fail); try go_wp2)
                  go_ret
                  exact ⟨by first | rfl | (simp; done) | (simp [*]; done), by repeat (first | exact Drawn0.refl _ | apply Drawn0.step)⟩
              · rw [if_neg c7] at H
                exact absurd H (by simp)
            · rw [if_neg c6] at H
              exact absurd H (by simp)
          · rw [if_neg c5] at H
            exact absurd H (by simp)
        · rw [if_neg c4] at H
          have c4b0 : decide (x13_1 < (l0.length : Int)) = false := decide_eq_false c4
          clear c4
          obtain rfl := Option.some.inj H
          go_wp2
          repeat (go_quiet (fail); try go_wp2)
          go_ret
          exact ⟨by first | rfl | (simp; done) | (simp [*]; done), by repeat (first | exact Drawn0.refl _ | apply Drawn0.step)⟩
  · rw [if_neg c3] at H
    have c3b0 : ((l0.length : Int) == (l1.length : Int)) = false := beq_eq_false_iff_ne.mpr c3
    have c3b1 : ((l0.length : Int) != (l1.length : Int)) = true := bne_iff_ne.mpr c3
    have c3b2 : (l0.length == l1.length) = false := by first | simpa using c3 | (simp at c3 ⊢; omega)
    obtain rfl := Option.some.inj H
    go_enter Try.func24, Try.ntmps24
    go_wp2
    repeat (go_quiet (fail); try go_wp2)
    go_ret
    exact ⟨by first | rfl | (simp; done) | (simp [*]; done), by repeat (first | exact Drawn0.refl _ | apply Drawn0.step)⟩

mutual
def sackbutref03_Strokes.l0 : Nat → List Int → List Int → Int → Int → Option (List Int)
  | 0, _, _, _, _ => none
  | k + 1, x5, x6, x7, x8 => if x8 > 1 then ((some (([] : List Int) : List Int)).bind fun y169 => (if y169.length + x5.length < 17592186044416 then ((some (y169 ++ x5 : List Int)).bind fun y172 => (if y172.length + x6.length < 17592186044416 then ((some (y172 ++ x6 : List Int)).bind fun y175 => (if x7 > x8 then (sackbutref03_Strokes.l0 k y175 x5 (mn x7 x8) (wrap64 ((mx x7 x8) - (mn x7 x8)))) else (sackbutref03_Strokes.l0 k y175 x6 (mn x7 x8) (wrap64 ((mx x7 x8) - (mn x7 x8)))))) else (none))) else (none))) else (sackbutref03_Strokes.l1 k x5 x6 x8 ([] : List Int) x7 0)
def sackbutref03_Strokes.l1 : Nat → List Int → List Int → Int → List Int → Int → Int → Option (List Int)
  | 0, _, _, _, _, _, _ => none
  | k + 1, x5, x6, x8, x11, x39, x40 => if x40 < x39 then (if x11.length + x5.length < 17592186044416 then (sackbutref03_Strokes.l1 k x5 x6 x8 (x11 ++ x5) x39 (wrap64 (x40 + 1))) else (none)) else (sackbutref03_Strokes.l2 k x6 x11 x8 0)
def sackbutref03_Strokes.l2 : Nat → List Int → List Int → Int → Int → Option (List Int)
  | 0, _, _, _, _ => none
  | k + 1, x6, x11, x46, x47 => if x47 < x46 then (if x11.length + x6.length < 17592186044416 then (sackbutref03_Strokes.l2 k x6 (x11 ++ x6) x46 (wrap64 (x47 + 1))) else (none)) else (some x11)
end
def sackbutref03_Strokes.f (k : Nat) (a0 : Int) (a1 : Int) : Option (List Int) := sackbutref03_Strokes.l0 k (([1] : List Int)) (([0] : List Int)) a1 (wrap64 (a0 - a1))
set_option maxHeartbeats 8000000 in
set_option maxRecDepth 100000 in
theorem sackbutref03_Strokes.calls (k : Nat) (a0 : Int) (a1 : Int) (r : List Int) (w : World) (h : sackbutref03_Strokes.f k a0 a1 = some r) :
    Calls Try.prog 25 #[.int .i64 a0, .int .i64 a1] w fun e w' => ∃ v0_ : Value, e = .returned (v0_) ∧ Kd.R (Kd.int .i64) 3 w' w.heap.size (fun _ => True) v0_ r ∧ Below w.heap.size w w' := by
  have HB := Aside0.mk (Below.refl w.heap.size w)
  have H : (sackbutref03_Strokes.l0 k (([1] : List Int)) (([0] : List Int)) a1 (wrap64 (a0 - a1))) = some r := h
  clear h
  obtain ⟨y163, hy163⟩ : ∃ y_ : List Int, y_ = (([1] : List Int)) := ⟨_, rfl⟩
  replace H : (sackbutref03_Strokes.l0 k y163 (([0] : List Int)) a1 (wrap64 (a0 - a1))) = some r := by first | (rw [hy163]; with_reducible exact H) | (have H2_ := (Option.bind_some _ _).symm.trans H; rw [hy163]; with_reducible exact H2_) | (have H2_ := (Option.bind_some _ _).symm.trans H; with_reducible exact H2_) | with_reducible exact H | (rw [hy163]; exact H) | exact H
  have Ny163 := Aside0.mk hy163
  clear hy163
  obtain ⟨y166, hy166⟩ : ∃ y_ : List Int, y_ = (([0] : List Int)) := ⟨_, rfl⟩
  replace H : (sackbutref03_Strokes.l0 k y163 y166 a1 (wrap64 (a0 - a1))) = some r := by first | (rw [hy166]; with_reducible exact H) | (have H2_ := (Option.bind_some _ _).symm.trans H; rw [hy166]; with_reducible exact H2_) | (have H2_ := (Option.bind_some _ _).symm.trans H; with_reducible exact H2_) | with_reducible exact H | (rw [hy166]; exact H) | exact H
  have Ny166 := Aside0.mk hy166
  clear hy166
  have H' := Aside0.mk H
  clear H
  go_enter Try.func25, Try.ntmps25
  go_wp2_with (first | ((with_reducible refine gate_dst (N := 12) rfl ?_); refine Kd.R_lit (Kd.int .i64) _ 3 ?hg (N := 12) ?hd (xs := ([1] : List Int)) (inner := [.int .i64 1]) (ok := fun _ => True) (okp := fun _ => True) ?hr ?hp (fun _ hk => hk) trivial (Below.refl _ _) (Nat.le_refl _) (by simp) ?_; (case hd => rfl); (case hg => rfl); (case hr => first | (go_simp; done) | (go_simp; rfl)); (case hp => exact (Reps.one (show Kd.M (Kd.int .i64) _ _ _ 1 [.int .i64 1] from rfl) (Reps.none _ _))); intro v164 w3 ho4 hb hg_ hnew_; clear hg_ hnew_; (first | rw [← Ny163.out] at ho4 | (simp only [Int.reduceToNat] at ho4; rw [← Ny163.out] at ho4)); have n0_ := Aside0.mk (Kd.R_lower ho4 (below_size (by repeat (first | (with_reducible first | exact HB.out | apply below_alloc | apply pw_below_drewN | apply below_drew1) | exact HB.out)))); have n1_ := Aside0.mk (below_step (by repeat (first | (with_reducible first | exact HB.out | apply below_alloc | apply pw_below_drewN | apply below_drew1) | exact HB.out)) hb); clear HB; have HO165 := n0_; have HB := n1_; clear n0_ n1_; clear hb ho4) | ((with_reducible refine gate_dst (N := 13) rfl ?_); refine Kd.R_lit (Kd.int .i64) _ 3 ?hg (N := 13) ?hd (xs := ([0] : List Int)) (inner := [.int .i64 0]) (ok := fun _ => True) (okp := fun _ => True) ?hr ?hp (fun _ hk => hk) trivial (Below.refl _ _) (Nat.le_refl _) (by simp) ?_; (case hd => rfl); (case hg => rfl); (case hr => first | (go_simp; done) | (go_simp; rfl)); (case hp => exact (Reps.one (show Kd.M (Kd.int .i64) _ _ _ 0 [.int .i64 0] from rfl) (Reps.none _ _))); intro v167 w5 ho6 hb hg_ hnew_; clear hg_ hnew_; (first | rw [← Ny166.out] at ho6 | (simp only [Int.reduceToNat] at ho6; rw [← Ny166.out] at ho6)); have n0_ := Aside0.mk (Kd.R_elder' (by (with_reducible repeat (first | apply Kd.R_alloc | apply Kd.R_drewN | apply Kd.R_drew)); exact HO165.out) (Kd.R_base ho6) hb); have n1_ := Aside0.mk (Kd.R_lower (Kd.R_new' ho6 (Kd.R_lt (by (with_reducible repeat (first | apply Kd.R_alloc | apply Kd.R_drewN | apply Kd.R_drew)); exact HO165.out))) (below_size (by repeat (first | (with_reducible first | exact HB.out | apply below_alloc | apply pw_below_drewN | apply below_drew1) | exact HB.out)))); have n2_ := Aside0.mk (below_step (by repeat (first | (with_reducible first | exact HB.out | apply below_alloc | apply pw_below_drewN | apply below_drew1) | exact HB.out)) hb); clear HO165; clear HB; have HO165 := n0_; have HO168 := n1_; have HB := n2_; clear n0_ n1_ n2_; clear hb ho6))
  go_loopg [5, 6, 7, 8] k (fun kq v5 v6 v7 v8 w' => ∃ (x5_1 : List Int) (x6_1 : List Int) (x7_1 : Int) (x8_1 : Int), v7 = .int .i64 x7_1 ∧ v8 = .int .i64 x8_1 ∧ Aside0 (sackbutref03_Strokes.l0 kq x5_1 x6_1 x7_1 x8_1 = some r) ∧ Aside0 (kq ≤ k) ∧ Aside0 (Kd.R (Kd.int .i64) 3 w' w.heap.size (fun k_ => some k_ ≠ (v6 : Value).ownBlock) v5 x5_1) ∧ Aside0 (Kd.R (Kd.int .i64) 3 w' w.heap.size (fun k_ => some k_ ≠ (v5 : Value).ownBlock) v6 x6_1) ∧ Aside0 (Below w.heap.size w w'))
  case atStart => exact ⟨(y163), (y166), (a1), (wrap64 (a0 - a1)), (by first | rfl | (simp; done) | (simp [*]; done)), (by first | rfl | (simp; done) | (simp [*]; done)), H', ⟨Nat.le_refl _⟩, ⟨by (with_reducible repeat (first | apply Kd.R_alloc | apply Kd.R_drewN | apply Kd.R_drew)); exact Kd.R_mono HO165.out (fun _ hk => hk.2)⟩, ⟨by (with_reducible repeat (first | apply Kd.R_alloc | apply Kd.R_drewN | apply Kd.R_drew)); exact Kd.R_mono HO168.out (fun _ hk => hk.2)⟩, ⟨by repeat (first | (with_reducible first | exact HB.out | apply below_alloc | apply pw_below_drewN | apply below_drew1) | exact HB.out)⟩⟩
  case round =>
    clear H'
    try clear c2
    try clear p2
    try clear p6
    obtain ⟨x5_1, x6_1, x7_1, x8_1, rfl, rfl, HA, HK1, HO_5, HO_6, HB⟩ := hrel
    cases gk with
    | zero => exact absurd HA.out (by simp [sackbutref03_Strokes.l0])
    | succ k1 =>
      have H := HA.out
      clear HA
      simp only [sackbutref03_Strokes.l0] at H
      by_cases c7 : x8_1 > 1
      · rw [if_pos c7] at H
        have c7b0 : decide (1 < x8_1) = true := decide_eq_true c7
        clear c7
        obtain ⟨y169, hy169⟩ : ∃ y_ : List Int, y_ = (([] : List Int)) := ⟨_, rfl⟩
        replace H : (if y169.length + x5_1.length < 17592186044416 then ((some (y169 ++ x5_1 : List Int)).bind fun y172 => (if y172.length + x6_1.length < 17592186044416 then ((some (y172 ++ x6_1 : List Int)).bind fun y175 => (if x7_1 > x8_1 then (sackbutref03_Strokes.l0 k1 y175 x5_1 (mn x7_1 x8_1) (wrap64 ((mx x7_1 x8_1) - (mn x7_1 x8_1)))) else (sackbutref03_Strokes.l0 k1 y175 x6_1 (mn x7_1 x8_1) (wrap64 ((mx x7_1 x8_1) - (mn x7_1 x8_1)))))) else (none))) else (none)) = some r := by first | (rw [hy169]; with_reducible exact H) | (have H2_ := (Option.bind_some _ _).symm.trans H; rw [hy169]; with_reducible exact H2_) | (have H2_ := (Option.bind_some _ _).symm.trans H; with_reducible exact H2_) | with_reducible exact H | (rw [hy169]; exact H) | exact H
        have Ny169 := Aside0.mk hy169
        clear hy169
        by_cases c8 : y169.length + x5_1.length < 17592186044416
        · rw [if_pos c8] at H
          have LMc8 := Aside0.mk c8
          clear c8
          obtain ⟨y172, hy172⟩ : ∃ y_ : List Int, y_ = (y169 ++ x5_1) := ⟨_, rfl⟩
          replace H : (if y172.length + x6_1.length < 17592186044416 then ((some (y172 ++ x6_1 : List Int)).bind fun y175 => (if x7_1 > x8_1 then (sackbutref03_Strokes.l0 k1 y175 x5_1 (mn x7_1 x8_1) (wrap64 ((mx x7_1 x8_1) - (mn x7_1 x8_1)))) else (sackbutref03_Strokes.l0 k1 y175 x6_1 (mn x7_1 x8_1) (wrap64 ((mx x7_1 x8_1) - (mn x7_1 x8_1)))))) else (none)) = some r := by first | (rw [hy172]; with_reducible exact H) | (have H2_ := (Option.bind_some _ _).symm.trans H; rw [hy172]; with_reducible exact H2_) | (have H2_ := (Option.bind_some _ _).symm.trans H; with_reducible exact H2_) | with_reducible exact H | (rw [hy172]; exact H) | exact H
          have Ny172 := Aside0.mk hy172
          clear hy172
          by_cases c9 : y172.length + x6_1.length < 17592186044416
          · rw [if_pos c9] at H
            have LMc9 := Aside0.mk c9
            clear c9
            obtain ⟨y175, hy175⟩ : ∃ y_ : List Int, y_ = (y172 ++ x6_1) := ⟨_, rfl⟩
            replace H : (if x7_1 > x8_1 then (sackbutref03_Strokes.l0 k1 y175 x5_1 (mn x7_1 x8_1) (wrap64 ((mx x7_1 x8_1) - (mn x7_1 x8_1)))) else (sackbutref03_Strokes.l0 k1 y175 x6_1 (mn x7_1 x8_1) (wrap64 ((mx x7_1 x8_1) - (mn x7_1 x8_1))))) = some r := by first | (rw [hy175]; with_reducible exact H) | (have H2_ := (Option.bind_some _ _).symm.trans H; rw [hy175]; with_reducible exact H2_) | (have H2_ := (Option.bind_some _ _).symm.trans H; with_reducible exact H2_) | with_reducible exact H | (rw [hy175]; exact H) | exact H
            have Ny175 := Aside0.mk hy175
            clear hy175
            obtain ⟨ji10, hji10⟩ : ∃ j_ : Int, (mn x7_1 x8_1) = j_ := ⟨_, rfl⟩
            replace H : (if x7_1 > x8_1 then (sackbutref03_Strokes.l0 k1 y175 x5_1 ji10 (wrap64 ((mx x7_1 x8_1) - (ji10)))) else (sackbutref03_Strokes.l0 k1 y175 x6_1 ji10 (wrap64 ((mx x7_1 x8_1) - (ji10))))) = some r := by first | (rw [hji10] at H; exact H) | (simp only [hji10] at H ⊢; exact H)
            have hji10_ : (if x8_1 < x7_1 then x8_1 else x7_1) = ji10 := hji10
            by_cases c11 : x7_1 > x8_1
            · rw [if_pos c11] at H
              have c11b0 : decide (x8_1 < x7_1) = true := decide_eq_true c11
              clear c11
              obtain ⟨ji12, hji12⟩ : ∃ j_ : Int, (mx x7_1 x8_1) = j_ := ⟨_, rfl⟩
              replace H : (sackbutref03_Strokes.l0 k1 y175 x5_1 ji10 (wrap64 ((ji12) - (ji10)))) = some r := by first | (rw [hji12] at H; exact H) | (simp only [hji12] at H ⊢; exact H)
              have hji12_ : (if x7_1 < x8_1 then x8_1 else x7_1) = ji12 := hji12
              have H' := Aside0.mk H
              clear H
              go_wp2_with (first | ((with_reducible refine gate_dst (N := 20) rfl ?_); refine Kd.R_lit (Kd.int .i64) _ 3 ?hg (N := 20) ?hd (xs := ([] : List Int)) (inner := []) (ok := fun _ => True) (okp := fun _ => True) ?hr ?hp (fun _ hk => hk) trivial (Below.refl _ _) (Nat.le_refl _) (by simp) ?_; (case hd => rfl); (case hg => rfl); (case hr => first | (go_simp; done) | (go_simp; rfl)); (case hp => exact (Reps.none _ _)); intro v170 w13 ho14 hb hg_ hnew_; clear hg_ hnew_; (first | rw [← Ny169.out] at ho14 | (simp only [Int.reduceToNat] at ho14; rw [← Ny169.out] at ho14)); have n0_ := Aside0.mk (Kd.R_elder' (by (with_reducible repeat (first | apply Kd.R_alloc | apply Kd.R_drewN | apply Kd.R_drew)); exact HO_5.out) (Kd.R_base ho14) hb); have n1_ := Aside0.mk (Kd.R_elder' (by (with_reducible repeat (first | apply Kd.R_alloc | apply Kd.R_drewN | apply Kd.R_drew)); exact HO_6.out) (Kd.R_base ho14) hb); have n2_ := Aside0.mk (Kd.R_lower (Kd.R_new' (Kd.R_new' ho14 (Kd.R_lt (by (with_reducible repeat (first | apply Kd.R_alloc | apply Kd.R_drewN | apply Kd.R_drew)); exact HO_5.out))) (Kd.R_lt (by (with_reducible repeat (first | apply Kd.R_alloc | apply Kd.R_drewN | apply Kd.R_drew)); exact HO_6.out))) (below_size (by repeat (first | (with_reducible first | exact HB.out | apply below_alloc | apply pw_below_drewN | apply below_drew1) | exact HB.out)))); have n3_ := Aside0.mk (below_step (by repeat (first | (with_reducible first | exact HB.out | apply below_alloc | apply pw_below_drewN | apply below_drew1) | exact HB.out)) hb); clear HO_5; clear HO_6; clear HB; have HO_5 := n0_; have HO_6 := n1_; have HO171 := n2_; have HB := n3_; clear n0_ n1_ n2_ n3_; clear hb ho14; obtain ⟨Ao16, co16, eo16⟩ := Kd.R_slice HO_5.out; subst eo16) | ((with_reducible refine gate_builtin (b := .append) (xs := #[.tmp 20, .tmp 21]) rfl ?_); at_builtin; refine Kd.R_append_rows (Kd.int .i64) (w0 := w) w.heap.size rfl (.tmp 20) (.tmp 21) 32 3 (.int .i64 0) 8 rfl Try.underlying32 info3 rfl (by decide) (by omega) v170 y169 x5_1 _ _ _ (fun k_ => some k_ ≠ (.slice Ao16 x5_1.length co16 : Value).ownBlock ∧ some k_ ≠ (u6 : Value).ownBlock) (fun _ => False) rfl rfl ?aO ?aR (fun _ _ h => h) (fun _ h => h.elim) ?aF ?aB ?aS ?aL ?_; (case aR => repeat (first | exact (Kd.R_reads' HO_5.out).2.2 | (with_reducible refine Kd.C_alloc ?_ _) | (with_reducible refine Kd.C_drewN ?_ _) | (with_reducible refine Kd.C_drew ?_))); (case aB => exact (by repeat (first | (with_reducible first | exact HB.out | apply below_alloc | apply pw_below_drewN | apply below_drew1) | exact HB.out))); (case aF => exact (fun k_ hk => ⟨Kd.fresh' (Kd.R_lt (by (with_reducible repeat (first | apply Kd.R_alloc | apply Kd.R_drewN | apply Kd.R_drew)); exact HO_5.out)) k_ hk, Kd.fresh' (Kd.R_lt (by (with_reducible repeat (first | apply Kd.R_alloc | apply Kd.R_drewN | apply Kd.R_drew)); exact HO_6.out)) k_ hk⟩)); (case aO => exact (by (with_reducible repeat (first | apply Kd.R_alloc | apply Kd.R_drewN | apply Kd.R_drew)); exact Kd.R_mono HO171.out (fun _ hk => ⟨hk.1.2, hk.2⟩))); (case aS => exact (below_size (by repeat (first | (with_reducible first | exact HB.out | apply below_alloc | apply pw_below_drewN | apply below_drew1) | exact HB.out)))); (case aL => have := LMc8.out; omega); intro v173 w15 ho hb hg hat; rw [← Ny172.out] at ho; have n0_ := Aside0.mk (Kd.R_after (ok := (fun k_ => some k_ ≠ (u6 : Value).ownBlock)) (by (with_reducible repeat (first | apply Kd.R_alloc | apply Kd.R_drewN | apply Kd.R_drew)); exact HO_5.out) hg hat); have n1_ := Aside0.mk (Kd.R_after (ok := (fun k_ => some k_ ≠ (.slice Ao16 x5_1.length co16 : Value).ownBlock)) (by (with_reducible repeat (first | apply Kd.R_alloc | apply Kd.R_drewN | apply Kd.R_drew)); exact HO_6.out) hg hat); have n2_ := Aside0.mk (hb); have n3_ := Aside0.mk (ho); clear HO_5; clear HO_6; clear HB; clear HO171; have HO_5 := n0_; have HO_6 := n1_; have HB := n2_; have HO174 := n3_; clear n0_ n1_ n2_ n3_; clear ho hb hg hat; obtain ⟨Ao18, co18, eo18⟩ := Kd.R_slice HO_6.out; subst eo18) | ((with_reducible refine gate_builtin (b := .append) (xs := #[.tmp 22, .tmp 23]) rfl ?_); at_builtin; refine Kd.R_append_rows (Kd.int .i64) (w0 := w) w.heap.size rfl (.tmp 22) (.tmp 23) 32 3 (.int .i64 0) 8 rfl Try.underlying32 info3 rfl (by decide) (by omega) v173 y172 x6_1 _ _ _ (fun k_ => some k_ ≠ (.slice Ao16 x5_1.length co16 : Value).ownBlock ∧ some k_ ≠ (.slice Ao18 x6_1.length co18 : Value).ownBlock) (fun _ => False) rfl rfl ?aO ?aR (fun _ _ h => h) (fun _ h => h.elim) ?aF ?aB ?aS ?aL ?_; (case aR => repeat (first | exact (Kd.R_reads' HO_6.out).2.2 | (with_reducible refine Kd.C_alloc ?_ _) | (with_reducible refine Kd.C_drewN ?_ _) | (with_reducible refine Kd.C_drew ?_))); (case aB => exact (by repeat (first | (with_reducible first | exact HB.out | apply below_alloc | apply pw_below_drewN | apply below_drew1) | exact HB.out))); (case aF => exact (fun k_ hk => ⟨Kd.fresh' (Kd.R_lt (by (with_reducible repeat (first | apply Kd.R_alloc | apply Kd.R_drewN | apply Kd.R_drew)); exact HO_5.out)) k_ hk, Kd.fresh' (Kd.R_lt (by (with_reducible repeat (first | apply Kd.R_alloc | apply Kd.R_drewN | apply Kd.R_drew)); exact HO_6.out)) k_ hk⟩)); (case aO => exact (by (with_reducible repeat (first | apply Kd.R_alloc | apply Kd.R_drewN | apply Kd.R_drew)); exact HO174.out)); (case aS => exact (below_size (by repeat (first | (with_reducible first | exact HB.out | apply below_alloc | apply pw_below_drewN | apply below_drew1) | exact HB.out)))); (case aL => have := LMc9.out; omega); intro v176 w17 ho hb hg hat; rw [← Ny175.out] at ho; have n0_ := Aside0.mk (Kd.R_after (ok := (fun k_ => some k_ ≠ (.slice Ao18 x6_1.length co18 : Value).ownBlock)) (by (with_reducible repeat (first | apply Kd.R_alloc | apply Kd.R_drewN | apply Kd.R_drew)); exact HO_5.out) hg hat); have n1_ := Aside0.mk (Kd.R_after (ok := (fun k_ => some k_ ≠ (.slice Ao16 x5_1.length co16 : Value).ownBlock)) (by (with_reducible repeat (first | apply Kd.R_alloc | apply Kd.R_drewN | apply Kd.R_drew)); exact HO_6.out) hg hat); have n2_ := Aside0.mk (hb); have n3_ := Aside0.mk (ho); clear HO_5; clear HO_6; clear HB; clear HO174; have HO_5 := n0_; have HO_6 := n1_; have HB := n2_; have HO177 := n3_; clear n0_ n1_ n2_ n3_; clear ho hb hg hat))
              go_roundg k1
              case measure => have := HK1.out; omega
              case rel => exact ⟨(y175), (x5_1), (ji10), (wrap64 ((ji12) - (ji10))), (by first | rfl | (simp; done) | (simp only [← hji10] <;> (first | rfl | simp)) | (simp [*]; done)), (by first | rfl | (simp; done) | (simp only [← hji10, ← hji12] <;> (first | rfl | simp)) | (simp [*]; done)), H', ⟨by have := HK1.out; omega⟩, ⟨by (with_reducible repeat (first | apply Kd.R_alloc | apply Kd.R_drewN | apply Kd.R_drew)); exact Kd.R_mono HO177.out (fun _ hk => hk.1)⟩, ⟨by (with_reducible repeat (first | apply Kd.R_alloc | apply Kd.R_drewN | apply Kd.R_drew)); exact Kd.R_mono HO_5.out (fun _ hk => hk.2)⟩, ⟨by repeat (first | (with_reducible first | exact HB.out | apply below_alloc | apply pw_below_drewN | apply below_drew1) | exact HB.out)⟩⟩
            · rw [if_neg c11] at H
              have c11b0 : decide (x8_1 < x7_1) = false := decide_eq_false c11
              clear c11
              obtain ⟨ji19, hji19⟩ : ∃ j_ : Int, (mx x7_1 x8_1) = j_ := ⟨_, rfl⟩
              replace H : (sackbutref03_Strokes.l0 k1 y175 x6_1 ji10 (wrap64 ((ji19) - (ji10)))) = some r := by first | (rw [hji19] at H; exact H) | (simp only [hji19] at H ⊢; exact H)
              have hji19_ : (if x7_1 < x8_1 then x8_1 else x7_1) = ji19 := hji19
              have H' := Aside0.mk H
              clear H
              go_wp2_with (first | ((with_reducible refine gate_dst (N := 20) rfl ?_); refine Kd.R_lit (Kd.int .i64) _ 3 ?hg (N := 20) ?hd (xs := ([] : List Int)) (inner := []) (ok := fun _ => True) (okp := fun _ => True) ?hr ?hp (fun _ hk => hk) trivial (Below.refl _ _) (Nat.le_refl _) (by simp) ?_; (case hd => rfl); (case hg => rfl); (case hr => first | (go_simp; done) | (go_simp; rfl)); (case hp => exact (Reps.none _ _)); intro v170 w20 ho21 hb hg_ hnew_; clear hg_ hnew_; (first | rw [← Ny169.out] at ho21 | (simp only [Int.reduceToNat] at ho21; rw [← Ny169.out] at ho21)); have n0_ := Aside0.mk (Kd.R_elder' (by (with_reducible repeat (first | apply Kd.R_alloc | apply Kd.R_drewN | apply Kd.R_drew)); exact HO_5.out) (Kd.R_base ho21) hb); have n1_ := Aside0.mk (Kd.R_elder' (by (with_reducible repeat (first | apply Kd.R_alloc | apply Kd.R_drewN | apply Kd.R_drew)); exact HO_6.out) (Kd.R_base ho21) hb); have n2_ := Aside0.mk (Kd.R_lower (Kd.R_new' (Kd.R_new' ho21 (Kd.R_lt (by (with_reducible repeat (first | apply Kd.R_alloc | apply Kd.R_drewN | apply Kd.R_drew)); exact HO_5.out))) (Kd.R_lt (by (with_reducible repeat (first | apply Kd.R_alloc | apply Kd.R_drewN | apply Kd.R_drew)); exact HO_6.out))) (below_size (by repeat (first | (with_reducible first | exact HB.out | apply below_alloc | apply pw_below_drewN | apply below_drew1) | exact HB.out)))); have n3_ := Aside0.mk (below_step (by repeat (first | (with_reducible first | exact HB.out | apply below_alloc | apply pw_below_drewN | apply below_drew1) | exact HB.out)) hb); clear HO_5; clear HO_6; clear HB; have HO_5 := n0_; have HO_6 := n1_; have HO171 := n2_; have HB := n3_; clear n0_ n1_ n2_ n3_; clear hb ho21; obtain ⟨Ao23, co23, eo23⟩ := Kd.R_slice HO_5.out; subst eo23) | ((with_reducible refine gate_builtin (b := .append) (xs := #[.tmp 20, .tmp 21]) rfl ?_); at_builtin; refine Kd.R_append_rows (Kd.int .i64) (w0 := w) w.heap.size rfl (.tmp 20) (.tmp 21) 32 3 (.int .i64 0) 8 rfl Try.underlying32 info3 rfl (by decide) (by omega) v170 y169 x5_1 _ _ _ (fun k_ => some k_ ≠ (.slice Ao23 x5_1.length co23 : Value).ownBlock ∧ some k_ ≠ (u6 : Value).ownBlock) (fun _ => False) rfl rfl ?aO ?aR (fun _ _ h => h) (fun _ h => h.elim) ?aF ?aB ?aS ?aL ?_; (case aR => repeat (first | exact (Kd.R_reads' HO_5.out).2.2 | (with_reducible refine Kd.C_alloc ?_ _) | (with_reducible refine Kd.C_drewN ?_ _) | (with_reducible refine Kd.C_drew ?_))); (case aB => exact (by repeat (first | (with_reducible first | exact HB.out | apply below_alloc | apply pw_below_drewN | apply below_drew1) | exact HB.out))); (case aF => exact (fun k_ hk => ⟨Kd.fresh' (Kd.R_lt (by (with_reducible repeat (first | apply Kd.R_alloc | apply Kd.R_drewN | apply Kd.R_drew)); exact HO_5.out)) k_ hk, Kd.fresh' (Kd.R_lt (by (with_reducible repeat (first | apply Kd.R_alloc | apply Kd.R_drewN | apply Kd.R_drew)); exact HO_6.out)) k_ hk⟩)); (case aO => exact (by (with_reducible repeat (first | apply Kd.R_alloc | apply Kd.R_drewN | apply Kd.R_drew)); exact Kd.R_mono HO171.out (fun _ hk => ⟨hk.1.2, hk.2⟩))); (case aS => exact (below_size (by repeat (first | (with_reducible first | exact HB.out | apply below_alloc | apply pw_below_drewN | apply below_drew1) | exact HB.out)))); (case aL => have := LMc8.out; omega); intro v173 w22 ho hb hg hat; rw [← Ny172.out] at ho; have n0_ := Aside0.mk (Kd.R_after (ok := (fun k_ => some k_ ≠ (u6 : Value).ownBlock)) (by (with_reducible repeat (first | apply Kd.R_alloc | apply Kd.R_drewN | apply Kd.R_drew)); exact HO_5.out) hg hat); have n1_ := Aside0.mk (Kd.R_after (ok := (fun k_ => some k_ ≠ (.slice Ao23 x5_1.length co23 : Value).ownBlock)) (by (with_reducible repeat (first | apply Kd.R_alloc | apply Kd.R_drewN | apply Kd.R_drew)); exact HO_6.out) hg hat); have n2_ := Aside0.mk (hb); have n3_ := Aside0.mk (ho); clear HO_5; clear HO_6; clear HB; clear HO171; have HO_5 := n0_; have HO_6 := n1_; have HB := n2_; have HO174 := n3_; clear n0_ n1_ n2_ n3_; clear ho hb hg hat; obtain ⟨Ao25, co25, eo25⟩ := Kd.R_slice HO_6.out; subst eo25) | ((with_reducible refine gate_builtin (b := .append) (xs := #[.tmp 22, .tmp 23]) rfl ?_); at_builtin; refine Kd.R_append_rows (Kd.int .i64) (w0 := w) w.heap.size rfl (.tmp 22) (.tmp 23) 32 3 (.int .i64 0) 8 rfl Try.underlying32 info3 rfl (by decide) (by omega) v173 y172 x6_1 _ _ _ (fun k_ => some k_ ≠ (.slice Ao23 x5_1.length co23 : Value).ownBlock ∧ some k_ ≠ (.slice Ao25 x6_1.length co25 : Value).ownBlock) (fun _ => False) rfl rfl ?aO ?aR (fun _ _ h => h) (fun _ h => h.elim) ?aF ?aB ?aS ?aL ?_; (case aR => repeat (first | exact (Kd.R_reads' HO_6.out).2.2 | (with_reducible refine Kd.C_alloc ?_ _) | (with_reducible refine Kd.C_drewN ?_ _) | (with_reducible refine Kd.C_drew ?_))); (case aB => exact (by repeat (first | (with_reducible first | exact HB.out | apply below_alloc | apply pw_below_drewN | apply below_drew1) | exact HB.out))); (case aF => exact (fun k_ hk => ⟨Kd.fresh' (Kd.R_lt (by (with_reducible repeat (first | apply Kd.R_alloc | apply Kd.R_drewN | apply Kd.R_drew)); exact HO_5.out)) k_ hk, Kd.fresh' (Kd.R_lt (by (with_reducible repeat (first | apply Kd.R_alloc | apply Kd.R_drewN | apply Kd.R_drew)); exact HO_6.out)) k_ hk⟩)); (case aO => exact (by (with_reducible repeat (first | apply Kd.R_alloc | apply Kd.R_drewN | apply Kd.R_drew)); exact HO174.out)); (case aS => exact (below_size (by repeat (first | (with_reducible first | exact HB.out | apply below_alloc | apply pw_below_drewN | apply below_drew1) | exact HB.out)))); (case aL => have := LMc9.out; omega); intro v176 w24 ho hb hg hat; rw [← Ny175.out] at ho; have n0_ := Aside0.mk (Kd.R_after (ok := (fun k_ => some k_ ≠ (.slice Ao25 x6_1.length co25 : Value).ownBlock)) (by (with_reducible repeat (first | apply Kd.R_alloc | apply Kd.R_drewN | apply Kd.R_drew)); exact HO_5.out) hg hat); have n1_ := Aside0.mk (Kd.R_after (ok := (fun k_ => some k_ ≠ (.slice Ao23 x5_1.length co23 : Value).ownBlock)) (by (with_reducible repeat (first | apply Kd.R_alloc | apply Kd.R_drewN | apply Kd.R_drew)); exact HO_6.out) hg hat); have n2_ := Aside0.mk (hb); have n3_ := Aside0.mk (ho); clear HO_5; clear HO_6; clear HB; clear HO174; have HO_5 := n0_; have HO_6 := n1_; have HB := n2_; have HO177 := n3_; clear n0_ n1_ n2_ n3_; clear ho hb hg hat))
              go_roundg k1
              case measure => have := HK1.out; omega
              case rel => exact ⟨(y175), (x6_1), (ji10), (wrap64 ((ji19) - (ji10))), (by first | rfl | (simp; done) | (simp only [← hji10] <;> (first | rfl | simp)) | (simp [*]; done)), (by first | rfl | (simp; done) | (simp only [← hji10, ← hji19] <;> (first | rfl | simp)) | (simp [*]; done)), H', ⟨by have := HK1.out; omega⟩, ⟨by (with_reducible repeat (first | apply Kd.R_alloc | apply Kd.R_drewN | apply Kd.R_drew)); exact Kd.R_mono HO177.out (fun _ hk => hk.2)⟩, ⟨by (with_reducible repeat (first | apply Kd.R_alloc | apply Kd.R_drewN | apply Kd.R_drew)); exact Kd.R_mono HO_6.out (fun _ hk => hk.2)⟩, ⟨by repeat (first | (with_reducible first | exact HB.out | apply below_alloc | apply pw_below_drewN | apply below_drew1) | exact HB.out)⟩⟩
          · rw [if_neg c9] at H
            exact absurd H (by simp)
        · rw [if_neg c8] at H
          exact absurd H (by simp)
      · rw [if_neg c7] at H
        have c7b0 : decide (1 < x8_1) = false := decide_eq_false c7
        clear c7
        have H' := Aside0.mk H
        clear H
        go_wp2
        go_loopg [11, 40] k1 (fun kq v11 v40 w' => ∃ (x11_2 : List Int) (x40_2 : Int), v40 = .int .i64 x40_2 ∧ Aside0 (sackbutref03_Strokes.l1 kq x5_1 x6_1 x8_1 x11_2 x7_1 x40_2 = some r) ∧ Aside0 (kq ≤ k1) ∧ Aside0 (Kd.R (Kd.int .i64) 3 w' w.heap.size (fun k_ => some k_ ≠ (u6 : Value).ownBlock ∧ some k_ ≠ (v11 : Value).ownBlock) u5 x5_1) ∧ Aside0 (Kd.R (Kd.int .i64) 3 w' w.heap.size (fun k_ => some k_ ≠ (u5 : Value).ownBlock ∧ some k_ ≠ (v11 : Value).ownBlock) u6 x6_1) ∧ Aside0 (Kd.R (Kd.int .i64) 3 w' w.heap.size (fun k_ => some k_ ≠ (u5 : Value).ownBlock ∧ some k_ ≠ (u6 : Value).ownBlock) v11 x11_2) ∧ Aside0 (Below w.heap.size w w'))
        case atStart => exact ⟨(([] : List Int)), (0), (by first | rfl | (simp; done) | (simp [*]; done)), H', ⟨Nat.le_refl _⟩, ⟨by (with_reducible repeat (first | apply Kd.R_alloc | apply Kd.R_drewN | apply Kd.R_drew)); exact Kd.R_mono HO_5.out (fun _ hk => ⟨hk, (by simp [Value.ownBlock])⟩)⟩, ⟨by (with_reducible repeat (first | apply Kd.R_alloc | apply Kd.R_drewN | apply Kd.R_drew)); exact Kd.R_mono HO_6.out (fun _ hk => ⟨hk, (by simp [Value.ownBlock])⟩)⟩, ⟨by first | exact Kd.R_nil _ _ _ _ _ | exact Kd.N_nil _ _ _ _ _ | exact Kd.V_nil _ _ _ _ _ | exact Kd.Q_nil _ _ _ _ _ | exact Kd.S_nil _ _ _ _ _⟩, ⟨by repeat (first | (with_reducible first | exact HB.out | apply below_alloc | apply pw_below_drewN | apply below_drew1) | exact HB.out)⟩⟩
        case round =>
          clear H'
          try clear c1
          try clear c2
          try clear p2
          try clear p6
          try clear c7
          try clear c7b0
          try clear c8
          try clear c9
          try clear c11
          try clear c11b0
          try clear c25
          try clear p2
          try clear p6
          obtain ⟨x11_2, x40_2, rfl, HA, HK2, HO_5, HO_6, HO_11, HB⟩ := hrel
          cases gk with
          | zero => exact absurd HA.out (by simp [sackbutref03_Strokes.l1])
          | succ k2 =>
            have H := HA.out
            clear HA
            simp only [sackbutref03_Strokes.l1] at H
            by_cases c26 : x40_2 < x7_1
            · rw [if_pos c26] at H
              have c26b0 : decide (x40_2 < x7_1) = true := decide_eq_true c26
              clear c26
              by_cases c27 : x11_2.length + x5_1.length < 17592186044416
              · rw [if_pos c27] at H
                have LMc27 := Aside0.mk c27
                clear c27
                obtain ⟨y178, hy178⟩ : ∃ y_ : List Int, y_ = (x11_2 ++ x5_1) := ⟨_, rfl⟩
                replace H : (sackbutref03_Strokes.l1 k2 x5_1 x6_1 x8_1 y178 x7_1 (wrap64 (x40_2 + 1))) = some r := by first | (rw [hy178]; with_reducible exact H) | (have H2_ := (Option.bind_some _ _).symm.trans H; rw [hy178]; with_reducible exact H2_) | (have H2_ := (Option.bind_some _ _).symm.trans H; with_reducible exact H2_) | with_reducible exact H | (rw [hy178]; exact H) | exact H
                have Ny178 := Aside0.mk hy178
                clear hy178
                have H' := Aside0.mk H
                clear H
                obtain ⟨Ao29, co29, eo29⟩ := Kd.R_slice HO_5.out
                subst eo29
                go_wp2_with (first | ((with_reducible refine gate_builtin (b := .append) (xs := #[.tmp 42, .tmp 43]) rfl ?_); at_builtin; refine Kd.R_append_rows (Kd.int .i64) (w0 := w) w.heap.size rfl (.tmp 42) (.tmp 43) 32 3 (.int .i64 0) 8 rfl Try.underlying32 info3 rfl (by decide) (by omega) u11 x11_2 x5_1 _ _ _ (fun k_ => some k_ ≠ (.slice Ao29 x5_1.length co29 : Value).ownBlock ∧ some k_ ≠ (u6 : Value).ownBlock) (fun _ => False) rfl rfl ?aO ?aR (fun _ _ h => h) (fun _ h => h.elim) ?aF ?aB ?aS ?aL ?_; (case aR => repeat (first | exact (Kd.R_reads' HO_5.out).2.2 | (with_reducible refine Kd.C_alloc ?_ _) | (with_reducible refine Kd.C_drewN ?_ _) | (with_reducible refine Kd.C_drew ?_))); (case aB => exact (by repeat (first | (with_reducible first | exact HB.out | apply below_alloc | apply pw_below_drewN | apply below_drew1) | exact HB.out))); (case aF => exact (fun k_ hk => ⟨Kd.fresh' (Kd.R_lt (by (with_reducible repeat (first | apply Kd.R_alloc | apply Kd.R_drewN | apply Kd.R_drew)); exact HO_5.out)) k_ hk, Kd.fresh' (Kd.R_lt (by (with_reducible repeat (first | apply Kd.R_alloc | apply Kd.R_drewN | apply Kd.R_drew)); exact HO_6.out)) k_ hk⟩)); (case aO => exact (by (with_reducible repeat (first | apply Kd.R_alloc | apply Kd.R_drewN | apply Kd.R_drew)); exact HO_11.out)); (case aS => exact (below_size (by repeat (first | (with_reducible first | exact HB.out | apply below_alloc | apply pw_below_drewN | apply below_drew1) | exact HB.out)))); (case aL => have := LMc27.out; omega); intro v179 w28 ho hb hg hat; rw [← Ny178.out] at ho; have n0_ := Aside0.mk (Kd.R_after (ok := (fun k_ => some k_ ≠ (u6 : Value).ownBlock)) (by (with_reducible repeat (first | apply Kd.R_alloc | apply Kd.R_drewN | apply Kd.R_drew)); exact HO_5.out) hg hat); have n1_ := Aside0.mk (Kd.R_after (ok := (fun k_ => some k_ ≠ (.slice Ao29 x5_1.length co29 : Value).ownBlock)) (by (with_reducible repeat (first | apply Kd.R_alloc | apply Kd.R_drewN | apply Kd.R_drew)); exact HO_6.out) hg hat); have n2_ := Aside0.mk (hb); have n3_ := Aside0.mk (ho); clear HO_5; clear HO_6; clear HB; clear HO_11; have HO_5 := n0_; have HO_6 := n1_; have HB := n2_; have HO180 := n3_; clear n0_ n1_ n2_ n3_; clear ho hb hg hat))
                go_roundg k2
                case measure => have := HK1.out; have := HK2.out; omega
                case rel => exact ⟨(y178), (wrap64 (x40_2 + 1)), (by first | rfl | (simp; done) | (simp [*]; done)), H', ⟨by have := HK1.out; have := HK2.out; omega⟩, ⟨by (with_reducible repeat (first | apply Kd.R_alloc | apply Kd.R_drewN | apply Kd.R_drew)); exact HO_5.out⟩, ⟨by (with_reducible repeat (first | apply Kd.R_alloc | apply Kd.R_drewN | apply Kd.R_drew)); exact HO_6.out⟩, ⟨by (with_reducible repeat (first | apply Kd.R_alloc | apply Kd.R_drewN | apply Kd.R_drew)); exact HO180.out⟩, ⟨by repeat (first | (with_reducible first | exact HB.out | apply below_alloc | apply pw_below_drewN | apply below_drew1) | exact HB.out)⟩⟩
              · rw [if_neg c27] at H
                exact absurd H (by simp)
            · rw [if_neg c26] at H
              have c26b0 : decide (x40_2 < x7_1) = false := decide_eq_false c26
              clear c26
              have H' := Aside0.mk H
              clear H
              go_wp2
              go_loopg [11, 47] k2 (fun kq v11 v47 w' => ∃ (x11_3 : List Int) (x47_3 : Int), v47 = .int .i64 x47_3 ∧ Aside0 (sackbutref03_Strokes.l2 kq x6_1 x11_3 x8_1 x47_3 = some r) ∧ Aside0 (kq ≤ k2) ∧ Aside0 (Kd.R (Kd.int .i64) 3 w' w.heap.size (fun k_ => some k_ ≠ (v11 : Value).ownBlock) u6 x6_1) ∧ Aside0 (Kd.R (Kd.int .i64) 3 w' w.heap.size (fun k_ => some k_ ≠ (u6 : Value).ownBlock) v11 x11_3) ∧ Aside0 (Below w.heap.size w w'))
              case atStart => exact ⟨(x11_2), (0), (by first | rfl | (simp; done) | (simp [*]; done)), H', ⟨Nat.le_refl _⟩, ⟨by (with_reducible repeat (first | apply Kd.R_alloc | apply Kd.R_drewN | apply Kd.R_drew)); exact Kd.R_mono HO_6.out (fun _ hk => hk.2)⟩, ⟨by (with_reducible repeat (first | apply Kd.R_alloc | apply Kd.R_drewN | apply Kd.R_drew)); exact Kd.R_mono HO_11.out (fun _ hk => hk.2)⟩, ⟨by repeat (first | (with_reducible first | exact HB.out | apply below_alloc | apply pw_below_drewN | apply below_drew1) | exact HB.out)⟩⟩
              case round =>
                clear H'
                try clear c1
                try clear c2
                try clear p2
                try clear p6
                try clear c7
                try clear c7b0
                try clear c8
                try clear c9
                try clear c11
                try clear c11b0
                try clear c25
                try clear c26
                try clear c26b0
                try clear c27
                try clear p2
                try clear p6
                obtain ⟨x11_3, x47_3, rfl, HA, HK3, HO_6, HO_11, HB⟩ := hrel
                cases gk with
                | zero => exact absurd HA.out (by simp [sackbutref03_Strokes.l2])
                | succ k3 =>
                  have H := HA.out
                  clear HA
                  simp only [sackbutref03_Strokes.l2] at H
                  by_cases c30 : x47_3 < x8_1
                  · rw [if_pos c30] at H
                    have c30b0 : decide (x47_3 < x8_1) = true := decide_eq_true c30
                    clear c30
                    by_cases c31 : x11_3.length + x6_1.length < 17592186044416
                    · rw [if_pos c31] at H
                      have LMc31 := Aside0.mk c31
                      clear c31
                      obtain ⟨y181, hy181⟩ : ∃ y_ : List Int, y_ = (x11_3 ++ x6_1) := ⟨_, rfl⟩
                      replace H : (sackbutref03_Strokes.l2 k3 x6_1 y181 x8_1 (wrap64 (x47_3 + 1))) = some r := by first | (rw [hy181]; with_reducible exact H) | (have H2_ := (Option.bind_some _ _).symm.trans H; rw [hy181]; with_reducible exact H2_) | (have H2_ := (Option.bind_some _ _).symm.trans H; with_reducible exact H2_) | with_reducible exact H | (rw [hy181]; exact H) | exact H
                      have Ny181 := Aside0.mk hy181
                      clear hy181
                      have H' := Aside0.mk H
                      clear H
                      obtain ⟨Ao33, co33, eo33⟩ := Kd.R_slice HO_6.out
                      subst eo33
                      go_wp2_with (first | ((with_reducible refine gate_builtin (b := .append) (xs := #[.tmp 49, .tmp 50]) rfl ?_); at_builtin; refine Kd.R_append_rows (Kd.int .i64) (w0 := w) w.heap.size rfl (.tmp 49) (.tmp 50) 32 3 (.int .i64 0) 8 rfl Try.underlying32 info3 rfl (by decide) (by omega) u11 x11_3 x6_1 _ _ _ (fun k_ => some k_ ≠ (.slice Ao33 x6_1.length co33 : Value).ownBlock) (fun _ => False) rfl rfl ?aO ?aR (fun _ _ h => h) (fun _ h => h.elim) ?aF ?aB ?aS ?aL ?_; (case aR => repeat (first | exact (Kd.R_reads' HO_6.out).2.2 | (with_reducible refine Kd.C_alloc ?_ _) | (with_reducible refine Kd.C_drewN ?_ _) | (with_reducible refine Kd.C_drew ?_))); (case aB => exact (by repeat (first | (with_reducible first | exact HB.out | apply below_alloc | apply pw_below_drewN | apply below_drew1) | exact HB.out))); (case aF => exact (fun k_ hk => Kd.fresh' (Kd.R_lt (by (with_reducible repeat (first | apply Kd.R_alloc | apply Kd.R_drewN | apply Kd.R_drew)); exact HO_6.out)) k_ hk)); (case aO => exact (by (with_reducible repeat (first | apply Kd.R_alloc | apply Kd.R_drewN | apply Kd.R_drew)); exact HO_11.out)); (case aS => exact (below_size (by repeat (first | (with_reducible first | exact HB.out | apply below_alloc | apply pw_below_drewN | apply below_drew1) | exact HB.out)))); (case aL => have := LMc31.out; omega); intro v182 w32 ho hb hg hat; rw [← Ny181.out] at ho; have n0_ := Aside0.mk (Kd.R_after (ok := (fun _ => True)) (by (with_reducible repeat (first | apply Kd.R_alloc | apply Kd.R_drewN | apply Kd.R_drew)); exact Kd.R_mono HO_6.out (fun _ hk => ⟨trivial, hk⟩)) hg hat); have n1_ := Aside0.mk (hb); have n2_ := Aside0.mk (ho); clear HO_6; clear HB; clear HO_11; have HO_6 := n0_; have HB := n1_; have HO183 := n2_; clear n0_ n1_ n2_; clear ho hb hg hat))
                      go_roundg k3
                      case measure => have := HK1.out; have := HK2.out; have := HK3.out; omega
                      case rel => exact ⟨(y181), (wrap64 (x47_3 + 1)), (by first | rfl | (simp; done) | (simp [*]; done)), H', ⟨by have := HK1.out; have := HK2.out; have := HK3.out; omega⟩, ⟨by (with_reducible repeat (first | apply Kd.R_alloc | apply Kd.R_drewN | apply Kd.R_drew)); exact Kd.R_mono HO_6.out (fun _ hk => hk.2)⟩, ⟨by (with_reducible repeat (first | apply Kd.R_alloc | apply Kd.R_drewN | apply Kd.R_drew)); exact HO183.out⟩, ⟨by repeat (first | (with_reducible first | exact HB.out | apply below_alloc | apply pw_below_drewN | apply below_drew1) | exact HB.out)⟩⟩
                    · rw [if_neg c31] at H
                      exact absurd H (by simp)
                  · rw [if_neg c30] at H
                    have c30b0 : decide (x47_3 < x8_1) = false := decide_eq_false c30
                    clear c30
                    obtain rfl := Option.some.inj H
                    go_wp2
                    go_ret
                    exact ⟨_, by first | rfl | (simp [errW_none, errW_some] <;> rfl) | (simp [*, errW_none, errW_some] <;> rfl), by (with_reducible repeat (first | apply Kd.R_alloc | apply Kd.R_drewN | apply Kd.R_drew)); exact Kd.R_mono HO_11.out (fun _ hk => trivial), by repeat (first | (with_reducible first | exact HB.out | apply below_alloc | apply pw_below_drewN | apply below_drew1) | exact HB.out)⟩

def sackbutref03_Spread.l0 : Nat → Int → Int → Int → Int → Int → Int → Option (Int)
  | 0, _, _, _, _, _, _ => none
  | k + 1, x0, x1, x2, x7, x9, x10 => if x10 < x9 then (if x1 = 0 then (none) else (if x0 = 0 then (none) else (if 0 ≤ (Int.tmod (wrap64 (Int.tdiv (wrap64 ((wrap64 (x10 * x0)) + x2)) x1)) x0) then (sackbutref03_Spread.l0 k x0 x1 x2 (Go.bits .or .i64 x7 (shl .i64 1 (Int.tmod (wrap64 (Int.tdiv (wrap64 ((wrap64 (x10 * x0)) + x2)) x1)) x0))) x9 (wrap64 (x10 + 1))) else (none)))) else (some x7)
def sackbutref03_Spread.f (k : Nat) (a0 : Int) (a1 : Int) (a2 : Int) : Option (Int) := sackbutref03_Spread.l0 k a0 a1 a2 0 a1 0
set_option maxHeartbeats 8000000 in
set_option maxRecDepth 100000 in
theorem sackbutref03_Spread.calls (k : Nat) (a0 : Int) (a1 : Int) (a2 : Int) (r : Int) (w : World) (h : sackbutref03_Spread.f k a0 a1 a2 = some r) :
    Calls Try.prog 26 #[.int .i64 a0, .int .i64 a1, .int .i64 a2] w fun e w' => e = .returned (.int .i64 r) ∧ Drawn0 w w' := by
  have H : (sackbutref03_Spread.l0 k a0 a1 a2 0 a1 0) = some r := h
  clear h
  have H' := Aside0.mk H
  clear H
  go_enter Try.func26, Try.ntmps26
  go_wp2
  go_loopg [7, 10] k (fun kq v7 v10 w' => ∃ (x7_1 : Int) (x10_1 : Int), v7 = .int .i64 x7_1 ∧ v10 = .int .i64 x10_1 ∧ Aside0 (sackbutref03_Spread.l0 kq a0 a1 a2 x7_1 a1 x10_1 = some r) ∧ Aside0 (kq ≤ k) ∧ Drawn0 w w')
  case atStart => exact ⟨(0), (0), (by first | rfl | (simp; done) | (simp [*]; done)), (by first | rfl | (simp; done) | (simp [*]; done)), H', ⟨Nat.le_refl _⟩, by repeat (first | exact Drawn0.refl _ | apply Drawn0.step)⟩
  case round =>
    clear H'
    try clear c2
    try clear p2
    obtain ⟨x7_1, x10_1, rfl, rfl, HA, HK1, ⟨m1, rfl⟩⟩ := hrel
    cases gk with
    | zero => exact absurd HA.out (by simp [sackbutref03_Spread.l0])
    | succ k1 =>
      have H := HA.out
      clear HA
      simp only [sackbutref03_Spread.l0] at H
      by_cases c4 : x10_1 < a1
      · rw [if_pos c4] at H
        have c4b0 : decide (x10_1 < a1) = true := decide_eq_true c4
        clear c4
        by_cases c5 : a1 = 0
        · rw [if_pos c5] at H
          exact absurd H (by simp)
        · rw [if_neg c5] at H
          have c5b0 : (a1 == 0) = false := beq_eq_false_iff_ne.mpr c5
          have c5b1 : (a1 != 0) = true := bne_iff_ne.mpr c5
          by_cases c6 : a0 = 0
          · rw [if_pos c6] at H
            exact absurd H (by simp)
          · rw [if_neg c6] at H
            have c6b0 : (a0 == 0) = false := beq_eq_false_iff_ne.mpr c6
            have c6b1 : (a0 != 0) = true := bne_iff_ne.mpr c6
            obtain ⟨ji7, hji7⟩ : ∃ j_ : Int, (Int.tmod (wrap64 (Int.tdiv (wrap64 ((wrap64 (x10_1 * a0)) + a2)) a1)) a0) = j_ := ⟨_, rfl⟩
            replace H : (if 0 ≤ (ji7) then (sackbutref03_Spread.l0 k1 a0 a1 a2 (Go.bits .or .i64 x7_1 (shl .i64 1 (ji7))) a1 (wrap64 (x10_1 + 1))) else (none)) = some r := by first | (rw [hji7] at H; exact H) | (simp only [hji7] at H ⊢; exact H)
            by_cases c8 : 0 ≤ (ji7)
            · rw [if_pos c8] at H
              have c8b0 := eq_true c8
              have c8b1 : decide (0 ≤ (ji7)) = true := decide_eq_true c8
              clear c8
              obtain ⟨ji9, hji9⟩ : ∃ j_ : Int, (shl .i64 1 (ji7)) = j_ := ⟨_, rfl⟩
              replace H : (sackbutref03_Spread.l0 k1 a0 a1 a2 (Go.bits .or .i64 x7_1 (ji9)) a1 (wrap64 (x10_1 + 1))) = some r := by first | (rw [hji9] at H; exact H) | (simp only [hji9] at H ⊢; exact H)
              have hji9_ : (IntKind.i64.wrap (1 * 2 ^ min (ji7).toNat 64)) = ji9 := hji9
              have hji9z : (ji7) ≤ 64 → (IntKind.i64.wrap (1 * 2 ^ (ji7).toNat)) = ji9 := shl_small hji9
              have hji9u : (IntKind.i64.wrap (2 ^ min (ji7).toNat 64)) = ji9 := by have h_ := hji9_; rw [Int.one_mul] at h_; exact h_
              have hji9v : (ji7) ≤ 64 → (IntKind.i64.wrap (2 ^ (ji7).toNat)) = ji9 := fun hle_ => by have h_ := hji9z hle_; rw [Int.one_mul] at h_; exact h_
              have hji9y : (wrap64 (1 * 2 ^ min (ji7).toNat 64)) = ji9 := (i64_w _).symm.trans hji9_
              have hji9x : (ji7) ≤ 64 → (wrap64 (1 * 2 ^ (ji7).toNat)) = ji9 := fun h_ => (i64_w _).symm.trans (hji9z h_)
              have H' := Aside0.mk H
              clear H
              go_wp2
              go_roundg k1
              case measure => have := HK1.out; omega
              case rel => exact ⟨(Go.bits .or .i64 x7_1 (ji9)), (wrap64 (x10_1 + 1)), (by first | rfl | (simp; done) | (simp only [← hji9] <;> (first | rfl | simp)) | (simp [*]; done)), (by first | rfl | (simp; done) | (simp [*]; done)), H', ⟨by have := HK1.out; omega⟩, by repeat (first | exact Drawn0.refl _ | apply Drawn0.step)⟩
            · rw [if_neg c8] at H
              exact absurd H (by simp)
      · rw [if_neg c4] at H
        have c4b0 : decide (x10_1 < a1) = false := decide_eq_false c4
        clear c4
        obtain rfl := Option.some.inj H
        go_wp2
        go_ret
        exact ⟨by first | rfl | (simp; done) | (simp [*]; done), by repeat (first | exact Drawn0.refl _ | apply Drawn0.step)⟩

end Go.Proofs.Ythbcdmbicfmeaaa.P
end
