/- Texts that the proof of EvenAll needs, put together in build order by this session's program (wip/tools/claimtrim.py). -/
import Derived.Test.YthbcdmbicfmeaaaEvenAllM5
import Derived.Test.YthbcdmbicfmeaaaEvenAllM6
import Derived.Deep.RegionHeld3
import Derived.Deep.RegionLaw
section
namespace Go.Proofs.Ythbcdmbicfmeaaa.P
open Go.RowKit Go.Proofs.YthbcdmbicfmeaaaW.PrintWords Go.Proofs.YthbcdmbicfmeaaaW.PrintLast Go.Proofs.YthbcdmbicfmeaaaW.PrintMore
def mnI (x y : Int) : Int := if y < x then y else x
theorem min2_mn (k k' : IntKind) (x y : Int) : Builtin.min2 (.int k x) (.int k' y) = pure (.int k (mnI x y)) := min2_int k k' x y
attribute [local go_sem] min2_mn min_two
set_option linter.unusedVariables false
set_option linter.unusedSimpArgs false
/-- The groups, joined: a of the first sort, b of the second. -/
def joined : Nat → Nat → Nat → List Int → List Int → List Int
  | 0, a, b, x, y => (List.replicate a x ++ List.replicate b y).flatten
  | f + 1, a, b, x, y => if 2 ≤ b then joined f (min a b) (max a b - min a b) (x ++ y) (if b < a then x else y) else (List.replicate a x ++ List.replicate b y).flatten
def even_Strokes.f (a0 a1 : Int) : Option (List Int × Int) := (even_isCircle.f a0).bind fun v => if v = true ∧ 1 ≤ a1 ∧ a1 ≤ a0 then (if 2 ≤ a0 ∧ a0 ≤ 16 then some (joined a0.toNat a1.toNat (a0 - a1).toNat [1] [0], 0) else none) else some ([], 2)
/-- What the two slices are, while the groups are joined. -/
structure Ph (W : World) (base g a : Nat) (fs : List (List Int)) (A2 : Option Addr) (b cb : Nat) (y : List Int) : Prop where
  blk : ∃ cur : Array Value, W.heap[g]? = some (.cells cur 54 (0, 0))
  hb : base ≤ g
  fst : G.C W (some ⟨g, 0, none⟩) a fs
  snd : G.C W A2 b (List.replicate b y)
  cap : b ≤ cb
  ne : ∀ ad, A2 = some ad → ad.block ≠ g
theorem Ph.below {W W' : World} {base g a : Nat} {fs : List (List Int)} {A2 : Option Addr} {b cb : Nat} {y : List Int} (h : Ph W base g a fs A2 b cb y) (hb : Below W.heap.size W W') : Ph W' base g a fs A2 b cb y := by
  obtain ⟨cur, hc⟩ := h.blk
  exact ⟨⟨cur, (hb.block _ (blk_lt hc)).trans hc⟩, h.hb, Kd.C_below h.fst hb, Kd.C_below h.snd hb, h.cap, h.ne⟩
theorem flat_le : ∀ (L : List (List Int)) (n : Nat), L.length ≤ n → (∀ l, l ∈ L → l.length ≤ 16) → L.flatten.length ≤ n * 16
  | [], _, _, _ => by simp
  | l :: L, n, h, hl => by
    obtain ⟨n, rfl⟩ : ∃ m, n = m + 1 := ⟨n - 1, by simp at h; omega⟩
    have h1 := flat_le L n (by simpa using h) (fun l hx => hl l (List.mem_cons_of_mem _ hx))
    have h2 := hl l List.mem_cons_self
    rw [List.flatten_cons, List.length_append]
    omega
theorem set_rep {z x : List Int} {m i : Nat} (h : i < m) : (List.replicate i z ++ List.replicate (m - i) x).set i z = List.replicate (i + 1) z ++ List.replicate (m - (i + 1)) x := by
  rw [List.set_append_right _ _ (by rw [List.length_replicate]; omega), List.length_replicate, Nat.sub_self, show m - i = m - (i + 1) + 1 by omega, List.replicate_succ, List.set_cons_zero, List.replicate_succ', List.append_assoc]
  rfl
theorem Ph.store {W : World} {base g m i : Nat} {x y : List Int} {A2 : Option Addr} {b cb : Nat} {A5 : Option Addr} {c5 : Nat} {q : Value} (h : Ph W base g m (List.replicate i (x ++ y) ++ List.replicate (m - i) x) A2 b cb y) (hi : i < m) (hq : W.cell? ⟨g, i, none⟩ = some q) (hq' : ∀ z, q ≠ .int .i64 z) (hC : (Kd.int .i64).C W A5 (x ++ y).length (x ++ y)) (hl : (x ++ y).length ≤ c5) :
    Ph (W.setCell ⟨g, i, none⟩ (.slice A5 (x ++ y).length c5)) base g m (List.replicate (i + 1) (x ++ y) ++ List.replicate (m - (i + 1)) x) A2 b cb y := by
  obtain ⟨cur, hcur⟩ := h.blk
  refine ⟨⟨_, heap_setCell_same W g i cur 54 _ hcur⟩, h.hb, ?_, G_set_other hq hq' h.ne h.snd, h.cap, h.ne⟩
  rw [← set_rep hi]
  exact G_set_at hi h.fst hC hl
theorem lit_R (W : World) (base : Nat) (hb : base ≤ W.heap.size) (x : Int) : (Kd.int .i64).R 3 (W.alloc (.cells #[.int .i64 x] 3)) base (fun k => k = W.heap.size) (.slice (some ⟨W.heap.size, 0, none⟩) 1 1) [x] := by
  refine ⟨fun k hk => ?_, [.int .i64 x], ⟨rfl, .inr ⟨W.heap.size, 1, #[.int .i64 x], rfl, hb, World.alloc_heap_new _ _, Nat.le_refl _, by decide, rfl, rfl⟩⟩, Reps.one (show Kd.M (Kd.int .i64) _ _ _ x [.int .i64 x] from rfl) (Reps.none _ _)⟩
  obtain rfl : W.heap.size = k := by simpa [Value.ownBlock] using hk
  rfl
set_option maxHeartbeats 8000000 in
set_option maxRecDepth 100000 in
theorem even_Strokes.calls (a0 : Int) (a1 : Int) (r1 : List Int) (r2 : Int) (w : World) (h : even_Strokes.f a0 a1 = some (r1, r2)) :
    Calls Try.prog 23 #[.int .i64 a0, .int .i64 a1] w fun e w' => ∃ v0_ : Value, e = .returned (.tuple #[v0_, .int .i64 r2]) ∧ Kd.R (Kd.int .i64) 3 w' w.heap.size (fun _ => True) v0_ r1 ∧ Below w.heap.size w w' := by
  obtain ⟨v, hv, h2⟩ := Option.bind_eq_some_iff.1 h
  have info54 : (Try.prog.info? 54).map (fun i => (i.zero, i.size, i.bytes)) = some (some (.slice none 0 0), 1, 24) := by kernel_rfl
  have HV := Aside0.mk hv
  have H2 := Aside0.mk h2
  clear h h2 hv
  by_cases hok : v = true ∧ 1 ≤ a1 ∧ a1 ≤ a0
  case neg =>
    have h3 := H2.out
    rw [if_neg hok] at h3
    obtain ⟨rfl, rfl⟩ : ([] : List Int) = r1 ∧ (2 : Int) = r2 := by simpa using h3
    clear h3 H2
    cases v with
    | false =>
      clear hok
      go_enter Try.func23, Try.ntmps23
      go_wp2_with (go_at_call 47; refine (even_isCircle.calls _ false _ HV.out).mono ?_; rintro e w' ⟨rfl, ⟨nd, rfl⟩⟩)
      go_ret2
      exact ⟨_, rfl, Kd.R_nil _ _ _ _ _, pw_below_drewN (Below.refl _ _) _⟩
    | true =>
      by_cases c1 : a1 < 1
      · have d1 : decide (a1 < 1) = true := decide_eq_true c1
        clear hok
        go_enter Try.func23, Try.ntmps23
        go_wp2_with (go_at_call 47; refine (even_isCircle.calls _ true _ HV.out).mono ?_; rintro e w' ⟨rfl, ⟨nd, rfl⟩⟩)
        go_ret2
        exact ⟨_, rfl, Kd.R_nil _ _ _ _ _, pw_below_drewN (Below.refl _ _) _⟩
      · have c2 : a0 < a1 := by
          have := not_and.1 hok rfl
          omega
        have d1 : decide (a1 < 1) = false := decide_eq_false c1
        have d2 : decide (a0 < a1) = true := decide_eq_true c2
        clear hok
        go_enter Try.func23, Try.ntmps23
        go_wp2_with (go_at_call 47; refine (even_isCircle.calls _ true _ HV.out).mono ?_; rintro e w' ⟨rfl, ⟨nd, rfl⟩⟩)
        go_ret2
        exact ⟨_, rfl, Kd.R_nil _ _ _ _ _, pw_below_drewN (Below.refl _ _) _⟩
  have h3 := H2.out
  rw [if_pos hok] at h3
  by_cases h16 : 2 ≤ a0 ∧ a0 ≤ 16
  case neg => rw [if_neg h16] at h3; cases h3
  rw [if_pos h16] at h3
  obtain ⟨hr1, rfl⟩ : joined a0.toNat a1.toNat (a0 - a1).toNat [1] [0] = r1 ∧ (0 : Int) = r2 := by simpa using h3
  obtain ⟨rfl, h1, h1'⟩ := hok
  obtain ⟨h2a, h2b⟩ := h16
  obtain ⟨n, rfl⟩ : ∃ n : Nat, a0 = (n : Int) := ⟨a0.toNat, by omega⟩
  obtain ⟨k, rfl⟩ : ∃ k : Nat, a1 = (k : Int) := ⟨a1.toNat, by omega⟩
  have hn16 : n ≤ 16 := by omega
  have hk1 : 1 ≤ k := by omega
  have hkn : k ≤ n := by omega
  have HR := Aside0.mk hr1
  have d1 : ¬ (k : Int) < 1 := by omega
  have d2 : ¬ (n : Int) < (k : Int) := by omega
  have d3 : decide ((k : Int) < 1) = false := decide_eq_false d1
  have d4 : decide ((n : Int) < (k : Int)) = false := decide_eq_false d2
  have d5 : decide (n < k) = false := decide_eq_false (by omega)
  have HB := Aside0.mk (Below.refl w.heap.size w)
  clear h3 hr1 H2 h1 h1' h2a h2b
  go_enter Try.func23, Try.ntmps23
  go_wp2_with (go_at_call 47; refine (even_isCircle.calls _ true _ HV.out).mono ?_; rintro e w' ⟨rfl, ⟨nd, rfl⟩⟩)
  have hB1 : Below w.heap.size w (w.drewN nd) := pw_below_drewN (Below.refl _ _) _
  obtain ⟨w1, hw1⟩ : ∃ w1, w1 = w.drewN nd := ⟨_, rfl⟩
  rw [← hw1] at hB1 ⊢
  have HB1 := Aside0.mk hB1
  clear hw1 hB1
  go_loopg [6, 7, 28] n (fun gk u v c wr => ∃ i : Nat, gk + i = n ∧ c = .int .i64 (i : Int) ∧ Aside0 (Kd.R G 54 wr w.heap.size (fun b => True ∧ some b ≠ v.ownBlock) u (List.replicate (min i k) [1])) ∧ Aside0 (Kd.R G 54 wr w.heap.size (fun b => True ∧ some b ≠ u.ownBlock) v (List.replicate (i - k) [0])) ∧ Aside0 (Below w.heap.size w wr))
  case atStart =>
    refine ⟨0, by omega, rfl, ⟨?_⟩, ⟨?_⟩, HB1⟩
    · rw [Nat.zero_min]; exact Kd.R_nil _ _ _ _ _
    · rw [Nat.zero_sub]; exact Kd.R_nil _ _ _ _ _
  case round =>
    obtain ⟨i, hgi, rfl, hU, hV, hB⟩ := hrel
    obtain ⟨Au, cu, hu, hlu, _⟩ := Kd.R_reads hU.out
    obtain ⟨Av, cv, hv, hlv, _⟩ := Kd.R_reads hV.out
    obtain ⟨mu, hmu⟩ : ∃ m, m = (List.replicate (min i k) [(1 : Int)]).length := ⟨_, rfl⟩
    obtain ⟨mv, hmv⟩ : ∃ m, m = (List.replicate (i - k) [(0 : Int)]).length := ⟨_, rfl⟩
    rw [← hmu] at hu hlu
    rw [← hmv] at hv hlv
    have HMu := Aside0.mk hmu
    have HMv := Aside0.mk hmv
    clear hmu hmv
    subst hu
    subst hv
    by_cases hin : i < n
    · by_cases hik : i < k
      · have e1 : List.replicate (min (i + 1) k) [(1 : Int)] = List.replicate (min i k) [1] ++ [[1]] := by
          rw [show min (i + 1) k = min i k + 1 by omega, List.replicate_succ']
        have e2 : i + 1 - k = i - k := by omega
        have E1 := Aside0.mk e1
        have E2 := Aside0.mk e2
        clear e1 e2
        have HLt := Aside0.mk (fun b (hb : Value.ownBlock (.slice Av mv cv) = some b) => Kd.R_lt hV.out b hb)
        have HLt2 := Aside0.mk (fun b (hb : Value.ownBlock (.slice Au mu cu) = some b) => Kd.R_lt hU.out b hb)
        have HL := Aside0.mk (show (List.replicate (min i k) [(1 : Int)]).length + 1 ≤ 20 by rw [List.length_replicate]; omega)
        go_wp2_with (at_builtin; go_loud (refine Kd.R_append G (w0 := w) w.heap.size rfl (.tmp 34) (.tmp 36) 53 54 (.slice none 0 0) 24 rfl Try.underlying53 info54 rfl Nat.one_pos (by omega) (.slice Au mu cu) (List.replicate (min i k) [1]) [1] [.slice (some ⟨wr.heap.size, 0, none⟩) 1 1] (fun b => True ∧ some b ≠ Value.ownBlock (.slice Av mv cv)) (fun b => b = wr.heap.size) rfl (by show Value.slice (some ⟨wr.heap.size + 1, 0, none⟩) 1 1 = _; rw [World.size_alloc]) ⟨_, rfl, lit_R wr w.heap.size hB.out.size 1⟩ (fun b hb => ⟨⟨trivial, fun e => by have := HLt.out b e.symm; omega⟩, fun e => by have := HLt2.out b e.symm; omega⟩) (fun b hb => ⟨trivial, fun e => by have := HLt.out b e.symm; simp at hb; omega⟩) (Kd.R_alloc hU.out _) (hB.out.alloc hB.out.size _) (hB.out.alloc hB.out.size _).size (by have := HL.out; omega) ?_); intro v7 w7 hq7 hb7 hg7 hat7; have HQ7 := Aside0.mk hq7; have HB7 := Aside0.mk hb7; have HO7 := Aside0.mk (Kd.R_after (Kd.R_alloc hV.out _) hg7 hat7); clear hq7 hb7 hg7 hat7)
        go_roundg (n - (i + 1))
        case measure => omega
        case rel => exact ⟨i + 1, by omega, by go_num, ⟨by rw [E1.out]; exact HQ7.out⟩, ⟨by rw [E2.out]; exact HO7.out⟩, HB7⟩
      · have e1 : List.replicate (i + 1 - k) [(0 : Int)] = List.replicate (i - k) [0] ++ [[0]] := by
          rw [show i + 1 - k = i - k + 1 by omega, List.replicate_succ']
        have e2 : min (i + 1) k = min i k := by omega
        have E1 := Aside0.mk e1
        have E2 := Aside0.mk e2
        clear e1 e2
        have HLt := Aside0.mk (fun b (hb : Value.ownBlock (.slice Au mu cu) = some b) => Kd.R_lt hU.out b hb)
        have HLt2 := Aside0.mk (fun b (hb : Value.ownBlock (.slice Av mv cv) = some b) => Kd.R_lt hV.out b hb)
        have HL := Aside0.mk (show (List.replicate (i - k) [(0 : Int)]).length + 1 ≤ 20 by rw [List.length_replicate]; omega)
        go_wp2_with (at_builtin; go_loud (refine Kd.R_append G (w0 := w) w.heap.size rfl (.tmp 38) (.tmp 40) 53 54 (.slice none 0 0) 24 rfl Try.underlying53 info54 rfl Nat.one_pos (by omega) (.slice Av mv cv) (List.replicate (i - k) [0]) [0] [.slice (some ⟨wr.heap.size, 0, none⟩) 1 1] (fun b => True ∧ some b ≠ Value.ownBlock (.slice Au mu cu)) (fun b => b = wr.heap.size) rfl (by show Value.slice (some ⟨wr.heap.size + 1, 0, none⟩) 1 1 = _; rw [World.size_alloc]) ⟨_, rfl, lit_R wr w.heap.size hB.out.size 0⟩ (fun b hb => ⟨⟨trivial, fun e => by have := HLt.out b e.symm; omega⟩, fun e => by have := HLt2.out b e.symm; omega⟩) (fun b hb => ⟨trivial, fun e => by have := HLt.out b e.symm; simp at hb; omega⟩) (Kd.R_alloc hV.out _) (hB.out.alloc hB.out.size _) (hB.out.alloc hB.out.size _).size (by have := HL.out; omega) ?_); intro v7 w7 hq7 hb7 hg7 hat7; have HQ7 := Aside0.mk hq7; have HB7 := Aside0.mk hb7; have HO7 := Aside0.mk (Kd.R_after (Kd.R_alloc hU.out _) hg7 hat7); clear hq7 hb7 hg7 hat7)
        go_roundg (n - (i + 1))
        case measure => omega
        case rel => exact ⟨i + 1, by omega, by go_num, ⟨by rw [E2.out]; exact HO7.out⟩, ⟨by rw [E1.out]; exact HQ7.out⟩, HB7⟩
    · obtain rfl : n = i := by omega
      have hph : ∃ g ca, Value.slice Au mu cu = .slice (some ⟨g, 0, none⟩) k ca ∧ k ≤ ca ∧ Ph wr w.heap.size g k (List.replicate k [1]) Av mv cv [0] := by
        have e1 : min n k = k := by omega
        have hU' := hU.out
        rw [e1] at hU'
        obtain ⟨g, ca, hv8, hgb, hglt, cells, hcells⟩ := Kd.R_form hU' (by rw [List.length_replicate]; omega)
        rw [List.length_replicate] at hv8
        obtain ⟨A', c', e3, hl3, hC3⟩ := Kd.R_reads hU'
        rw [List.length_replicate] at e3 hl3 hC3
        obtain ⟨A4, c4, e4, hl4, hC4⟩ := Kd.R_reads hV.out
        have hne := hV.out.1
        rw [hv8] at hne
        have e5 : A' = some ⟨g, 0, none⟩ := by rw [hv8] at e3; injection e3 with e6 _ _; exact e6.symm
        have e7 : A4 = Av := by injection e4 with e6 _ _; exact e6.symm
        have e8 : mv = n - k := by rw [HMv.out, List.length_replicate]
        have e9 : c' = ca := by rw [hv8] at e3; injection e3 with _ _ e6; exact e6.symm
        rw [e5] at hC3
        rw [e7, List.length_replicate] at hC4
        refine ⟨g, ca, hv8, by rw [← e9]; exact hl3, ⟨⟨cells, hcells⟩, hgb, hC3, by rw [e8]; exact hC4, hlv, ?_⟩⟩
        rintro ad rfl
        have h9 := (hne ad.block rfl).2
        intro e10
        exact h9 (by rw [e10]; rfl)
      obtain ⟨g, ca, hvu, hka, hph⟩ := hph
      rw [hvu]
      have hmv : mv = n - k := by rw [HMv.out, List.length_replicate]
      have hj : joined n k mv [1] [0] = r1 := by
        have h9 := HR.out
        rw [Int.toNat_natCast, Int.toNat_natCast, show ((n : Int) - (k : Int)).toNat = mv by omega] at h9
        exact h9
      have HPh := Aside0.mk hph
      have HJ := Aside0.mk hj
      have HSum := Aside0.mk (show k * ([1] : List Int).length + mv * ([0] : List Int).length ≤ 16 by simp; omega)
      clear hvu hph hj hU hV HMu HMv HR
      go_wp2_with fail
      go_loopg [6, 7] n (fun gk u v wr => ∃ (g a ca : Nat) (A2 : Option Addr) (b cb : Nat) (x y : List Int), u = .slice (some ⟨g, 0, none⟩) a ca ∧ v = .slice A2 b cb ∧ a + b ≤ gk ∧ 1 ≤ a ∧ a + b ≤ 16 ∧ a ≤ ca ∧ Aside0 (Ph wr w.heap.size g a (List.replicate a x) A2 b cb y) ∧ Aside0 (joined gk a b x y = r1) ∧ Aside0 (a * x.length + b * y.length ≤ 16) ∧ Aside0 (Below w.heap.size w wr))
      case atStart => exact ⟨g, k, ca, Av, mv, cv, [1], [0], rfl, rfl, by omega, hk1, by omega, hka, HPh, HJ, HSum, hB⟩
      case round =>
        clear HPh HJ HSum hB
        obtain ⟨g, a, ca, A2, b, cb, x, y, rfl, rfl, hgk, ha1, hab, haca, hP, hJ, hS, hB⟩ := hrel
        obtain ⟨gq, rfl⟩ : ∃ gq : Nat, gq = gk := ⟨_, rfl⟩
        by_cases hb2 : 2 ≤ b
        · obtain ⟨m, hm⟩ : ∃ m, m = min a b := ⟨_, rfl⟩
          have hmin : mnI (a : Int) (b : Int) = (m : Int) := by
            unfold mnI
            by_cases h : b < a
            · rw [if_pos (by omega)]; omega
            · rw [if_neg (by omega)]; omega
          have hbi : decide ((2 : Int) ≤ (b : Int)) = true := decide_eq_true (by omega)
          have hbi2 : (2 : Int) ≤ (b : Int) := by omega
          have hma : m ≤ a := by omega
          have hmb : m ≤ b := by omega
          have hm1 : 1 ≤ m := by omega
          have HM := Aside0.mk hm
          clear hm
          obtain ⟨A1', hr1, hc1⟩ := cut_rows (some ⟨g, 0, none⟩) a ca m hma haca
          obtain ⟨A2', hr2, hc2⟩ := cut_rows A2 b cb m hmb hP.out.cap
          have HX := Aside0.mk (hc1 _ _ hP.out.fst)
          have HY := Aside0.mk (hc2 _ _ hP.out.snd)
          rw [List.drop_replicate] at HX HY
          have l1 : (List.replicate (a - m) x).length = a - m := List.length_replicate
          have l2 : (List.replicate (b - m) y).length = b - m := List.length_replicate
          obtain ⟨na, hna⟩ : ∃ na, na = a - m := ⟨_, rfl⟩
          obtain ⟨nb, hnb⟩ : ∃ nb, nb = b - m := ⟨_, rfl⟩
          rw [← hna] at hr1 HX l1
          rw [← hnb] at hr2 HY l2
          have hct := fun (w : World) (B : Nat) hblk hx hy => concat_rows A1' A2' (ca - m) (cb - m) (List.replicate na x) (List.replicate nb y) (by omega) (by omega) w B hblk hx hy
          rw [l1, l2] at hct
          have HCt := Aside0.mk hct
          have HNa := Aside0.mk hna
          have HNb := Aside0.mk hnb
          clear hc1 hc2 hct l1 l2 hna hnb
          go_wp2_with fail
          go_region_held3 (fun W => Below wr.heap.size wr W) ((first | exact Below.refl _ _ | exact below_drew (Below.refl _ _) | exact below_alloc (below_drew (Below.refl _ _)) _ | exact (below_drew (below_alloc (Below.refl _ _) _)).trans (hb.mono (by simp))))
            ((go_at_call 49; refine (HCt.out (wr.alloc (.cells #[.slice A1' na (ca - m), .slice A2' nb (cb - m)] 53)).drew _ (World.alloc_heap_new wr _) (Kd.C_below HX.out (below_drew (below_alloc (Below.refl _ _) _))) (Kd.C_below HY.out (below_drew (below_alloc (Below.refl _ _) _)))).mono ?_; rintro e w3 ⟨vl, rfl, hvl, hb⟩))
          have hb3 : Below wr.heap.size wr w3 := (below_drew (below_alloc (Below.refl _ _) _)).trans (hb.mono (by simp))
          obtain ⟨A3, c3, rfl, hl3, hC3, hA3⟩ := hvl
          have HP3 := Aside0.mk (hP.out.below hb3)
          have HC3 := Aside0.mk hC3
          have HA3 := Aside0.mk (show ∀ ad, A3 = some ad → ad.block ≠ g from fun ad had => by
            have h1 := hA3 ad had
            obtain ⟨cur, hcur⟩ := hP.out.blk
            have h2 := blk_lt hcur
            simp at h1
            omega)
          have HB3 := Aside0.mk (hB.out.trans (hb3.mono hB.out.size))
          obtain ⟨nl, hnl⟩ : ∃ nl, nl = (List.replicate na x ++ List.replicate nb y).length := ⟨_, rfl⟩
          rw [← hnl] at hl3 HC3 ⊢
          have HNl := Aside0.mk hnl
          clear hb hb3 hC3 hA3 hr1 hr2 hnl
          have HPm := Aside0.mk (show Ph w3 w.heap.size g m (List.replicate 0 (x ++ y) ++ List.replicate (m - 0) x) A2 b cb y from by
            refine ⟨HP3.out.blk, HP3.out.hb, ?_, HP3.out.snd, HP3.out.cap, HP3.out.ne⟩
            have h1 : G.C w3 (some ⟨g, 0, none⟩) (List.replicate a x).length (List.replicate a x) := by rw [List.length_replicate]; exact HP3.out.fst
            have h3 := Kd.C_take h1 (m := m) (by rw [List.length_replicate]; omega)
            rw [List.take_replicate, List.length_replicate, show min m a = m by omega] at h3
            simpa using h3)
          go_wp2
          go_loopg [65] m (fun gk c W => ∃ i : Nat, gk + i = m ∧ c = .int .i64 (i : Int) ∧ Aside0 (Ph W w.heap.size g m (List.replicate i (x ++ y) ++ List.replicate (m - i) x) A2 b cb y) ∧ Aside0 (G.C W A3 nl (List.replicate na x ++ List.replicate nb y)) ∧ Aside0 (Below w.heap.size w W))
          case atStart => exact ⟨0, rfl, rfl, HPm, HC3, HB3⟩
          case round =>
            clear HP3 HPm HC3 HB3 HX HY HCt
            obtain ⟨i, hgi, rfl, hP4, hC4, hB4⟩ := hrel
            by_cases him : i < m
            · obtain ⟨ad1, Ax, cx, e1, hcf, hlx, hCx⟩ := G_cell hP4.out.fst i him
              obtain ⟨ad2, Ay, cy, e2, hcs, hly, hCy⟩ := G_cell hP4.out.snd i (by omega)
              have g1 : (List.replicate i (x ++ y) ++ List.replicate (m - i) x).getD i [] = x := by
                rw [List.getD_eq_getElem?_getD, List.getElem?_append_right (by rw [List.length_replicate]; omega), List.length_replicate, Nat.sub_self, List.getElem?_replicate, if_pos (by omega)]
                rfl
              have g2 : (List.replicate b y).getD i [] = y := by
                rw [List.getD_eq_getElem?_getD, List.getElem?_replicate, if_pos (by omega)]
                rfl
              rw [g1] at hcf hlx hCx
              rw [g2] at hcs hly hCy
              have e3 : ad1 = ⟨g, 0, none⟩ := by injection e1 with e1; exact e1.symm
              rw [e3, add_nil] at hcf
              subst e2
              have HCx := Aside0.mk hCx
              have HCy := Aside0.mk hCy
              have hlen : x.length ≤ 16 ∧ y.length ≤ 16 := by
                have h1 := hS.out
                have h2 : x.length ≤ a * x.length := Nat.le_mul_of_pos_left _ (by omega)
                have h3 : y.length ≤ b * y.length := Nat.le_mul_of_pos_left _ (by omega)
                omega
              have hct := fun (w : World) (B : Nat) hblk hx hy => concat_ints Ax Ay cx cy x y (by omega) (by omega) w B hblk hx hy
              obtain ⟨lx, hlxe⟩ : ∃ l, l = x.length := ⟨_, rfl⟩
              obtain ⟨ly, hlye⟩ : ∃ l, l = y.length := ⟨_, rfl⟩
              rw [← hlxe] at hcf hct HCx
              rw [← hlye] at hcs hct HCy
              have HCt := Aside0.mk hct
              have HLx := Aside0.mk hlxe
              have HLy := Aside0.mk hlye
              have b1 := World.block_lt_of_cell? _ _ hcf
              have b2 := World.block_lt_of_cell? _ _ hcs
              have hfz : wr.frozen? ⟨g, i, none⟩ = false := by
                obtain ⟨cur, hcur⟩ := hP4.out.blk
                exact blk_frozen hcur i
              have hK : ∀ W, Below wr.heap.size wr W → W.cell? ⟨g, i, none⟩ = some (.slice Ax lx cx) ∧ W.cell? (ad2.add i) = some (.slice Ay ly cy) ∧ W.frozen? ⟨g, i, none⟩ = false ∧ Below wr.heap.size wr W := fun W hb => ⟨(hb.cell b1).trans hcf, (hb.cell b2).trans hcs, (hb.frozen b1).trans hfz, hb⟩
              have HK := Aside0.mk hK
              clear hfz
              have i0 : (0 : Int) ≤ (i : Int) := by omega
              have i1 : (i : Int) < (m : Int) := by omega
              have i2 : (i : Int) < (b : Int) := by omega
              have i3 : decide ((i : Int) < (m : Int)) = true := decide_eq_true i1
              have i4 : i < b := by omega
              clear hct hlxe hlye hK hlx hly hCx hCy g1 g2 e3 e1 b1 b2 hlen
              go_wp2_with fail
              go_region_law ((go_simp; go_at_call 50; refine (HCt.out (wr.alloc (.cells #[.slice Ax lx cx, .slice Ay ly cy] 54)).drew _ (World.alloc_heap_new wr _) (Kd.C_below HCx.out (below_drew (below_alloc (Below.refl _ _) _))) (Kd.C_below HCy.out (below_drew (below_alloc (Below.refl _ _) _)))).mono ?_; rintro e w5 ⟨vz, rfl, ⟨A5, c5, rfl, hl5, hC5, hA5⟩, hb⟩; have hb5 := Aside0.mk ((below_drew (below_alloc (Below.refl _ _) _)).trans (hb.mono (by simp)) : Below wr.heap.size wr w5); have s1 := (HK.out _ hb5.out).1; have s2 := (HK.out _ hb5.out).2.2.1; clear hb))
              all_goals
                have P5 := hP4.out.below hb5.out
                have hPn := P5.store him s1 (fun z e => by cases e) hC5 hl5
                have hCn := G_set_other (u := .slice A5 (x ++ y).length c5) s1 (fun z e => by cases e) HA3.out (Kd.C_below hC4.out hb5.out)
                have hBn := (hB4.out.trans (hb5.out.mono hB4.out.size)).setCell (p := ⟨g, i, none⟩) P5.hb (.slice A5 (x ++ y).length c5)
                rw [List.length_append] at hPn hCn hBn
                have HPn := Aside0.mk hPn
                have HCn := Aside0.mk hCn
                have HBn := Aside0.mk hBn
                clear P5 hPn hCn hBn hC5 hl5 hA5 s1 s2 hcf hcs
                go_wp2
                go_roundg (m - (i + 1))
                case measure => omega
                case rel => exact ⟨i + 1, by omega, by go_num, HPn, HCn, HBn⟩
            · obtain rfl : m = i := by omega
              have hne : nl = max a b - min a b := by
                have h1 := HNl.out
                have h2 := HNa.out
                have h3 := HNb.out
                have h4 := HM.out
                rw [List.length_append, List.length_replicate, List.length_replicate] at h1
                omega
              have hrep : List.replicate na x ++ List.replicate nb y = List.replicate nl (if b < a then x else y) := by
                have h1 := HNl.out
                have h2 := HNa.out
                have h3 := HNb.out
                have h4 := HM.out
                rw [List.length_append, List.length_replicate, List.length_replicate] at h1
                by_cases h : b < a
                · rw [if_pos h, show nb = 0 by omega, show nl = na by omega]
                  simp
                · rw [if_neg h, show na = 0 by omega, show nl = nb by omega]
                  simp
              have hCl := hC4.out
              rw [hrep] at hCl
              have hfst := hP4.out.fst
              rw [Nat.sub_self, List.replicate_zero, List.append_nil] at hfst
              have HPn := Aside0.mk (show Ph wr w.heap.size g m (List.replicate m (x ++ y)) A3 nl c3 (if b < a then x else y) from ⟨hP4.out.blk, hP4.out.hb, hfst, hCl, hl3, HA3.out⟩)
              have HJn := Aside0.mk (show joined (gq - 1) m nl (x ++ y) (if b < a then x else y) = r1 from by
                have h1 := hJ.out
                rw [show gq = (gq - 1) + 1 by omega, joined, if_pos hb2, ← hne, ← HM.out] at h1
                exact h1)
              have HSn := Aside0.mk (show m * (x ++ y).length + nl * (if b < a then x else y).length ≤ 16 from by
                have h1 := hS.out
                have h4 := HM.out
                rw [List.length_append, Nat.mul_add]
                by_cases h : b < a
                · rw [if_pos h]
                  have e1 : m = b := by omega
                  have e2 : nl = a - b := by omega
                  rw [e1, e2, Nat.sub_mul]
                  have := Nat.mul_le_mul_right x.length (show b ≤ a by omega)
                  omega
                · rw [if_neg h]
                  have e1 : m = a := by omega
                  have e2 : nl = b - a := by omega
                  rw [e1, e2, Nat.sub_mul]
                  have := Nat.mul_le_mul_right y.length (show a ≤ b by omega)
                  omega)
              have hlt1 : m + nl < a + b := by
                have h4 := HM.out
                omega
              clear hne hrep hCl hfst
              go_wp2_with fail
              go_roundg (gq - 1)
              case measure => omega
              case rel => exact ⟨g, m, m, A3, nl, c3, x ++ y, (if b < a then x else y), rfl, rfl, by omega, hm1, by omega, Nat.le_refl _, HPn, HJn, HSn, hB4⟩
        · have hres : (List.replicate a x ++ List.replicate b y).flatten = r1 := by
            rw [← hJ.out, show gq = (gq - 1) + 1 by omega, joined, if_neg hb2]
          have HRes := Aside0.mk hres
          have l1 : (List.replicate a x).length = a := List.length_replicate
          have l2 : (List.replicate b y).length = b := List.length_replicate
          have hct := fun (w : World) (B : Nat) hblk hx hy => concat_rows (some ⟨g, 0, none⟩) A2 ca cb (List.replicate a x) (List.replicate b y) (by omega) (by omega) w B hblk hx hy
          rw [l1, l2] at hct
          have HCt := Aside0.mk hct
          have hbi : decide ((2 : Int) ≤ (b : Int)) = false := decide_eq_false (by omega)
          have hbi2 : ¬ (2 : Int) ≤ (b : Int) := by omega
          have hlen : ∀ l, l ∈ List.replicate a x ++ List.replicate b y → l.length ≤ 16 := by
            intro l hl
            have h1 := hS.out
            rcases List.mem_append.1 hl with h | h
            · rw [List.eq_of_mem_replicate h]
              have h2 : x.length ≤ a * x.length := Nat.le_mul_of_pos_left _ (by omega)
              omega
            · have hb := List.mem_replicate.1 h
              rw [hb.2]
              have h3 : y.length ≤ b * y.length := Nat.le_mul_of_pos_left _ (by omega)
              omega
          have HLen := Aside0.mk hlen
          clear hres l1 l2 hct hlen
          go_wp2_with (go_at_call 49; refine (HCt.out (wr.alloc (.cells #[.slice (some ⟨g, 0, none⟩) a ca, .slice A2 b cb] 53)) _ (World.alloc_heap_new wr _) (Kd.C_alloc hP.out.fst _) (Kd.C_alloc hP.out.snd _)).mono ?_; rintro e w6 ⟨vl, rfl, ⟨A7, c7, rfl, hl7, hC7, hA7⟩, hb⟩; have hb6 := Aside0.mk ((below_alloc (Below.refl _ _) _).trans (hb.mono (by simp)) : Below wr.heap.size wr w6); have hC7' := Aside0.mk hC7; obtain ⟨nz, hnz⟩ : ∃ nz, nz = (List.replicate a x ++ List.replicate b y).length := ⟨_, rfl⟩; rw [← hnz] at hl7 hC7' ⊢; have HNz := Aside0.mk hnz; clear hb hC7 hA7 hnz)
          obtain ⟨L, hLd⟩ : ∃ L, L = List.replicate a x ++ List.replicate b y := ⟨_, rfl⟩
          rw [← hLd] at HLen HNz HRes hC7'
          have hL16 : L.length ≤ 16 := by rw [hLd, List.length_append, List.length_replicate, List.length_replicate]; omega
          have HL16 := Aside0.mk hL16
          have HB6 := Aside0.mk (hB.out.trans (hb6.out.mono hB.out.size))
          clear hLd hL16 hP hJ hS hB hb6
          go_loopg [12, 88] nz (fun gk v c W => ∃ j : Nat, gk + j = nz ∧ c = .int .i64 (j : Int) ∧ Aside0 (Kd.R (Kd.int .i64) 3 W w6.heap.size (fun _ => True) v (L.take j).flatten) ∧ Aside0 (Below w6.heap.size w6 W))
          case atStart => exact ⟨0, by omega, rfl, ⟨Kd.R_nil _ _ _ _ _⟩, ⟨Below.refl _ _⟩⟩
          case round =>
            obtain ⟨j, hgj, rfl, hO, hbl⟩ := hrel
            obtain ⟨Ao, co, ho, hlo, _⟩ := Kd.R_reads hO.out
            obtain ⟨mo, hmo⟩ : ∃ m, m = ((L.take j).flatten).length := ⟨_, rfl⟩
            rw [← hmo] at ho hlo
            have HMo := Aside0.mk hmo
            clear hmo
            subst ho
            by_cases hj : j < nz
            · have hjL : j < L.length := by have := HNz.out; omega
              have hj16 : j ≤ 16 := by have := HL16.out; omega
              obtain ⟨ad, Ag, cg, e1, hcell, hlg, hCg⟩ := G_cell (Kd.C_below hC7'.out hbl.out) j hj
              subst e1
              have hgd : L.getD j [] = L[j] := by rw [List.getD_eq_getElem?_getD, List.getElem?_eq_getElem hjL]; rfl
              have htk : (L.take (j + 1)).flatten = (L.take j).flatten ++ L.getD j [] := by
                rw [List.take_succ_eq_append_getElem hjL, List.flatten_append, hgd]
                simp
              have hl16 : (L.getD j []).length ≤ 16 := by rw [hgd]; exact HLen.out _ (List.getElem_mem hjL)
              obtain ⟨l, hle⟩ : ∃ l, l = L.getD j [] := ⟨_, rfl⟩
              rw [← hle] at hcell hlg hCg htk hl16
              obtain ⟨lg, hlge⟩ : ∃ n, n = l.length := ⟨_, rfl⟩
              rw [← hlge] at hcell hlg hCg hl16
              have HCg := Aside0.mk hCg
              have HTk := Aside0.mk htk
              have HBd := Aside0.mk (show (L.take j).flatten.length ≤ 16 * 16 from flat_le (L.take j) 16 (by rw [List.length_take]; have := HL16.out; omega) (fun l hl => HLen.out l (List.mem_of_mem_take hl)))
              have i0 : (0 : Int) ≤ (j : Int) := by omega
              have i1 : (j : Int) < (nz : Int) := by omega
              have i2 : decide ((j : Int) < (nz : Int)) = true := decide_eq_true i1
              clear hgd htk hle hlge hCg
              go_wp2_with (at_builtin; go_loud (refine R_append_group (w0 := w6) w6.heap.size rfl (.tmp 92) (.tmp 93) rfl (.slice Ao mo co) (L.take j).flatten l Ag lg cg (fun _ => True) rfl rfl (fun _ _ => trivial) hO.out HCg.out hbl.out hbl.out.size (by have := HBd.out; omega) ?_); intro v7 w7 hq7 hb7; have HQ7 := Aside0.mk hq7; have HB7 := Aside0.mk hb7; clear hq7 hb7)
              go_roundg (nz - (j + 1))
              case measure => omega
              case rel => exact ⟨j + 1, by omega, by go_num, ⟨by rw [HTk.out]; exact HQ7.out⟩, HB7⟩
            · have hall : (L.take j).flatten = r1 := by rw [List.take_of_length_le (by have := HNz.out; omega)]; exact HRes.out
              have HAll := Aside0.mk hall
              have i1 : ¬ (j : Int) < (nz : Int) := by omega
              have i2 : decide ((j : Int) < (nz : Int)) = false := decide_eq_false i1
              clear hall
              go_wp2_with fail
              go_ret2
              have hR := hO.out
              rw [HAll.out] at hR
              exact ⟨_, rfl, Kd.R_lower hR HB6.out.size, HB6.out.trans (hbl.out.mono HB6.out.size)⟩
end Go.Proofs.Ythbcdmbicfmeaaa.P
end

section
namespace Go.Proofs.Ythbcdmbicfmeaaa.P
open Go.RowKit Go.Proofs.YthbcdmbicfmeaaaW.PrintWords Go.Proofs.YthbcdmbicfmeaaaW.PrintLast Go.Proofs.YthbcdmbicfmeaaaW.PrintMore
attribute [local go_sem] max2_int min2_int max_two min_two max_three min_three max_four min_four   -- for this text's walks alone
set_option linter.unusedVariables false
set_option linter.unusedSimpArgs false
def slices_Equal_int_int.l0 : Nat → List Int → List Int → Int → Int → Option (Bool)
  | 0, _, _, _, _ => none
  | k + 1, x0, x1, x12, x13 => if x13 < x12 then (if 0 ≤ x13 then (if x13 < (x0.length : Int) then (if x13 < (x1.length : Int) then (if (rd x0 x13) = (rd x1 x13) then (slices_Equal_int_int.l0 k x0 x1 x12 (wrap64 (x13 + 1))) else (some false)) else (none)) else (none)) else (none)) else (some true)
def slices_Equal_int_int.f (k : Nat) (l0 : List Int) (l1 : List Int) : Option (Bool) := if (l0.length : Int) = (l1.length : Int) then (slices_Equal_int_int.l0 k l0 l1 (l0.length : Int) 0) else (some false)
set_option maxHeartbeats 8000000 in
set_option maxRecDepth 100000 in
theorem slices_Equal_int_int.calls (k : Nat) (A0 : Option Addr) (c0 : Nat) (l0 : List Int) (A1 : Option Addr) (c1 : Nat) (l1 : List Int) (r : Bool) (w : World) (hr0 : Kd.C (Kd.int .i64) w A0 l0.length l0) (hc0 : l0.length ≤ c0) (hr1 : Kd.C (Kd.int .i64) w A1 l1.length l1) (hc1 : l1.length ≤ c1) (h : slices_Equal_int_int.f k l0 l1 = some r) :
    Calls Try.prog 24 #[.slice A0 l0.length c0, .slice A1 l1.length c1] w fun e w' => e = .returned (.bool r) ∧ Drawn0 w w' := by
  have HR0 := Aside0.mk hr0
  have HC0 := Aside0.mk hc0
  clear hr0 hc0
  have HR1 := Aside0.mk hr1
  have HC1 := Aside0.mk hc1
  clear hr1 hc1
  have H : (if (l0.length : Int) = (l1.length : Int) then (slices_Equal_int_int.l0 k l0 l1 (l0.length : Int) 0) else (some false)) = some r := h
  clear h
  by_cases c3 : (l0.length : Int) = (l1.length : Int)
  · rw [if_pos c3] at H
    have c3b0 : ((l0.length : Int) == (l1.length : Int)) = true := beq_iff_eq.mpr c3
    have c3b1 : ((l0.length : Int) != (l1.length : Int)) = false := bne_eq_false_iff_eq.mpr c3
    have c3b2 : (l0.length == l1.length) = true := by first | simpa using c3 | (simp at c3 ⊢; omega)
    clear c3
    have H' := Aside0.mk H
    clear H
    go_enter Try.func24, Try.ntmps24
    go_wp2
    repeat (go_quiet (fail); try go_wp2)
    go_loopg [13] k (fun kq v13 w' => ∃ (x13_1 : Int), v13 = .int .i64 x13_1 ∧ Aside0 (slices_Equal_int_int.l0 kq l0 l1 (l0.length : Int) x13_1 = some r) ∧ Aside0 (kq ≤ k) ∧ Drawn0 w w')
    case atStart => exact ⟨(0), (by first | rfl | (simp; done) | (simp [*]; done)), H', ⟨Nat.le_refl _⟩, by repeat (first | exact Drawn0.refl _ | apply Drawn0.step)⟩
    case round =>
      clear H'
      try clear c1
      try clear c2
      try clear p2
      try clear c3
      try clear c3b0
      try clear c3b1
      try clear c3b2
      obtain ⟨x13_1, rfl, HA, HK1, ⟨m1, rfl⟩⟩ := hrel
      cases gk with
      | zero => exact absurd HA.out (by simp [slices_Equal_int_int.l0])
      | succ k1 =>
        have H := HA.out
        clear HA
        simp only [slices_Equal_int_int.l0] at H
        by_cases c4 : x13_1 < (l0.length : Int)
        · rw [if_pos c4] at H
          have c4b0 : decide (x13_1 < (l0.length : Int)) = true := decide_eq_true c4
          clear c4
          by_cases c5 : 0 ≤ x13_1
          · rw [if_pos c5] at H
            have c5b0 : decide (0 ≤ x13_1) = true := decide_eq_true c5
            clear c5
            by_cases c6 : x13_1 < (l0.length : Int)
            · rw [if_pos c6] at H
              have c6b0 : decide (x13_1 < (l0.length : Int)) = true := decide_eq_true c6
              clear c6
              by_cases c7 : x13_1 < (l1.length : Int)
              · rw [if_pos c7] at H
                have c7b0 : decide (x13_1 < (l1.length : Int)) = true := decide_eq_true c7
                clear c7
                by_cases c8 : (rd l0 x13_1) = (rd l1 x13_1)
                · rw [if_pos c8] at H
                  have c8b0 : ((rd l0 x13_1) == (rd l1 x13_1)) = true := beq_iff_eq.mpr c8
                  have c8b1 : ((rd l0 x13_1) != (rd l1 x13_1)) = false := bne_eq_false_iff_eq.mpr c8
                  clear c8
                  have H' := Aside0.mk H
                  clear H
                  have p161 : 0 ≤ (x13_1 : Int) := of_decide_eq_true (by first | (with_reducible assumption) | assumption)
                  have q161 : x13_1 < (l0.length : Int) := of_decide_eq_true (by first | (with_reducible assumption) | assumption)
                  obtain ⟨ad161, e161, hx161_0⟩ := Kd.at_int HR0.out x13_1 p161 q161
                  cases e161
                  replace p161 := eq_true p161
                  replace q161 := eq_true q161
                  have p162 : 0 ≤ (x13_1 : Int) := of_decide_eq_true (by first | (with_reducible assumption) | assumption)
                  have q162 : x13_1 < (l1.length : Int) := of_decide_eq_true (by first | (with_reducible assumption) | assumption)
                  obtain ⟨ad162, e162, hx162_0⟩ := Kd.at_int HR1.out x13_1 p162 q162
                  cases e162
                  replace p162 := eq_true p162
                  replace q162 := eq_true q162
                  go_wp2
                  repeat (go_quiet (fail); try go_wp2)
                  go_roundg k1
                  case measure => have := HK1.out; omega
                  case rel => exact ⟨(wrap64 (x13_1 + 1)), (by first | rfl | (simp; done) | (simp [*]; done)), H', ⟨by have := HK1.out; omega⟩, by repeat (first | exact Drawn0.refl _ | apply Drawn0.step)⟩
                · rw [if_neg c8] at H
                  have c8b0 : ((rd l0 x13_1) == (rd l1 x13_1)) = false := beq_eq_false_iff_ne.mpr c8
                  have c8b1 : ((rd l0 x13_1) != (rd l1 x13_1)) = true := bne_iff_ne.mpr c8
                  obtain rfl := Option.some.inj H
                  have p161 : 0 ≤ (x13_1 : Int) := of_decide_eq_true (by first | (with_reducible assumption) | assumption)
                  have q161 : x13_1 < (l0.length : Int) := of_decide_eq_true (by first | (with_reducible assumption) | assumption)
                  obtain ⟨ad161, e161, hx161_0⟩ := Kd.at_int HR0.out x13_1 p161 q161
                  cases e161
                  replace p161 := eq_true p161
                  replace q161 := eq_true q161
                  have p162 : 0 ≤ (x13_1 : Int) := of_decide_eq_true (by first | (with_reducible assumption) | assumption)
                  have q162 : x13_1 < (l1.length : Int) := of_decide_eq_true (by first | (with_reducible assumption) | assumption)
                  obtain ⟨ad162, e162, hx162_0⟩ := Kd.at_int HR1.out x13_1 p162 q162
                  cases e162
                  replace p162 := eq_true p162
                  replace q162 := eq_true q162
                  go_wp2
                  repeat (go_quiet (fail); try go_wp2)
                  go_ret
                  exact ⟨by first | rfl | (simp; done) | (simp [*]; done), by repeat (first | exact Drawn0.refl _ | apply Drawn0.step)⟩
              · rw [if_neg c7] at H
                exact absurd H (by simp)
            · rw [if_neg c6] at H
              exact absurd H (by simp)
          · rw [if_neg c5] at H
            exact absurd H (by simp)
        · rw [if_neg c4] at H
          have c4b0 : decide (x13_1 < (l0.length : Int)) = false := decide_eq_false c4
          clear c4
          obtain rfl := Option.some.inj H
          go_wp2
          repeat (go_quiet (fail); try go_wp2)
          go_ret
          exact ⟨by first | rfl | (simp; done) | (simp [*]; done), by repeat (first | exact Drawn0.refl _ | apply Drawn0.step)⟩
  · rw [if_neg c3] at H
    have c3b0 : ((l0.length : Int) == (l1.length : Int)) = false := beq_eq_false_iff_ne.mpr c3
    have c3b1 : ((l0.length : Int) != (l1.length : Int)) = true := bne_iff_ne.mpr c3
    have c3b2 : (l0.length == l1.length) = false := by first | simpa using c3 | (simp at c3 ⊢; omega)
    obtain rfl := Option.some.inj H
    go_enter Try.func24, Try.ntmps24
    go_wp2
    repeat (go_quiet (fail); try go_wp2)
    go_ret
    exact ⟨by first | rfl | (simp; done) | (simp [*]; done), by repeat (first | exact Drawn0.refl _ | apply Drawn0.step)⟩

end Go.Proofs.Ythbcdmbicfmeaaa.P
end
