/- Texts that the proof of LibraryTurned needs, put together in build order by this session's program (wip/tools/claimtrim.py). -/
import Derived.Test.YtoeeipkiadbnpaaGreatDoorLibraryTurnedM23
import Derived.Test.YtoeeipkiadbnpaaGreatDoorLibraryTurnedM24
import Derived.Test.YtoeeipkiadbnpaaGreatDoorLibraryTurnedM21
import Derived.Test.YtoeeipkiadbnpaaGreatDoorLibraryTurnedM25
section
namespace Go.Proofs.YtoeeipkiadbnpaaGreatDoor.Lib10
open Go.RowKit Go.Proofs.YtoeeipkiadbnpaaGreatDoorW.PrintWords Go.Proofs.YtoeeipkiadbnpaaGreatDoorW.PrintLast Go.Proofs.YtoeeipkiadbnpaaGreatDoorW.PrintMore
set_option linter.unusedVariables false
def lentP (lo : List (Str × ByteArray)) (n : ByteArray) : ByteArray := ((⟨#[32]⟩ ++ n) ++ ⟨#[58]⟩) ++ (get lo n.data.toList).getD ByteArray.empty
def lentV (lo : List (Str × ByteArray)) (ns : List ByteArray) : ByteArray := ns.foldl (fun o n => o ++ lentP lo n) ⟨#[108, 111, 97, 110, 115]⟩
theorem lentV_snoc (lo : List (Str × ByteArray)) (l : List ByteArray) (n : ByteArray) : lentV lo (l ++ [n]) = lentV lo l ++ lentP lo n := by simp [lentV]
/-- Who has what, as a string. -/
def lentAll (lo : List (Str × ByteArray)) : ByteArray := lentV lo (namesOf (keysOf lo))
theorem look_loan {W : World} {b3 : Nat} {lo : List (Str × ByteArray)} (h : MR W b3 (strs lo)) {n : ByteArray} (hn : n.size ≤ 100) : (Instr.lookup 126 (.map (some b3)) (.string n) false).run Tryz.prog W = .ok (.string ((get lo n.data.toList).getD ByteArray.empty)) W := by
  have h1 := MapRep.look0 h law9 Tryz.underlying126 (z := .string ByteArray.empty) (by first | exact Tryz.zero9 _ | (simp [go_sem]; rfl)) (keyOf9 hn)
  rw [h1, get_strs]
  cases get lo n.data.toList <;> rfl
theorem loan_small {st : St} (h : Good st) (n : ByteArray) : ((get st.loans n.data.toList).getD ByteArray.empty).size ≤ 8 := by
  cases hg : get st.loans n.data.toList with
  | none => exact Nat.zero_le _
  | some v =>
    have h2 := (h.loans _ _ hg).2
    cases hc : get st.chairs v.data.toList with
    | none => rw [hc] at h2; cases h2
    | some c => exact name_size (h.k2 _ (List.mem_map.2 ⟨_, get_some_mem hc, rfl⟩))
theorem loan_key {st : St} (h : Good st) {k : Str} (hk : k ∈ keysOf st.loans) : isNameB k = true := by
  cases hg : get st.loans k with
  | none => exact absurd hk (get_none_iff.1 hg)
  | some n =>
    have h1 := (h.loans k n hg).1
    cases hp : get st.pieces k with
    | none => rw [hp] at h1; cases h1
    | some xs => exact h.k1 k (List.mem_map.2 ⟨_, get_some_mem hp, rfl⟩)
section
set_option maxRecDepth 100000
set_option maxHeartbeats 2000000
theorem lent_calls {W : World} {g b1 b2 b3 : Nat} {m1 m2 : List (Str × Value)} {st : St} (hg : Good st) (h : StRec W g b1 b2 b3 m1 m2 (strs st.loans)) (v1 v2 : Value) :
    Calls Tryz.prog 84 #[ptr g, .agg #[v1, v2]] W fun e w' => e = .returned (.tuple #[.string (lentAll st.loans), .int .i64 0]) ∧ Below W.heap.size W w' := by
  obtain ⟨lo, hlo⟩ : ∃ lo, lo = st.loans := ⟨_, rfl⟩
  have HV := Aside0.mk (fun n => loan_small hg n)
  have HKy := Aside0.mk (fun k (hk : k ∈ keysOf st.loans) => name_size (n := ⟨k.toArray⟩) (by simpa using loan_key hg hk))
  have HL8 := Aside0.mk hg.l8
  rw [← hlo] at h HV HKy HL8 ⊢
  obtain ⟨W1, hW1⟩ : ∃ W1, W1 = W.alloc (.cells #[v1, v2] 110) := ⟨_, rfl⟩
  have hb1 : Below W.heap.size W W1 := by rw [hW1]; exact below_alloc (Below.refl _ _) _
  have hst1 := h.below hb1
  have q2 : W1.cell? ⟨g, 2, none⟩ = some (.map (some b3)) := (blk_cell hst1.cells 2).trans rfl
  have HK := Aside0.mk (keys132_calls b3 W1)
  have HS := Aside0.mk (sorted132_calls hst1.p3 (by rw [length_strs]; have := HL8.out; omega))
  have HB1 := Aside0.mk hb1
  have q2x := q2
  rw [hW1] at q2x
  have hW2 := hW1.symm
  have HM := Aside0.mk hst1.p3
  clear h hst1 hb1 hW1 hg hlo
  go_enter Tryz.func84, Tryz.ntmps84
  go_wp2_with (first | (go_at_call 132; (try rw [hW2]); refine HK.out.mono ?_; rintro e w ⟨rfl, rfl⟩) | (go_at_call 79; refine HS.out.mono ?_; rintro e w2 ⟨v, rfl, hr, hb⟩; obtain ⟨A, cap, rfl⟩ := Kd.R_slice hr; have HD := Aside0.mk hb; have HR := Aside0.mk hr; clear hb hr))
  have HBw := Aside0.mk (HB1.out.trans (HD.out.mono HB1.out.size))
  have q2w := cell_below q2 HD.out
  have HMw := Aside0.mk (HM.out.below HD.out)
  obtain ⟨nm, hnm⟩ : ∃ nm, nm = namesOf (keysOf (strs lo)) := ⟨_, rfl⟩
  have HNs : Aside0 (nm.length ≤ 8 ∧ (∀ x ∈ nm, x.size ≤ 8) ∧ nm = namesOf (keysOf lo)) := by
    rw [keys_strs] at hnm
    refine ⟨?_, fun x hx => ?_, hnm⟩
    · rw [hnm, namesOf_length]; have := HL8.out; simpa [keysOf] using this
    · have := HKy.out _ (namesOf_mem (by rw [← hnm]; exact hx)); rw [toArr] at this; exact this
  rw [← hnm] at HR ⊢
  have HCr := Aside0.mk (Kd.R_reads' HR.out).2.2
  have hcap := (Kd.R_reads' HR.out).2.1
  obtain ⟨n, hn⟩ : ∃ n, n = nm.length := ⟨_, rfl⟩
  have HN := Aside0.mk hn
  have hn12 : n ≤ 12 := by rw [hn]; have := HNs.out.1; omega
  rw [← hn] at hcap ⊢
  clear q2x q2 hW2 hnm hn
  go_loopw [6, 16] (fun v6 v16 wr => ∃ k : Nat, k ≤ n ∧ v16 = .int .i64 k ∧ v6 = .string (lentV lo (nm.take k)) ∧ Aside0 ((lentV lo (nm.take k)).size ≤ 5 + 300 * k) ∧ w2 = wr) (fun _ v16 _ => n - (intOf v16).toNat)
  case atStart => exact ⟨0, Nat.zero_le _, rfl, rfl, ⟨by rw [List.take_zero]; exact Nat.le_refl 5⟩, rfl⟩
  case round =>
    obtain ⟨k, hk, rfl, rfl, hsz, rfl⟩ := hrel
    obtain ⟨sv, hsv⟩ : ∃ sv, sv = lentV lo (nm.take k) := ⟨_, rfl⟩
    rw [← hsv] at hsz ⊢
    have HSV := Aside0.mk hsv
    clear hsv
    have hszk := hsz.out
    by_cases hkn : k < n
    · have i0 : (0 : Int) ≤ (k : Int) := by omega
      have i1 : (k : Int) < (n : Int) := by omega
      have hkl : k < nm.length := by rw [← HN.out]; exact hkn
      obtain ⟨x, hx⟩ : ∃ x, x = nm[k] := ⟨_, rfl⟩
      have hxs : x.size ≤ 8 := HNs.out.2.1 x (by rw [hx]; exact List.getElem_mem hkl)
      obtain ⟨ad, he, hcx⟩ := Kd.at_string HCr.out (k : Int) i0 (by omega)
      cases he
      have h1 : rdOf ByteArray.empty nm (k : Int) = x := by
        rw [hx]
        unfold rdOf
        rw [Int.toNat_natCast, List.getD_eq_getElem?_getD, List.getElem?_eq_getElem hkl]
        rfl
      rw [h1, Int.toNat_natCast] at hcx
      have hlk := look_loan HMw.out (n := x) (by omega)
      have hvs := HV.out x
      obtain ⟨y, hy⟩ : ∃ y, y = (get lo x.data.toList).getD ByteArray.empty := ⟨_, rfl⟩
      rw [← hy] at hlk hvs
      have HX := Aside0.mk hx
      have HY := Aside0.mk hy
      clear h1 hx hy
      replace i0 := eq_true i0
      replace i1 := eq_true i1
      go_wp2_with (fail)
      have e1 : sv ++ (⟨#[32]⟩ ++ x ++ ⟨#[58]⟩ ++ y) = lentV lo (nm.take (k + 1)) := by
        rw [List.take_add_one, List.getElem?_eq_getElem hkl, Option.toList_some, lentV_snoc, ← HSV.out, ← HX.out]
        unfold lentP
        rw [← HY.out]
      refine ⟨⟨k + 1, by omega, by first | rfl | simp, by rw [e1], ⟨?_⟩, by first | rfl | trivial⟩, by simp [intOf]; omega⟩
      rw [← e1]
      simp only [ByteArray.size_append]
      have h32 : (⟨#[32]⟩ : ByteArray).size = 1 := rfl
      have h58 : (⟨#[58]⟩ : ByteArray).size = 1 := rfl
      omega
    · have i1 : ¬ (k : Int) < (n : Int) := by omega
      have hkn2 : k = n := by omega
      subst hkn2
      go_wp2_with (fail)
      go_ret2
      have h1 : nm.take k = nm := List.take_of_length_le (by rw [HN.out]; exact Nat.le_refl _)
      rw [HSV.out, h1, HNs.out.2.2]
      exact ⟨rfl, HBw.out⟩
abbrev wLoans : ByteArray := ⟨#[108, 111, 97, 110, 115]⟩
theorem ask_chairs2 {W : World} {g : Nat} {st : St} {S : Nat → Prop} (h0 : StAt S W g st) (hg : Good st) (hT : Tabs W) :
    Calls Tryz.prog 59 #[ptr g, .string wChairs] W fun e w' => e = .returned (.tuple #[.string (seatedAll st.chairs), .int .i64 0]) ∧ Below W.heap.size W w' := by
  obtain ⟨m1, h, _⟩ := h0
  have hs : (wChairs).size < 4294967281 := by decide
  have hword : headW wChairs = wChairs := by decide +kernel
  have hw : (wordsB wChairs).length = 1 := by decide +kernel
  have hline : isLineB wChairs = true := by decide +kernel
  obtain ⟨b1, b2, b3, _, _, _, _, _, _, _, hr⟩ := h
  have HSt := Aside0.mk hr
  have HT := Aside0.mk hT
  have HC := Aside0.mk (fun w (hT : Tabs w) => cut_calls wChairs w hT hs)
  rw [hword] at HC
  have HR := Aside0.mk (fun w (hT : Tabs w) => read_ok0 ByteArray.empty wChairs w hT hs rfl hw hline)
  have HS := Aside0.mk (fun w (hst : StRec w g b1 b2 b3 m1 (ints st.chairs) (strs st.loans)) (hT : Tabs w) v1 v2 => seated_good hg hst v1 v2 hT)
  have HB0 := Aside0.mk (below_alloc (Below.refl W.heap.size W) (.cells #[ptr g] 75))
  have HC0 := Aside0.mk (HC.out _ (HT.out.below HB0.out HT.out.low))
  clear hr hT hword hw hline hg
  go_enter Tryz.func59, Tryz.ntmps59
  go_wp2_with (first | (go_at_call 37; refine HC0.out.mono ?_; rintro e w1 ⟨⟨s1, s2, rfl⟩, hb⟩; have HB1 := Aside0.mk (HB0.out.trans (hb.mono HB0.out.size)); have q0 := cell_below ((blk_cell (World.alloc_heap_new W (.cells #[ptr g] 75)) 0).trans rfl) hb; have HB2 := Aside0.mk (fun o => below_alloc HB1.out o); have q0a := fun o => cell_below q0 (below_alloc (Below.refl w1.heap.size w1) o); clear hb) | (go_at_call 72; refine (HR.out _ (HT.out.below (HB2.out _) HT.out.low)).mono ?_; rintro e w3 ⟨rfl, hb⟩; have HB3 := Aside0.mk ((HB2.out _).trans (hb.mono (HB2.out _).size)); have HB4 := Aside0.mk (fun o => below_alloc HB3.out o); have HS4 := Aside0.mk (fun o v1 v2 => HS.out _ (HSt.out.below (HB4.out o)) (HT.out.below (HB4.out o) HT.out.low) v1 v2); clear hb) | (go_at_call 83; refine (HS4.out _ _ _).mono ?_; rintro e w5 ⟨rfl, hb⟩; have HB5 := Aside0.mk ((HB4.out _).trans (hb.mono (HB4.out _).size)); clear hb))
  go_ret2
  exact ⟨rfl, HB5.out⟩
theorem ask_loans {W : World} {g : Nat} {st : St} {S : Nat → Prop} (h0 : StAt S W g st) (hg : Good st) (hT : Tabs W) :
    Calls Tryz.prog 59 #[ptr g, .string wLoans] W fun e w' => e = .returned (.tuple #[.string (lentAll st.loans), .int .i64 0]) ∧ Below W.heap.size W w' := by
  obtain ⟨m1, h, _⟩ := h0
  have hs : (wLoans).size < 4294967281 := by decide
  have hword : headW wLoans = wLoans := by decide +kernel
  have hw : (wordsB wLoans).length = 1 := by decide +kernel
  have hline : isLineB wLoans = true := by decide +kernel
  obtain ⟨b1, b2, b3, _, _, _, _, _, _, _, hr⟩ := h
  have HSt := Aside0.mk hr
  have HT := Aside0.mk hT
  have HC := Aside0.mk (fun w (hT : Tabs w) => cut_calls wLoans w hT hs)
  rw [hword] at HC
  have HR := Aside0.mk (fun w (hT : Tabs w) => read_ok0 ByteArray.empty wLoans w hT hs rfl hw hline)
  have HS := Aside0.mk (fun w (hst : StRec w g b1 b2 b3 m1 (ints st.chairs) (strs st.loans)) (hT : Tabs w) v1 v2 => lent_calls hg hst v1 v2)
  have HB0 := Aside0.mk (below_alloc (Below.refl W.heap.size W) (.cells #[ptr g] 75))
  have HC0 := Aside0.mk (HC.out _ (HT.out.below HB0.out HT.out.low))
  clear hr hT hword hw hline hg
  go_enter Tryz.func59, Tryz.ntmps59
  go_wp2_with (first | (go_at_call 37; refine HC0.out.mono ?_; rintro e w1 ⟨⟨s1, s2, rfl⟩, hb⟩; have HB1 := Aside0.mk (HB0.out.trans (hb.mono HB0.out.size)); have q0 := cell_below ((blk_cell (World.alloc_heap_new W (.cells #[ptr g] 75)) 0).trans rfl) hb; have HB2 := Aside0.mk (fun o => below_alloc HB1.out o); have q0a := fun o => cell_below q0 (below_alloc (Below.refl w1.heap.size w1) o); clear hb) | (go_at_call 72; refine (HR.out _ (HT.out.below (HB2.out _) HT.out.low)).mono ?_; rintro e w3 ⟨rfl, hb⟩; have HB3 := Aside0.mk ((HB2.out _).trans (hb.mono (HB2.out _).size)); have HB4 := Aside0.mk (fun o => below_alloc HB3.out o); have HS4 := Aside0.mk (fun o v1 v2 => HS.out _ (HSt.out.below (HB4.out o)) (HT.out.below (HB4.out o) HT.out.low) v1 v2); clear hb) | (go_at_call 84; refine (HS4.out _ _ _).mono ?_; rintro e w5 ⟨rfl, hb⟩; have HB5 := Aside0.mk ((HB4.out _).trans (hb.mono (HB4.out _).size)); clear hb))
  go_ret2
  exact ⟨rfl, HB5.out⟩
end
end Go.Proofs.YtoeeipkiadbnpaaGreatDoor.Lib10
end

section
namespace Go.Proofs.YtoeeipkiadbnpaaGreatDoor.Lib10
open Go.RowKit Go.Proofs.YtoeeipkiadbnpaaGreatDoorW.PrintWords Go.Proofs.YtoeeipkiadbnpaaGreatDoorW.PrintLast Go.Proofs.YtoeeipkiadbnpaaGreatDoorW.PrintMore
set_option linter.unusedVariables false
variable {B : Nat}
theorem isBuilder_below {B b : Nat} {bs : List Value} {w w' : World} (h : Lib.IsBuilderF 119 5 B b bs w) (hb : Below w.heap.size w w') : Lib.IsBuilderF 119 5 B b bs w' := by
  have key : ∀ p, Lib.BuilderAtF 119 5 B b p bs w → Lib.BuilderAtF 119 5 B b p bs w' := fun p h => by
    obtain ⟨hB, v, hbk, hown, hne⟩ := h
    refine ⟨hB, v, (hb.block b (Array.getElem?_eq_some_iff.1 hbk).1).trans hbk, ⟨hown.1, ?_⟩, hne⟩
    rcases hown.2 with hn | ⟨g, cap, cur, fz, rfl, hg, hgg, rest⟩
    · exact .inl hn
    · exact .inr ⟨g, cap, cur, fz, rfl, hg, (hb.block g (Array.getElem?_eq_some_iff.1 hgg).1).trans hgg, rest⟩
  rcases h with h | h
  · exact .inl (key _ h)
  · exact .inr (key _ h)
theorem row9_others {b : Nat} {w w' : World} {base : Nat} {v : Value} {xs : List ByteArray} {bs : List Value} {B : Nat} (h : Kd.string.R 9 w base (fun _ => True) v xs) (hI : Lib.IsBuilderF 119 5 B b bs w) (hk : Lib.OthersKept 5 (some b) w w') : Kd.string.R 9 w' base (fun _ => True) v xs := by
  have hbk : ∃ cs, w.heap[b]? = some (.cells cs 119 (0, 0)) := by
    rcases hI with ⟨_, v, h, _⟩ | ⟨_, v, h, _⟩
    · exact ⟨_, h⟩
    · exact ⟨_, h⟩
  obtain ⟨cs, hbk⟩ := hbk
  refine R_apart h rfl (fun k cells hc => ?_)
  rw [hc]
  refine hk k _ hc (fun e => ?_) (fun c fz e => ?_)
  · injection e with e
    subst e
    rw [hbk] at hc
    injection hc with hc
    injection hc with _ e2
    exact absurd e2 (by decide)
  · injection e with _ e2
    exact absurd e2 (by decide)
theorem row9_below {w w' : World} {base : Nat} {v : Value} {xs : List ByteArray} (h : Kd.string.R 9 w base (fun _ => True) v xs) (hb : Below w.heap.size w w') : Kd.string.R 9 w' base (fun _ => True) v xs := R_apart h rfl (fun k cells hc => hb.block k (blk_lt hc))
theorem lit_others {b k : Nat} {w w' : World} {cs : Array Value} (h : w.heap[k]? = some (.cells cs 9 (0, 0))) (hne : k ≠ b) (hk : Lib.OthersKept 5 (some b) w w') : w'.heap[k]? = some (.cells cs 9 (0, 0)) :=
  hk k _ h (fun e => hne (Option.some.inj e)) (fun c fz e => by injection e with _ e2; exact absurd e2 (by decide))
abbrev nl : ByteArray := ⟨#[10]⟩
def pieceName (n : ByteArray) : ByteArray := ⟨#[112, 105, 101, 99, 101, 32]⟩ ++ n
def pieceLine (st : St) (n : ByteArray) : ByteArray := toldV (pieceName n) ((get st.pieces n.data.toList).getD []) ++ nl
def twoOf (st : St) : List ByteArray := [seatedAll st.chairs ++ nl, lentAll st.loans ++ nl]
def flatB (l : List ByteArray) : List UInt8 := l.flatMap fun s => s.data.toList
/-- The whole state as a string. -/
def stateT (st : St) : ByteArray := ⟨(flatB (twoOf st ++ (namesOf (keysOf st.pieces)).map (pieceLine st))).toArray⟩
theorem flatB_snoc (l : List ByteArray) (s : ByteArray) : Lib.byteCells (flatB l) ++ Lib.strCells s = Lib.byteCells (flatB (l ++ [s])) := by
  rw [Lib.strCells_eq, ← Lib.byteCells_append]
  simp [flatB]
theorem flatB_len (l : List ByteArray) (s : ByteArray) : (flatB (l ++ [s])).length = (flatB l).length + s.size := by simp [flatB]
theorem fold_size (f : ByteArray → ByteArray) (K : Nat) : ∀ (l : List ByteArray) (o : ByteArray), (∀ x ∈ l, (f x).size ≤ K) → (l.foldl (fun o n => o ++ f n) o).size ≤ o.size + K * l.length
  | [], o, _ => by simp
  | x :: l, o, h => by
    have ih := fold_size f K l (o ++ f x) (fun y hy => h y (List.mem_cons_of_mem _ hy))
    have h1 := h x List.mem_cons_self
    rw [List.foldl_cons]
    rw [ByteArray.size_append] at ih
    have e : K * (x :: l).length = K * l.length + K := by rw [List.length_cons, Nat.mul_succ]
    omega
theorem itoaB_size (n : Int) (h0 : -9223372036854775808 ≤ n) (h1 : n ≤ 9223372036854775807) : (itoaB n).size ≤ 21 := by
  have := Lib.itoa_length_le n h0 h1
  show (Lib.itoa n).toArray.size ≤ 21
  simpa using this
theorem seats_mem {ch : List (Str × Int)} {x : ByteArray} (h : x ∈ seatsOf ch) : x.data.toList ∈ keysOf ch := by
  obtain ⟨k, hk, rfl⟩ := List.mem_map.1 (List.mem_mergeSort.1 h)
  simpa using hk
theorem seated_size {st : St} (h : Good st) : (seatedAll st.chairs).size ≤ 1000 := by
  have h1 := fold_size (pieceV st.chairs) 40 (seatsOf st.chairs) ⟨#[99, 104, 97, 105, 114, 115]⟩ (fun x hx => by
    have hx8 := name_size (h.k2 _ (seats_mem hx))
    have hr := chair_r8 h x
    have hi := itoaB_size (chairOf st.chairs x) (by omega) (by omega)
    unfold pieceV
    simp only [ByteArray.size_append]
    have h32 : (⟨#[32]⟩ : ByteArray).size = 1 := rfl
    have h58 : (⟨#[58]⟩ : ByteArray).size = 1 := rfl
    omega)
  have hl : (seatsOf st.chairs).length ≤ 8 := by
    have := h.c8
    simpa [seatsOf, keysOf] using this
  have h6 : (⟨#[99, 104, 97, 105, 114, 115]⟩ : ByteArray).size = 6 := rfl
  show (seatedV st.chairs (seatsOf st.chairs)).size ≤ 1000
  unfold seatedV
  omega
theorem lent_size {st : St} (h : Good st) : (lentAll st.loans).size ≤ 1000 := by
  have h1 := fold_size (lentP st.loans) 40 (namesOf (keysOf st.loans)) ⟨#[108, 111, 97, 110, 115]⟩ (fun x hx => by
    have hx8 := name_size (loan_key h (namesOf_mem hx))
    have hv := loan_small h x
    unfold lentP
    simp only [ByteArray.size_append]
    have h32 : (⟨#[32]⟩ : ByteArray).size = 1 := rfl
    have h58 : (⟨#[58]⟩ : ByteArray).size = 1 := rfl
    omega)
  have hl : (namesOf (keysOf st.loans)).length ≤ 8 := by
    rw [namesOf_length]
    have := h.l8
    simpa [keysOf] using this
  have h6 : (⟨#[108, 111, 97, 110, 115]⟩ : ByteArray).size = 5 := rfl
  show (lentV st.loans (namesOf (keysOf st.loans))).size ≤ 1000
  unfold lentV
  omega
theorem look_piece {W : World} {b1 : Nat} {m : List (Str × Value)} (h : MR W b1 m) {n : ByteArray} (hn : n.size ≤ 100) {v : Value} (hv : get m n.data.toList = some v) : (Instr.lookup 124 (.map (some b1)) (.string n) false).run Tryz.prog W = .ok v W := by
  have h1 := MapRep.look0 h law9 Tryz.underlying124 (z := .slice none 0 0) (by simp [go_sem]) (keyOf9 hn)
  rw [h1, hv]
  rfl
theorem nlS_size (s : ByteArray) : (s ++ nl).size = s.size + 1 := by rw [ByteArray.size_append]; rfl
section
set_option maxRecDepth 100000
set_option maxHeartbeats 2000000
theorem text_calls {S : Nat → Prop} {W : World} {g : Nat} {st : St} (h : StAt S W g st) (hg : Good st) (hT : Tabs W) : Calls Tryz.prog 54 #[ptr g] W fun e w' => e = .returned (.string (stateT st)) ∧ Below W.heap.size W w' := by
  have HA := Aside0.mk (fun w (hb : Below W.heap.size W w) => ask_chairs2 (h.below hb) hg (hT.below hb hT.low))
  have HL := Aside0.mk (fun w (hb : Below W.heap.size W w) => ask_loans (h.below hb) hg (hT.below hb hT.low))
  have HG := Aside0.mk hg
  have HT := Aside0.mk hT
  have hz0 := seated_size hg
  have hz1 := lent_size hg
  obtain ⟨c0, hc0⟩ : ∃ c, c = seatedAll st.chairs := ⟨_, rfl⟩
  obtain ⟨c1, hc1⟩ : ∃ c, c = lentAll st.loans := ⟨_, rfl⟩
  have HTw := Aside0.mk (show twoOf st = [c0 ++ nl, c1 ++ nl] by rw [hc0, hc1]; rfl)
  rw [← hc0] at HA hz0
  rw [← hc1] at HL hz1
  have HZ := Aside0.mk (And.intro hz0 hz1)
  obtain ⟨m1, ⟨b1, b2, b3, _, _, _, _, _, _, _, hr⟩, hpc⟩ := h
  have HSt := Aside0.mk hr
  have HPc := Aside0.mk hpc
  have HB0 := Aside0.mk (below_alloc (below_alloc (Below.refl W.heap.size W) (.cells #[.pointer none, .slice none 0 0] 119)) (.cells #[.string wChairs, .string wLoans] 9))
  clear hr hpc hg hT hc0 hc1
  go_enter Tryz.func54, Tryz.ntmps54
  go_wp2_with (fail)
  go_loopw [14] (fun v14 wr => ∃ k : Nat, k ≤ 2 ∧ v14 = .int .i64 k ∧ Aside0 (Lib.IsBuilderF 119 5 W.heap.size W.heap.size (Lib.byteCells (flatB ([c0 ++ nl, c1 ++ nl].take k))) wr) ∧ Aside0 (wr.heap[W.heap.size + 1]? = some (.cells #[.string wChairs, .string wLoans] 9 (0, 0))) ∧ Aside0 (Below W.heap.size W wr)) (fun v14 _ => 2 - (intOf v14).toNat)
  case atStart =>
    refine ⟨0, by decide, rfl, ⟨?_⟩, ⟨?_⟩, ⟨HB0.out⟩⟩
    · exact (Lib.IsBuilderF.of (Lib.fresh_isBuilder 119 5 W)).alloc _
    · have := World.alloc_heap_new (W.alloc (.cells #[.pointer none, .slice none 0 0] 119)) (.cells #[.string wChairs, .string wLoans] 9)
      simpa using this
  case round =>
    obtain ⟨k, hk, rfl, hI, hlit, hbl⟩ := hrel
    have q0 : wr.cell? ⟨W.heap.size + 1, 0, none⟩ = some (.string wChairs) := (blk_cell hlit.out 0).trans rfl
    have q1 : wr.cell? ⟨W.heap.size + 1, 1, none⟩ = some (.string wLoans) := (blk_cell hlit.out 1).trans rfl
    match k, hk with
    | 0, _ =>
      have HZ0 := Aside0.mk (show (Lib.byteCells (flatB ([c0 ++ nl, c1 ++ nl].take 0))).length + (c0 ++ nl).size ≤ 140737488355328 by rw [Lib.byteCells_length, nlS_size, List.take_zero]; show 0 + (c0.size + 1) ≤ _; have := HZ.out.1; omega)
      go_wp2_with (first | (go_at_call 59; refine (HA.out wr hbl.out).mono ?_; rintro e w3 ⟨rfl, hb3⟩; have HB3 := Aside0.mk hb3; have HI3 := Aside0.mk (isBuilder_below hI.out hb3); have HL3 := Aside0.mk (show w3.heap[W.heap.size + 1]? = some (.cells #[.string wChairs, .string wLoans] 9 (0, 0)) from (hb3.block _ (blk_lt hlit.out)).trans hlit.out); have HZ3 := Aside0.mk (Nat.le_of_lt (blk_lt HL3.out)); clear hb3) | (go_at_call 78; refine (Tryz.Builder_WriteString_k W.heap.size W.heap.size _ (c0 ++ nl) w3 HI3.out HZ0.out (by have := HZ3.out; omega)).mono ?_; rintro e w4 ⟨rfl, h4, b4, k4⟩; have HI4 := Aside0.mk h4; have HB4 := Aside0.mk b4; have HK4 := Aside0.mk k4; clear h4 b4 k4))
      refine ⟨⟨1, by decide, by first | rfl | simp, ⟨?_⟩, ⟨lit_others HL3.out (by omega) HK4.out⟩, ⟨(hbl.out.trans (HB3.out.mono hbl.out.size)).trans HB4.out⟩⟩, by simp [intOf]⟩
      have h4 := HI4.out
      rw [flatB_snoc] at h4
      exact .inr h4
    | 1, _ =>
      have HZ0 := Aside0.mk (show (Lib.byteCells (flatB ([c0 ++ nl, c1 ++ nl].take 1))).length + (c1 ++ nl).size ≤ 140737488355328 by rw [Lib.byteCells_length, nlS_size]; show (flatB ([] ++ [c0 ++ nl])).length + _ ≤ _; rw [flatB_len, nlS_size]; show 0 + _ + _ ≤ _; have := HZ.out; omega)
      go_wp2_with (first | (go_at_call 59; refine (HL.out wr hbl.out).mono ?_; rintro e w3 ⟨rfl, hb3⟩; have HB3 := Aside0.mk hb3; have HI3 := Aside0.mk (isBuilder_below hI.out hb3); have HL3 := Aside0.mk (show w3.heap[W.heap.size + 1]? = some (.cells #[.string wChairs, .string wLoans] 9 (0, 0)) from (hb3.block _ (blk_lt hlit.out)).trans hlit.out); have HZ3 := Aside0.mk (Nat.le_of_lt (blk_lt HL3.out)); clear hb3) | (go_at_call 78; refine (Tryz.Builder_WriteString_k W.heap.size W.heap.size _ (c1 ++ nl) w3 HI3.out HZ0.out (by have := HZ3.out; omega)).mono ?_; rintro e w4 ⟨rfl, h4, b4, k4⟩; have HI4 := Aside0.mk h4; have HB4 := Aside0.mk b4; have HK4 := Aside0.mk k4; clear h4 b4 k4))
      refine ⟨⟨2, by decide, by first | rfl | simp, ⟨?_⟩, ⟨lit_others HL3.out (by omega) HK4.out⟩, ⟨(hbl.out.trans (HB3.out.mono hbl.out.size)).trans HB4.out⟩⟩, by simp [intOf]⟩
      have h4 := HI4.out
      rw [flatB_snoc] at h4
      exact .inr h4
    | 2, _ =>
      have hst := HSt.out.below hbl.out
      have p0 : wr.cell? ⟨g, 0, none⟩ = some (.map (some b1)) := (blk_cell hst.cells 0).trans rfl
      have hl8 : m1.length ≤ 1000 := by have h1 := HPc.out.length; have h2 := HG.out.p8; omega
      have HK := Aside0.mk (keys80_calls b1 wr)
      have HS := Aside0.mk (sorted80_calls hst.p1 hl8)
      have HW := Aside0.mk (blk_lt hlit.out)
      clear hst hl8 q0 q1
      go_wp2_with (first | (go_at_call 80; refine HK.out.mono ?_; rintro e w ⟨rfl, rfl⟩) | (go_at_call 79; refine HS.out.mono ?_; rintro e w2 ⟨v, rfl, hr, hb⟩; obtain ⟨A, cap, rfl⟩ := Kd.R_slice hr; have HD := Aside0.mk hb; have HR := Aside0.mk hr; clear hb hr))
      have HBw := Aside0.mk (hbl.out.trans (HD.out.mono hbl.out.size))
      have HIw := Aside0.mk (isBuilder_below hI.out HD.out)
      obtain ⟨nm, hnm⟩ : ∃ nm, nm = namesOf (keysOf m1) := ⟨_, rfl⟩
      have HNs : Aside0 (nm.length ≤ 8 ∧ (∀ x ∈ nm, x.data.toList ∈ keysOf st.pieces) ∧ nm = namesOf (keysOf st.pieces)) := by
        rw [HPc.out.keys] at hnm
        refine ⟨?_, fun x hx => namesOf_mem (by rw [← hnm]; exact hx), hnm⟩
        rw [hnm, namesOf_length]
        have := HG.out.p8
        simpa [keysOf] using this
      rw [← hnm] at HR ⊢
      have hcap := (Kd.R_reads' HR.out).2.1
      obtain ⟨n, hn⟩ : ∃ n, n = nm.length := ⟨_, rfl⟩
      have HN := Aside0.mk hn
      have hn12 : n ≤ 12 := by rw [hn]; have := HNs.out.1; omega
      have HSz := Aside0.mk (show W.heap.size + 2 ≤ w2.heap.size by have h1 := HD.out.size; have h2 := HW.out; omega)
      rw [← hn] at hcap ⊢
      clear hnm hn p0
      go_loopw [35] (fun v35 wt => ∃ k : Nat, k ≤ n ∧ v35 = .int .i64 k ∧ Aside0 (Lib.IsBuilderF 119 5 W.heap.size W.heap.size (Lib.byteCells (flatB (twoOf st ++ (nm.take k).map (pieceLine st)))) wt) ∧ Aside0 (Kd.string.R 9 wt (wr.heap.size + 1) (fun _ => True) (.slice A nm.length cap) nm) ∧ Aside0 (Below W.heap.size W wt) ∧ Aside0 ((flatB (twoOf st ++ (nm.take k).map (pieceLine st))).length ≤ 3000 + 400 * k) ∧ Aside0 (W.heap.size + 2 ≤ wt.heap.size)) (fun v35 _ => n - (intOf v35).toNat)
      case atStart =>
        refine ⟨0, Nat.zero_le _, rfl, ⟨?_⟩, ⟨HR.out⟩, ⟨HBw.out⟩, ⟨?_⟩, ⟨HSz.out⟩⟩
        · rw [HTw.out, List.take_zero, List.map_nil, List.append_nil]; exact HIw.out
        · rw [HTw.out, List.take_zero, List.map_nil, List.append_nil]
          show (flatB ([c0 ++ nl] ++ [c1 ++ nl])).length ≤ _
          rw [flatB_len]
          show (flatB ([] ++ [c0 ++ nl])).length + _ ≤ _
          rw [flatB_len, nlS_size, nlS_size]
          show 0 + _ + _ ≤ _
          have := HZ.out
          omega
      case round =>
        obtain ⟨k, hk, rfl, hJ, hrow, hbt, hsz, hst2⟩ := hrel
        by_cases hkn : k < n
        · have i0 : (0 : Int) ≤ (k : Int) := by omega
          have i1 : (k : Int) < (n : Int) := by omega
          have hkl : k < nm.length := by rw [← HN.out]; exact hkn
          obtain ⟨x, hx⟩ : ∃ x, x = nm[k] := ⟨_, rfl⟩
          have hxm := HNs.out.2.1 x (by rw [hx]; exact List.getElem_mem hkl)
          have hxs := name_size (HG.out.k1 _ hxm)
          obtain ⟨ad, he, hcx⟩ := Kd.at_string (Kd.R_reads' hrow.out).2.2 (k : Int) i0 (by omega)
          cases he
          have h1 : rdOf ByteArray.empty nm (k : Int) = x := by
            rw [hx]
            unfold rdOf
            rw [Int.toNat_natCast, List.getD_eq_getElem?_getD, List.getElem?_eq_getElem hkl]
            rfl
          rw [h1, Int.toNat_natCast] at hcx
          have hstt := HSt.out.below hbt.out
          have p0 : wr.cell? ⟨g, 0, none⟩ = some (.map (some b1)) := (blk_cell hstt.cells 0).trans rfl
          obtain ⟨v, xs, hgv, hgx, hrv⟩ : ∃ v xs, get m1 x.data.toList = some v ∧ get st.pieces x.data.toList = some xs ∧ (Kd.int .i64).R 3 W 9 (fun _ => True) v xs := by
            rcases HPc.out.get x.data.toList with ⟨h1, h2⟩ | ⟨v, xs, h1, h2, h3⟩
            · exact absurd hxm (get_none_iff.1 h2)
            · exact ⟨v, xs, h1, h2, h3⟩
          obtain ⟨A2, c2, rfl⟩ := Kd.R_slice hrv
          have hlk := look_piece hstt.p1 (by omega) hgv
          have hnt := HG.out.notes _ _ hgx
          have hC2 := Kd.C_below (Kd.R_reads' hrv).2.2 hbt.out
          have HTd := Aside0.mk (told_calls (word := pieceName x) hC2 (Kd.R_reads' hrv).2.1 (fun y hy => by have := hnt.2.2 y hy; omega) (by have := hnt.2.1; omega) (by unfold pieceName; rw [ByteArray.size_append]; show 6 + _ ≤ _; omega) (HT.out.below hbt.out HT.out.low))
          have HX1 := Aside0.mk (show pieceLine st x = toldV (pieceName x) xs ++ nl by unfold pieceLine; rw [hgx]; rfl)
          have HX := Aside0.mk (And.intro hx (show (pieceName x).size + 30 * xs.length ≤ 300 by have h3 := hnt.2.1; unfold pieceName; rw [ByteArray.size_append]; show 6 + _ + _ ≤ _; omega))
          have hpn : (⟨#[112, 105, 101, 99, 101, 32]⟩ : ByteArray) ++ x = pieceName x := rfl
          clear h1 hx hgv hgx hrv hnt hC2 hstt hxm
          replace i0 := eq_true i0
          replace i1 := eq_true i1
          go_wp2_with (first | (go_at_call 81; (try rw [hpn]); refine HTd.out.mono ?_; rintro e w3 ⟨rfl, hts, hb3⟩; have HB3 := Aside0.mk hb3; have HI3 := Aside0.mk (isBuilder_below hJ.out hb3); have HR3 := Aside0.mk (row9_below hrow.out hb3); have HZ3 := Aside0.mk (show (Lib.byteCells (flatB (twoOf st ++ (nm.take k).map (pieceLine st)))).length + (toldV (pieceName x) xs ++ nl).size ≤ 140737488355328 by rw [Lib.byteCells_length, nlS_size]; have h1 := hsz.out; have h2 := HX.out.2; omega); have HTs := Aside0.mk hts; have hts2 : (toldV (pieceName x) xs).size ≤ 300 := (by have h2 := HX.out.2; omega); clear hb3 hts) | (go_at_call 78; refine (Tryz.Builder_WriteString_k W.heap.size W.heap.size _ (toldV (pieceName x) xs ++ nl) w3 HI3.out HZ3.out (by have h1 := hst2.out; have h2 := HB3.out.size; omega)).mono ?_; rintro e w4 ⟨rfl, h4, b4, k4⟩; have HI4 := Aside0.mk h4; have HB4 := Aside0.mk b4; have HK4 := Aside0.mk k4; clear h4 b4 k4))
          have e1 : (twoOf st ++ (nm.take k).map (pieceLine st)) ++ [toldV (pieceName x) xs ++ nl] = twoOf st ++ (nm.take (k + 1)).map (pieceLine st) := by
            rw [List.take_add_one, List.getElem?_eq_getElem hkl, Option.toList_some, List.map_append, List.append_assoc, ← HX.out.1, ← HX1.out]
            rfl
          refine ⟨⟨k + 1, by omega, by first | rfl | simp, ⟨?_⟩, ⟨row9_others HR3.out HI3.out HK4.out⟩, ⟨(hbt.out.trans (HB3.out.mono (by have := hst2.out; omega))).trans HB4.out⟩, ⟨?_⟩, ⟨?_⟩⟩, by simp [intOf]; omega⟩
          · have h4 := HI4.out
            rw [flatB_snoc, e1] at h4
            exact .inr h4
          · rw [← e1, flatB_len, nlS_size]
            have h1 := hsz.out
            omega
          · have h1 := hst2.out
            have h2 := HB3.out.size
            have h3 := HB4.out.size
            omega
        · have i1 : ¬ (k : Int) < (n : Int) := by omega
          have hkn2 : k = n := by omega
          subst hkn2
          go_wp2_with (go_at_call 82; refine (Tryz.Builder_String_any_k W.heap.size W.heap.size _ wr hJ.out (by have := hst2.out; omega)).mono ?_; rintro e w5 ⟨rfl, _, b5, _⟩; have HB5 := Aside0.mk b5; clear b5)
          go_ret
          have h1 : List.take k (List.map (pieceLine st) nm) = List.map (pieceLine st) nm := List.take_of_length_le (by rw [List.length_map, HN.out]; exact Nat.le_refl _)
          rw [h1, HNs.out.2.2]
          exact ⟨rfl, hbt.out.trans HB5.out⟩
    | k + 3, hk => exact absurd hk (by omega)
theorem state_calls {W : World} {lg sg rg : Nat} {vj : Value} {lines : List ByteArray} {st : St} (h : LibS B W lg sg rg vj lines st) (hT : Tabs W) : Calls Tryz.prog 27 #[ptr lg] W fun e w' => e = .returned (.string (stateT st)) ∧ Below W.heap.size W w' := by
  have HU := Aside0.mk (unmade_calls h.cells)
  have HX := Aside0.mk (text_calls h.sat h.good hT)
  have q0 : W.cell? ⟨lg, 0, none⟩ = some (ptr sg) := (blk_cell h.cells 0).trans rfl
  clear h hT
  go_enter Tryz.func27, Tryz.ntmps27
  go_wp2_with (first | (go_at_call 35; refine HU.out.mono ?_; rintro e w' ⟨rfl, rfl⟩) | (go_at_call 54; refine HX.out.mono ?_; rintro e w1 ⟨rfl, hb⟩; have HB1 := Aside0.mk hb; clear hb))
  go_ret
  exact ⟨rfl, HB1.out⟩
end
end Go.Proofs.YtoeeipkiadbnpaaGreatDoor.Lib10
end

section
namespace Go.Proofs.YtoeeipkiadbnpaaGreatDoor.Lib10
open Go.RowKit Go.Proofs.YtoeeipkiadbnpaaGreatDoorW.PrintWords Go.Proofs.YtoeeipkiadbnpaaGreatDoorW.PrintLast Go.Proofs.YtoeeipkiadbnpaaGreatDoorW.PrintMore
set_option linter.unusedVariables false
variable {B : Nat}
def runS (p : List ByteArray × St) (line : ByteArray) : List ByteArray × St := ((libDoV (mkReel 20000 p.1) p.1 p.2 line).lines, (libDoV (mkReel 20000 p.1) p.1 p.2 line).st)
/-- What doing lines leaves. -/
def runs (l : List ByteArray) : List ByteArray × St := l.foldl runS ([], St.begin)
theorem runs_take {l : List ByteArray} {k : Nat} {y : ByteArray} (h : l[k]? = some y) : runs (l.take (k + 1)) = runS (runs (l.take k)) y := by
  unfold runs
  rw [List.take_add_one, h, Option.toList_some, List.foldl_append]
  rfl
theorem take_min60 (l : List ByteArray) : l.take 60 = l.take (min l.length 60) := by
  rcases Nat.le_total l.length 60 with h | h
  · rw [Nat.min_eq_left h, List.take_of_length_le h, List.take_of_length_le (Nat.le_refl _)]
  · rw [Nat.min_eq_right h]
/-- What opened answers. -/
def OpenedEnd2 (W : World) (l : List ByteArray) (e : Ending) (w' : World) : Prop := ∃ lg, e = .returned (.tuple #[ptr lg, ptr W.heap.size, .bool true]) ∧ Ran W.heap.size w' lg W.heap.size (runs (l.take 60)).1 (runs (l.take 60)).2 ∧ Below W.heap.size W w'
section
set_option maxRecDepth 100000
set_option maxHeartbeats 2000000
theorem opened_runs {W : World} {A : Option Addr} {c : Nat} {l : List ByteArray} (hC : Kd.string.C W A l.length l) (hc : l.length ≤ c) (hs : ∀ x ∈ l, x.size < 4294967281) (hT : Tabs W) : Calls Tryz.prog 11 #[.slice A l.length c] W (OpenedEnd2 W l) := by
  have HN := Aside0.mk (new_ran hT)
  have HC := Aside0.mk hC
  have HS := Aside0.mk hs
  have HT := Aside0.mk hT
  obtain ⟨n, hn⟩ : ∃ n, n = min l.length 60 := ⟨_, rfl⟩
  have hmin : min (l.length : Int) 60 = (n : Int) := by omega
  have HNl := Aside0.mk (show n ≤ l.length by omega)
  have h60 : n ≤ 60 := by omega
  have HTk := Aside0.mk (show l.take 60 = l.take n by rw [hn]; exact take_min60 l)
  clear hC hs hT hn
  go_enter Tryz.func11, Tryz.ntmps11
  go_wp2_with (first | (go_at_call 17; refine HN.out.mono ?_; rintro e w1 ⟨rfl, hb1, hlt1, hop⟩; have HB1 := Aside0.mk hb1; have HOp := Aside0.mk hop; clear hb1 hlt1 hop) | (go_at_call 18; refine HOp.out.mono ?_; rintro e w2 ⟨lg, rfl, hrn, hb2⟩; have HRn := Aside0.mk hrn; have HB2 := Aside0.mk hb2; clear hrn hb2))
  clear hmin
  go_loopw [30] (fun v30 wr => ∃ (k : Nat) (lines : List ByteArray) (st : St), k ≤ n ∧ v30 = .int .i64 k ∧ Aside0 (Ran W.heap.size wr lg W.heap.size lines st) ∧ Aside0 (Below W.heap.size W wr) ∧ Aside0 (runs (l.take k) = (lines, st))) (fun v30 _ => n - (intOf v30).toNat)
  case atStart => exact ⟨0, [], St.begin, Nat.zero_le _, rfl, HRn, HB2, ⟨rfl⟩⟩
  case round =>
    obtain ⟨k, lines, st, hk, rfl, hrn, hbl, hrr⟩ := hrel
    by_cases hlt : k < n
    · have i0 : (0 : Int) ≤ (k : Int) := by omega
      have i1 : (k : Int) < (n : Int) := by omega
      have hkl : k < l.length := by have := HNl.out; omega
      obtain ⟨y, hy⟩ : ∃ y, l[k]? = some y := ⟨_, List.getElem?_eq_getElem hkl⟩
      have HSy := Aside0.mk (HS.out y (List.mem_of_getElem? hy))
      obtain ⟨ad, he, hc⟩ := Kd.at_string (Kd.C_below HC.out hbl.out) k i0 (by omega)
      cases he
      have h1 : rdOf ByteArray.empty l (k : Int) = y := by
        unfold rdOf
        rw [Int.toNat_natCast, List.getD_eq_getElem?_getD, hy]
        rfl
      rw [h1, Int.toNat_natCast] at hc
      have HDo := Aside0.mk (hrn.out.do (HT.out.below hbl.out HT.out.low) HSy.out)
      have HY := Aside0.mk hy
      clear h1 hy
      replace i0 := eq_true i0
      replace i1 := eq_true i1
      go_wp2_with (go_at_call 15; refine HDo.out.mono ?_; rintro e w6 ⟨rfl, hr6, hb6⟩; have HR6 := Aside0.mk hr6; have HB6 := Aside0.mk (hbl.out.trans hb6); clear hr6 hb6)
      exact ⟨⟨k + 1, _, _, by omega, by first | rfl | simp, HR6, HB6, ⟨by rw [runs_take HY.out, hrr.out]; rfl⟩⟩, by simp [intOf]; omega⟩
    · have i1 : ¬ (k : Int) < (n : Int) := by omega
      go_wp2_with fail
      go_ret3
      obtain rfl : k = n := by omega
      refine ⟨lg, rfl, ?_, hbl.out⟩
      rw [HTk.out, hrr.out]
      exact hrn.out
theorem ran_state {w : World} {lg rg : Nat} {lines : List ByteArray} {st : St} (h : Ran B w lg rg lines st) (hT : Tabs w) : Calls Tryz.prog 27 #[ptr lg] w fun e w' => e = .returned (.string (stateT st)) ∧ Below w.heap.size w w' := by
  obtain ⟨sg, vj, A, m, c, h1, h2⟩ := h.at_
  exact state_calls h1 hT
theorem ran_journal {w : World} {lg rg : Nat} {lines : List ByteArray} {st : St} (h : Ran B w lg rg lines st) : Calls Tryz.prog 12 #[ptr lg] w fun e w' => (∃ A c, e = .returned (.slice A lines.length c) ∧ Kd.string.R 9 w' w.heap.size (fun j => w.heap.size ≤ j) (.slice A lines.length c) lines) ∧ Below w.heap.size w w' := by
  obtain ⟨sg, vj, A, m, c, h1, h2⟩ := h.at_
  refine (journal_calls h1).mono ?_
  rintro e w' ⟨⟨v, rfl, hr⟩, hb⟩
  obtain ⟨A, c, rfl⟩ := Kd.R_slice hr
  exact ⟨⟨A, c, rfl, hr⟩, hb⟩
theorem ran_bytes {w : World} {lg rg : Nat} {lines : List ByteArray} {st : St} (h : Ran B w lg rg lines st) : Calls Tryz.prog 22 #[ptr rg] w fun e w' => (∃ A c, e = .returned (.slice A (booksV lines).length c) ∧ (Kd.int .u8).R 5 w' w.heap.size (fun j => w.heap.size ≤ j) (.slice A (booksV lines).length c) (booksV lines)) ∧ Below w.heap.size w w' := by
  obtain ⟨sg, vj, A, m, c, h1, h2⟩ := h.at_
  refine (bytes_fresh h2).mono ?_
  rintro e w' ⟨⟨v, rfl, hr⟩, hb⟩
  obtain ⟨A, c, rfl⟩ := Kd.R_slice hr
  exact ⟨⟨A, c, rfl, hr⟩, hb⟩
theorem LibS.lower {B' : Nat} {w : World} {lg sg rg : Nat} {vj : Value} {lines : List ByteArray} {st : St} (h : LibS B' w lg sg rg vj lines st) (hb : B ≤ B') : LibS B w lg sg rg vj lines st :=
  ⟨h.cells, Nat.le_trans hb h.low, Kd.R_lower h.jr hb, h.sat.mono (fun k hk => Nat.le_trans hb hk), h.good, h.short, h.bk⟩
theorem Ran.few {w : World} {lg rg : Nat} {lines : List ByteArray} {st : St} (h : Ran B w lg rg lines st) : lines.length ≤ 1000000 := by
  obtain ⟨sg, vj, A, m, c, h1, h2⟩ := h.at_
  exact h1.few
theorem Ran.short {w : World} {lg rg : Nat} {lines : List ByteArray} {st : St} (h : Ran B w lg rg lines st) : ∀ x ∈ lines, x.size < 4294967281 := by
  obtain ⟨sg, vj, A, m, c, h1, h2⟩ := h.at_
  exact fun x hx => by have := h1.short x hx; omega
end
end Go.Proofs.YtoeeipkiadbnpaaGreatDoor.Lib10
end

section
namespace Go.Proofs.YtoeeipkiadbnpaaGreatDoor.Lib10
open Go.RowKit Go.Proofs.YtoeeipkiadbnpaaGreatDoorW.PrintWords Go.Proofs.YtoeeipkiadbnpaaGreatDoorW.PrintLast Go.Proofs.YtoeeipkiadbnpaaGreatDoorW.PrintMore
set_option linter.unusedVariables false
variable {B : Nat}
/-- Writing the books anew: how many bytes were put, the error, the reel. -/
def healV : List Int → Nat → ReelV → Int → Int × Int × ReelV
  | [], _, x, n => (n, 0, x)
  | b :: bs, i, x, n => if x.b.getD i 0 = b then healV bs (i + 1) x n else if (putV x (i : Int) b).1 = 0 then healV bs (i + 1) (putV x (i : Int) b).2 (n + 1) else (0, (putV x (i : Int) b).1, (putV x (i : Int) b).2)
theorem putV_in {x : ReelV} {i : Nat} {b : Int} (ho : x.off = false) (hi : i < x.b.length) : putV x (i : Int) b = if x.fuse = 0 then (8, { x with off := true }) else (0, { x with fuse := less x.fuse, b := x.b.set i b }) := by
  unfold putV
  rw [if_neg (by rw [ho]; decide), if_neg (by omega), Int.toNat_natCast]
/-- At how many places two rows differ. -/
def diffs : List Int → List Int → Nat
  | b :: bs, y :: ys => (if y = b then 0 else 1) + diffs bs ys
  | _, _ => 0
theorem drop_set_next (l : List Int) (i : Nat) (v : Int) : (l.set i v).drop (i + 1) = l.drop (i + 1) := by
  rw [List.drop_set_of_lt (by omega)]
theorem healV_free : ∀ (bs : List Int) (i : Nat) (x : ReelV) (n : Int), x.off = false → x.fuse = -1 → i + bs.length = x.b.length → healV bs i x n = (n + (diffs bs (x.b.drop i) : Int), 0, { x with b := x.b.take i ++ bs })
  | [], i, x, n, ho, hf, hl => by
    have e : x.b.take i = x.b := List.take_of_length_le (by simp at hl; omega)
    rw [healV, List.append_nil, e]
    simp [diffs]
  | b :: bs, i, x, n, ho, hf, hl => by
    have hi : i < x.b.length := by simp at hl; omega
    have hd : x.b.drop i = x.b[i] :: x.b.drop (i + 1) := List.drop_eq_getElem_cons hi
    have hg : x.b.getD i 0 = x.b[i] := by rw [List.getD_eq_getElem?_getD, List.getElem?_eq_getElem hi]; rfl
    have ht : x.b.take (i + 1) = x.b.take i ++ [x.b[i]] := (List.take_append_getElem hi).symm
    rw [healV, hg]
    by_cases hx : x.b[i] = b
    · rw [if_pos hx, healV_free bs (i + 1) x n ho hf (by simp at hl ⊢; omega), hd, diffs, if_pos hx, ht, hx, List.append_assoc]
      simp
    · have hnz : ¬ x.fuse = 0 := by rw [hf]; decide
      rw [if_neg hx, putV_in ho hi, if_neg hnz, if_pos rfl]
      have hl1 : less x.fuse = -1 := by rw [hf]; rfl
      rw [healV_free bs (i + 1) { x with fuse := less x.fuse, b := x.b.set i b } (n + 1) ho hl1 (by simp at hl ⊢; omega)]
      have e1 : (x.b.set i b).take (i + 1) = x.b.take i ++ [b] := by
        rw [List.take_set, ht, List.set_append_right _ _ (by simp; omega)]
        have : i - (x.b.take i).length = 0 := by simp; omega
        rw [this]
        rfl
      rw [hd, diffs, if_neg hx]
      show (n + 1 + ((diffs bs ((x.b.set i b).drop (i + 1)) : Nat) : Int), 0, _) = _
      rw [drop_set_next]
      show (_, _, ({ x with fuse := less x.fuse, b := (x.b.set i b).take (i + 1) ++ bs } : ReelV)) = _
      rw [e1, hl1, ← hf, List.append_assoc]
      simp
      omega
/-- Within Heal. -/
structure HealAt (B : Nat) (W w : World) (lg sg rg : Nat) (vj : Value) (lines : List ByteArray) (st : St) (A : Option Addr) (m c : Nat) (x : ReelV) (vb : Value) (bk : List Int) : Prop where
  reel : ReelIs B w rg A m c x
  off : x.off = false
  lib : LibS B w lg sg rg vj lines st
  row : (Kd.int .u8).R 5 w W.heap.size (fun j => W.heap.size ≤ j) vb bk
  kept : Kept W w (RF rg A m c)
  bel : Below B W w
theorem HealAt.put {W w w' : World} {lg sg rg : Nat} {vj : Value} {lines : List ByteArray} {st : St} {A : Option Addr} {m c : Nat} {x x' : ReelV} {vb : Value} {bk : List Int} (h : HealAt B W w lg sg rg vj lines st A m c x vb bk) (hF : ∀ k, RF rg A m c k → k < W.heap.size) (ht : ReelTo B w rg A m c m x' w') (ho : x'.off = false) : HealAt B W w' lg sg rg vj lines st A m c x' vb bk :=
  ⟨ht.reel, ho, h.lib.kept ht.kept (fun k hk => h.reel.blk k hk), R_same h.row rfl (fun k hk hlt => ht.kept.2 k hlt (fun hf => by have := hF k hf; omega)), h.kept.then_ ht.kept (fun j hj => .inl hj), h.bel.trans ht.bel⟩
section
set_option maxRecDepth 100000
set_option maxHeartbeats 2000000
theorem heal_calls {W : World} {lg sg rg : Nat} {vj : Value} {lines : List ByteArray} {st : St} {A : Option Addr} {m c : Nat} {x : ReelV} (hL : LibS B W lg sg rg vj lines st) (hR : ReelIs B W rg A m c x) (ho : x.off = false) (hlen : (booksV lines).length ≤ x.b.length) :
    Calls Tryz.prog 30 #[ptr lg] W fun e w' => e = .returned (.tuple #[.int .i64 (healV (booksV lines) 0 x 0).1, .int .i64 (healV (booksV lines) 0 x 0).2.1]) ∧ ReelTo B W rg A m c m (healV (booksV lines) 0 x 0).2.2 w' := by
  obtain ⟨A4, c4, rfl⟩ := Kd.R_slice hL.jr
  have HU := Aside0.mk (unmade_calls hL.cells)
  have hbe := behind_on (hL.read hR) hR.fine.s0 ho hL.short hL.few
  rw [if_neg (by rw [hR.len.1]; omega)] at hbe
  have HBe := Aside0.mk hbe
  have HL := Aside0.mk hL
  have HR := Aside0.mk (And.intro hR ho)
  have HF := Aside0.mk (fun k hk => (hR.own k hk).2)
  have hm := hR.len.1
  have hmc := hR.len.2
  have hBW : B ≤ W.heap.size := by have := hR.low; have := blk_lt hR.rc; omega
  have HBW := Aside0.mk hBW
  have q2 : W.cell? ⟨lg, 2, none⟩ = some (.slice A4 lines.length c4) := (blk_cell hL.cells 2).trans rfl
  obtain ⟨bk, hbk⟩ : ∃ bk, bk = booksV lines := ⟨_, rfl⟩
  have HBk := Aside0.mk (show booksV lines = bk from hbk.symm)
  obtain ⟨r, hr⟩ : ∃ r, healV (booksV lines) 0 x 0 = r := ⟨_, rfl⟩
  have HRs := Aside0.mk hr
  have h1m : m ≤ 100000 := by have := hR.fine.len; have := hR.fine.size1; omega
  rw [hr]
  rw [HBk.out] at HRs hlen
  have HM := Aside0.mk hm
  clear hr hbe hL hR ho hbk hm
  go_enter Tryz.func30, Tryz.ntmps30
  go_wp2_with (first | (go_at_call 35; refine HU.out.mono ?_; rintro e w' ⟨rfl, rfl⟩) | (go_at_call 41; refine HBe.out.mono ?_; rintro e w1 ⟨rfl, hb⟩; have q2b := cell_below q2 hb; have HB1 := Aside0.mk hb; have HL1 := Aside0.mk (HL.out.below hb); clear hb) | (go_at_call 42; refine (books_calls (Kd.R_reads' HL1.out.jr).2.2 rfl HL1.out.short HL1.out.few).mono ?_; rintro e w2 ⟨⟨vb, rfl, hr⟩, hb⟩; rw [HBk.out] at hr; obtain ⟨AB, cB, rfl⟩ := Kd.R_slice hr; have HRw := Aside0.mk hr; have HB2 := Aside0.mk (HB1.out.trans (hb.mono HB1.out.size)); have HL2 := Aside0.mk (HL1.out.below hb); clear hr hb))
  have HA2 := Aside0.mk (show HealAt B W w2 lg sg rg (.slice A4 lines.length c4) lines st A m c x (.slice AB bk.length cB) bk from ⟨HR.out.1.below HB2.out, HR.out.2, HL2.out, Kd.R_mono (Kd.R_lower HRw.out HB1.out.size) (fun k hk => Nat.le_trans HB1.out.size hk), Kept.of_below HB2.out _, HB2.out.mono HBW.out⟩)
  have hcB := (Kd.R_reads' HRw.out).2.1
  obtain ⟨n, hn⟩ : ∃ n, n = bk.length := ⟨_, rfl⟩
  have HN := Aside0.mk hn
  rw [← hn] at hcB hlen ⊢
  clear hn q2 q2b
  go_loopw [5, 22] (fun v5 v22 wr => ∃ (k q : Nat) (y : ReelV), k ≤ n ∧ v22 = .int .i64 k ∧ v5 = .int .i64 q ∧ q ≤ k ∧ Aside0 (healV (bk.drop k) k y q = r) ∧ Aside0 (y.b.length = x.b.length) ∧ Aside0 (HealAt B W wr lg sg rg (.slice A4 lines.length c4) lines st A m c y (.slice AB bk.length cB) bk)) (fun _ v22 _ => n - (intOf v22).toNat)
  case atStart => exact ⟨0, 0, x, Nat.zero_le _, rfl, rfl, Nat.le_refl _, HRs, ⟨rfl⟩, HA2⟩
  case round =>
    obtain ⟨k, q, y, hk, rfl, rfl, hq, hhe, hyl, hat⟩ := hrel
    by_cases hkn : k < n
    · have i0 : (0 : Int) ≤ (k : Int) := by omega
      have i1 : (k : Int) < (n : Int) := by omega
      have i2 : (k : Int) < (m : Int) := by have := HM.out; omega
      have hkb : k < bk.length := by rw [← HN.out]; exact hkn
      obtain ⟨b, hb⟩ : ∃ b, b = bk[k] := ⟨_, rfl⟩
      obtain ⟨ad, he, hcx⟩ := Kd.at_int (Kd.R_reads' hat.out.row).2.2 (k : Int) i0 (by omega)
      cases he
      have h1 : rd bk (k : Int) = b := by
        rw [hb]
        show bk.getD (k : Int).toNat 0 = _
        rw [Int.toNat_natCast, List.getD_eq_getElem?_getD, List.getElem?_eq_getElem hkb]
        rfl
      rw [h1, Int.toNat_natCast] at hcx
      have c1 : wr.cell? ⟨lg, 1, none⟩ = some (ptr rg) := (blk_cell hat.out.lib.cells 1).trans rfl
      have r0 := hat.out.reel.rc.c0
      have hyk : k < y.b.length := by have := hyl.out; omega
      obtain ⟨ad2, he2, hcy⟩ := Kd.at_int (Kd.R_reads' hat.out.reel.row).2.2 (k : Int) i0 (by omega)
      cases he2
      obtain ⟨v, hv⟩ : ∃ v, v = y.b.getD k 0 := ⟨_, rfl⟩
      rw [show rd y.b (k : Int) = v by rw [hv]; show y.b.getD (k : Int).toNat 0 = _; rw [Int.toNat_natCast], Int.toNat_natCast] at hcy
      have hdr : bk.drop k = b :: bk.drop (k + 1) := by rw [hb]; exact List.drop_eq_getElem_cons hkb
      have hh := hhe.out
      rw [hdr, healV, ← hv] at hh
      have HP := Aside0.mk (reel_put hat.out.reel (k : Int) b)
      have hpv := putV_in (b := b) hat.out.off hyk
      have HKn := Aside0.mk (wrap_step k (by omega))
      have HKq := Aside0.mk (wrap_step q (by omega))
      clear h1 hb hv hdr
      replace i0 := eq_true i0
      replace i1 := eq_true i1
      replace i2 := eq_true i2
      by_cases hx : v = b
      · rw [if_pos hx] at hh
        subst hx
        have HH := Aside0.mk hh
        clear hh hpv HP hhe
        go_wp2_with (fail)
        exact ⟨⟨k + 1, q, y, by omega, by first | rw [HKn.out] | rfl, rfl, by omega, HH, hyl, hat⟩, by first | (rw [HKn.out]; show n - (((k + 1 : Nat) : Int)).toNat < n - ((k : Nat) : Int).toNat; rw [Int.toNat_natCast, Int.toNat_natCast]; omega) | (simp [intOf]; omega)⟩
      · rw [if_neg hx] at hh
        have d1 : (v == b) = false := beq_eq_false_iff_ne.2 hx
        by_cases hf : y.fuse = 0
        · rw [hpv, if_pos hf, if_neg (show ¬ (8 : Int) = 0 by decide)] at hh
          have HPv := Aside0.mk (show putV y (k : Int) b = (8, { y with off := true }) by rw [hpv, if_pos hf])
          have HH := Aside0.mk hh
          clear hh hpv hf hx hhe
          go_wp2_with (go_at_call 32; refine HP.out.mono ?_; rintro e w5 ⟨rfl, ht⟩; rw [HPv.out] at ht ⊢; have HT5 := Aside0.mk ht; clear ht)
          go_ret2
          rw [← HH.out]
          exact ⟨rfl, ⟨HT5.out.reel, hat.out.kept.then_ HT5.out.kept (fun j hj => .inl hj), hat.out.bel.trans HT5.out.bel⟩⟩
        · rw [hpv, if_neg hf, if_pos rfl] at hh
          have HPv := Aside0.mk (show putV y (k : Int) b = (0, { y with fuse := less y.fuse, b := y.b.set k b }) by rw [hpv, if_neg hf])
          have HH := Aside0.mk (show healV (bk.drop (k + 1)) (k + 1) { y with fuse := less y.fuse, b := y.b.set k b } ((q + 1 : Nat) : Int) = r from hh)
          clear hh hpv hf hx hhe
          go_wp2_with (go_at_call 32; refine HP.out.mono ?_; rintro e w5 ⟨rfl, ht⟩; rw [HPv.out] at ht ⊢; have HT5 := Aside0.mk ht; clear ht)
          exact ⟨⟨k + 1, q + 1, _, by omega, by first | rw [HKn.out] | rfl, by first | rw [HKq.out] | rfl, by omega, HH, ⟨by simpa using hyl.out⟩, ⟨hat.out.put HF.out HT5.out hat.out.off⟩⟩, by first | (rw [HKn.out]; show n - (((k + 1 : Nat) : Int)).toNat < n - ((k : Nat) : Int).toNat; rw [Int.toNat_natCast, Int.toNat_natCast]; omega) | (simp [intOf]; omega)⟩
    · have i1 : ¬ (k : Int) < (n : Int) := by omega
      obtain rfl : k = n := by omega
      go_wp2_with (fail)
      go_ret2
      have h := hhe.out
      rw [HN.out, List.drop_length, healV] at h
      rw [← h]
      exact ⟨rfl, ⟨hat.out.reel, hat.out.kept, hat.out.bel⟩⟩
end
end Go.Proofs.YtoeeipkiadbnpaaGreatDoor.Lib10
end

section
namespace Go.Proofs.YtoeeipkiadbnpaaGreatDoor.Lib10
open Go.RowKit Go.Proofs.YtoeeipkiadbnpaaGreatDoorW.PrintWords Go.Proofs.YtoeeipkiadbnpaaGreatDoorW.PrintLast Go.Proofs.YtoeeipkiadbnpaaGreatDoorW.PrintMore
set_option linter.unusedVariables false
variable {B : Nat}
theorem flip_ne_all : (List.range 256).all (fun v => (List.range 8).all fun b => decide (flipB (v : Nat) (b : Nat) ≠ (v : Nat))) = true := by decide +kernel
theorem flip_ne {v b : Int} (hv : 0 ≤ v ∧ v ≤ 255) (hb : 0 ≤ b ∧ b < 8) : flipB v b ≠ v := by
  obtain ⟨v, rfl⟩ : ∃ q : Nat, v = q := ⟨v.toNat, by omega⟩
  obtain ⟨b, rfl⟩ : ∃ q : Nat, b = q := ⟨b.toNat, by omega⟩
  have h := List.all_eq_true.1 flip_ne_all v (List.mem_range.2 (by omega))
  have h2 := List.all_eq_true.1 h b (List.mem_range.2 (by omega))
  exact of_decide_eq_true h2
def cnt : List Bool → Nat
  | [] => 0
  | b :: l => (if b = true then 1 else 0) + cnt l
theorem cnt_append : ∀ (a b : List Bool), cnt (a ++ b) = cnt a + cnt b
  | [], b => by simp [cnt]
  | x :: a, b => by simp only [List.cons_append, cnt, cnt_append a b]; omega
theorem cnt_le : ∀ (a : List Bool), cnt a ≤ a.length
  | [] => Nat.le_refl _
  | x :: a => by have := cnt_le a; simp only [cnt, List.length_cons]; split <;> omega
theorem cnt_take {l : List Bool} {k : Nat} (h : k < l.length) : cnt (l.take (k + 1)) = cnt (l.take k) + if l.getD k false = true then 1 else 0 := by
  rw [List.take_add_one, List.getElem?_eq_getElem h, Option.toList_some, cnt_append, List.getD_eq_getElem?_getD, List.getElem?_eq_getElem h]
  simp [cnt]
theorem diffs_met : ∀ (b0 b : List Int) (met : List Bool), b.length = b0.length → met.length = b0.length → (∀ i, i < b0.length → met.getD i false = false → b.getD i 0 = b0.getD i 0) → (∀ i, i < b0.length → met.getD i false = true → b.getD i 0 ≠ b0.getD i 0) → diffs b0 b = cnt met
  | [], b, met, h1, h2, _, _ => by
    obtain rfl : met = [] := List.eq_nil_of_length_eq_zero (by simpa using h2)
    cases b <;> rfl
  | x :: b0, [], met, h1, _, _, _ => by simp at h1
  | x :: b0, y :: b, [], _, h2, _, _ => by simp at h2
  | x :: b0, y :: b, m :: met, h1, h2, h3, h4 => by
    have ih := diffs_met b0 b met (by simpa using h1) (by simpa using h2) (fun i hi hm => by simpa using h3 (i + 1) (by simp; omega) (by simpa using hm)) (fun i hi hm => by simpa using h4 (i + 1) (by simp; omega) (by simpa using hm))
    rw [diffs, cnt, ih]
    cases m with
    | false =>
      have := h3 0 (by simp) rfl
      rw [if_pos (by simpa using this)]
      rfl
    | true =>
      have := h4 0 (by simp) rfl
      rw [if_neg (by simpa using this)]
      rfl
theorem Flipped.cnt {b0 b : List Int} {met : List Bool} (h : Flipped b0 b met) (hc : ∀ x ∈ b0, IsCode x) : diffs b0 b = Lib10.cnt met := by
  refine diffs_met b0 b met h.len h.mlen (fun i _ hm => h.no i hm) (fun i hi hm => ?_)
  obtain ⟨k, k0, k8, e⟩ := h.yes i hm
  rw [e]
  have hg : b0.getD i 0 = b0[i] := by simp [List.getD_eq_getElem?_getD, hi]
  rw [hg]
  exact flip_ne (code_byt (hc _ (List.getElem_mem hi))) ⟨k0, k8⟩
theorem flipV_same (x : ReelV) (i b : Int) : (flipV x i b).size = x.size ∧ (flipV x i b).fuse = x.fuse := by unfold flipV; split <;> exact ⟨rfl, rfl⟩
/-- Turning bits over beside a library. -/
structure Turning (B : Nat) (W0 w : World) (lg sg rg : Nat) (vj : Value) (A : Option Addr) (m c : Nat) (x : ReelV) (AM : Option Addr) (nb cM : Nat) (A10 : Option Addr) (c10 : Nat) (lines : List ByteArray) (st : St) (y : ReelV) (met : List Bool) : Prop where
  fl : Flips B W0 w rg A m c x AM nb cM A10 c10 lines y met
  lib : LibS B w lg sg rg vj lines st
  same : y.size = x.size ∧ y.fuse = x.fuse
theorem Turning.below {W0 w w' : World} {lg sg rg : Nat} {vj : Value} {A : Option Addr} {m c : Nat} {x : ReelV} {AM : Option Addr} {nb cM : Nat} {A10 : Option Addr} {c10 : Nat} {lines : List ByteArray} {st : St} {y : ReelV} {met : List Bool} (h : Turning B W0 w lg sg rg vj A m c x AM nb cM A10 c10 lines st y met) (hb : Below w.heap.size w w') (h9 : 9 ≤ B) : Turning B W0 w' lg sg rg vj A m c x AM nb cM A10 c10 lines st y met :=
  ⟨h.fl.below hb h9, h.lib.below hb, h.same⟩
theorem Turning.meet {W0 w : World} {lg sg rg : Nat} {vj : Value} {A : Option Addr} {m c : Nat} {x : ReelV} {g nb cM : Nat} {A10 : Option Addr} {c10 : Nat} {lines : List ByteArray} {st : St} {y : ReelV} {met : List Bool} (h : Turning B W0 w lg sg rg vj A m c x (some ⟨g, 0, none⟩) nb cM A10 c10 lines st y met) (h9 : 9 ≤ B) (hnb : x.b.length = nb) {i : Nat} (hi : i < nb) (hm : met.getD i false = false) {k : Int} (k0 : 0 ≤ k) (k8 : k < 8) :
    ReelIs B (w.setCell ⟨g, i, none⟩ (.bool true)) rg A m c y ∧ ∀ w', ReelTo B (w.setCell ⟨g, i, none⟩ (.bool true)) rg A m c m (flipV y i k) w' → Turning B W0 w' lg sg rg vj A m c x (some ⟨g, 0, none⟩) nb cM A10 c10 lines st (flipV y i k) (met.set i true) := by
  obtain ⟨h1, h2⟩ := h.fl.meet h9 hnb hi hm k0 k8
  refine ⟨h1, fun w' ht => ⟨h2 w' ht, ?_, ?_⟩⟩
  · obtain ⟨cells, hcg⟩ := own_type h.fl.met g rfl
    have hk : Kept w (w.setCell ⟨g, i, none⟩ (.bool true)) (fun k => k = g) := ⟨Nat.le_of_eq (by simp [World.setCell]), fun j _ hn => Below.heap_setCell w _ _ j hn⟩
    have hl := h.lib.keptT hk (fun j hj => by subst hj; exact ⟨cells, 4, hcg, by decide, by decide, by decide, by decide⟩)
    exact hl.kept ht.kept (fun j hj => h1.blk j hj)
  · have := flipV_same y (i : Int) k
    exact ⟨this.1.trans h.same.1, this.2.trans h.same.2⟩
theorem met_opened {w w' : World} {rg : Nat} {A : Option Addr} {m c : Nat} {y : ReelV} {base : Nat} {v : Value} {met : List Bool} (h : Kd.bool.R 4 w base (fun _ => True) v met) (hr : ReelIs B w rg A m c y) (hk : Kept w w' (RF rg A m c)) : Kd.bool.R 4 w' base (fun _ => True) v met :=
  R_apart h rfl (fun k cells hc => hk.2 k (blk_lt hc) (fun hf => by
    obtain ⟨cs, t2, hc2, rfl | rfl⟩ := hr.blk k hf
    · exact type_ne hc hc2 (show (4 : Nat) ≠ 5 by decide) rfl
    · exact type_ne hc hc2 (show (4 : Nat) ≠ 70 by decide) rfl))
theorem row_opened {w w' : World} {rg : Nat} {A : Option Addr} {m c : Nat} {y : ReelV} {base : Nat} {v : Value} {lines : List ByteArray} (h : Kd.string.R 9 w base (fun _ => True) v lines) (hr : ReelIs B w rg A m c y) (hk : Kept w w' (RF rg A m c)) : Kd.string.R 9 w' base (fun _ => True) v lines :=
  R_apart h rfl (fun k cells hc => hk.2 k (blk_lt hc) (fun hf => by
    obtain ⟨cs, t2, hc2, rfl | rfl⟩ := hr.blk k hf
    · exact type_ne hc hc2 (show (9 : Nat) ≠ 5 by decide) rfl
    · exact type_ne hc hc2 (show (9 : Nat) ≠ 70 by decide) rfl))
/-- Behind Open at turned bits. -/
structure Anew (B : Nat) (W0 w : World) (lg ln sg rg : Nat) (vj : Value) (A : Option Addr) (m c : Nat) (AM : Option Addr) (nb cM : Nat) (A10 : Option Addr) (c10 : Nat) (lines : List ByteArray) (st : St) (y : ReelV) (met : List Bool) : Prop where
  reel : ReelIs B w rg A m c y
  lib : LibS B w lg sg rg vj lines st
  next : ∃ sg' vj', LibS B w ln sg' rg vj' lines st
  met : Kd.bool.R 4 w B (fun _ => True) (.slice AM nb cM) met
  sure : Kd.string.R 9 w B (fun _ => True) (.slice A10 lines.length c10) lines
  tabs : Tabs w
  bel : Below B W0 w
theorem Anew.below {W0 w w' : World} {lg ln sg rg : Nat} {vj : Value} {A : Option Addr} {m c : Nat} {AM : Option Addr} {nb cM : Nat} {A10 : Option Addr} {c10 : Nat} {lines : List ByteArray} {st : St} {y : ReelV} {met : List Bool} (h : Anew B W0 w lg ln sg rg vj A m c AM nb cM A10 c10 lines st y met) (hb : Below w.heap.size w w') (h9 : 9 ≤ B) : Anew B W0 w' lg ln sg rg vj A m c AM nb cM A10 c10 lines st y met := by
  obtain ⟨sg', vj', hn⟩ := h.next
  exact ⟨h.reel.below hb, h.lib.below hb, ⟨sg', vj', hn.below hb⟩, Kd.R_below h.met hb, Kd.R_below h.sure hb, h.tabs.below (hb.mono (by have := h.reel.low; have := blk_lt h.reel.rc; omega)) h9, h.bel.trans (hb.mono (by have := h.reel.low; have := blk_lt h.reel.rc; omega))⟩
theorem Anew.to {W0 w w' : World} {lg ln sg rg : Nat} {vj : Value} {A : Option Addr} {m c m' : Nat} {AM : Option Addr} {nb cM : Nat} {A10 : Option Addr} {c10 : Nat} {lines : List ByteArray} {st : St} {y y' : ReelV} {met : List Bool} (h : Anew B W0 w lg ln sg rg vj A m c AM nb cM A10 c10 lines st y met) (ht : ReelTo B w rg A m c m' y' w') (h9 : 9 ≤ B) : Anew B W0 w' lg ln sg rg vj A m' c AM nb cM A10 c10 lines st y' met := by
  obtain ⟨sg', vj', hn⟩ := h.next
  exact ⟨ht.reel, h.lib.kept ht.kept (fun j hj => h.reel.blk j hj), ⟨sg', vj', hn.kept ht.kept (fun j hj => h.reel.blk j hj)⟩, met_opened h.met h.reel ht.kept, row_opened h.sure h.reel ht.kept, h.tabs.below ht.bel h9, h.bel.trans ht.bel⟩
theorem Turning.open {W0 w : World} {lg sg rg : Nat} {vj : Value} {A : Option Addr} {m c : Nat} {x : ReelV} {AM : Option Addr} {nb cM : Nat} {A10 : Option Addr} {c10 : Nat} {lines : List ByteArray} {st : St} {y : ReelV} {met : List Bool} (h : Turning B W0 w lg sg rg vj A m c x AM nb cM A10 c10 lines st y met) (hx : x.b = booksV lines) (hr : Reach lines st) (h9 : 9 ≤ B) : Calls Tryz.prog 18 #[ptr rg] w fun e w' => ∃ ln m', e = .returned (.tuple #[ptr ln, .int .i64 0]) ∧ Anew B W0 w' lg ln sg rg vj A m' c AM nb cM A10 c10 lines st y met := by
  have hco : ∀ z ∈ x.b, IsCode z := by rw [hx]; exact code_books lines
  have hop : openM y.b = (lines, st) := (openM_congr (h.fl.fl.decs hco)).trans (by rw [hx]; exact hr.open)
  refine (libOpen_on h.fl.reel h.fl.off (h.fl.fl.byt hco) h.fl.tabs).mono ?_
  rintro e w' ⟨rfl, ⟨sg', vj', hl⟩, ⟨m', hr2⟩, hk, hb⟩
  rw [hop] at hl hr2
  have e1 : ({ y with b := y.b.take (booksV lines).length } : ReelV) = y := by
    have e2 : y.b.take (booksV lines).length = y.b := List.take_of_length_le (by rw [h.fl.fl.len, hx]; exact Nat.le_refl _)
    rw [e2]
  rw [e1] at hr2
  have hB : B ≤ w.heap.size := by have := h.fl.reel.low; have := blk_lt h.fl.reel.rc; omega
  exact ⟨_, m', rfl, ⟨hr2, h.lib.kept hk (fun j hj => h.fl.reel.blk j hj), ⟨sg', vj', hl.lower hB⟩, met_opened h.fl.met h.fl.reel hk, row_opened h.fl.sure h.fl.reel hk, h.fl.tabs.below hb h9, h.fl.bel.trans hb⟩⟩
theorem Anew.heal {W0 w : World} {lg ln sg rg : Nat} {vj : Value} {A : Option Addr} {m c : Nat} {AM : Option Addr} {nb cM : Nat} {A10 : Option Addr} {c10 : Nat} {lines : List ByteArray} {st : St} {y : ReelV} {met : List Bool} (h : Anew B W0 w lg ln sg rg vj A m c AM nb cM A10 c10 lines st y met) (ho : y.off = false) (hs : y.size = 20000 ∧ y.fuse = -1) (hf : Flipped (booksV lines) y.b met) (h9 : 9 ≤ B) : Calls Tryz.prog 30 #[ptr ln] w fun e w' => e = .returned (.tuple #[.int .i64 (cnt met : Int), .int .i64 0]) ∧ Anew B W0 w' lg ln sg rg vj A m c AM nb cM A10 c10 lines st (mkReel 20000 lines) met := by
  obtain ⟨sg', vj', hn⟩ := h.next
  have hfr := healV_free (booksV lines) 0 y 0 ho hs.2 (by rw [hf.len]; omega)
  rw [List.drop_zero, hf.cnt (code_books lines), List.take_zero, List.nil_append] at hfr
  have e1 : ({ y with b := booksV lines } : ReelV) = mkReel 20000 lines := by
    obtain ⟨yb, ys, yo, yf⟩ := y
    simp only at ho hs
    unfold mkReel
    rw [ho, hs.1, hs.2]
  rw [e1] at hfr
  refine (heal_calls hn h.reel ho (by rw [hf.len]; exact Nat.le_refl _)).mono ?_
  rw [hfr]
  rintro e w' ⟨rfl, ht⟩
  refine ⟨?_, h.to ht h9⟩
  show Ending.returned (.tuple #[.int .i64 (0 + (cnt met : Int)), .int .i64 0]) = _
  rw [Int.zero_add]
theorem pick_two {A2 A3 : Option Addr} {n2 c2 n3 c3 : Nat} {f2 f3 : List (Int × Int)} {P : Option Addr → List (Int × Int) → Prop} (h2 : f2.length = n2) (h3 : f3.length = n3) (l2 : n2 ≤ 1048576) (l3 : n3 ≤ 1048576) (p2 : P A2 f2) (p3 : P A3 f3) (k : Nat) (hk : k < 2) :
    ∃ (AF : Option Addr) (nf cf : Nat) (fl : List (Int × Int)), (∀ w, (Instr.index 80 (.agg #[.slice A2 n2 c2, .slice A3 n3 c3]) (.int .i64 (k : Int))).run Tryz.prog w = .ok (.slice AF nf cf) w) ∧ fl.length = nf ∧ nf ≤ 1048576 ∧ P AF fl := by
  match k, hk with
  | 0, _ => exact ⟨A2, n2, c2, f2, fun w => by kernel_rfl, h2, l2, p2⟩
  | 1, _ => exact ⟨A3, n3, c3, f3, fun w => by kernel_rfl, h3, l3, p3⟩
  | k + 2, h => omega
def FlAt (W : World) (A : Option Addr) (fl : List (Int × Int)) : Prop := ∀ j p, fl[j]? = some p → ∃ ad, A = some ad ∧ W.cell? (ad.add (j * 2)) = some (.int .i64 p.1) ∧ W.cell? (ad.add (j * 2 + 1)) = some (.int .i64 p.2)
section
set_option maxRecDepth 100000
set_option maxHeartbeats 2000000
theorem turned_walk {W : World} {A A2 A3 : Option Addr} {c c2 n2 c3 n3 : Nat} {l : List ByteArray} {f2 f3 : List (Int × Int)} (hl2 : f2.length = n2) (hn2 : n2 ≤ 1048576) (hF2 : FlAt W A2 f2) (hl3 : f3.length = n3) (hn3 : n3 ≤ 1048576) (hF3 : FlAt W A3 f3) (hC : Kd.string.C W A l.length l) (hc : l.length ≤ c) (hs : ∀ x ∈ l, x.size < 4294967281) (hT : Tabs W) : Calls Tryz.prog 10 #[.slice A l.length c, .slice A2 n2 c2, .slice A3 n3 c3] W fun e w' => e = .returned (.bool true) ∧ Below W.heap.size W w' := by
  have HO := Aside0.mk (opened_runs hC hc hs hT)
  have HT := Aside0.mk hT
  have HPick := Aside0.mk (fun k hk => pick_two (A2 := A2) (A3 := A3) (c2 := c2) (c3 := c3) hl2 hl3 hn2 hn3 (P := FlAt W) hF2 hF3 k hk)
  obtain ⟨⟨lines, st⟩, hrun⟩ : ∃ p, p = runs (l.take 60) := ⟨_, rfl⟩
  unfold OpenedEnd2 at HO
  rw [← hrun] at HO
  have h9 := hT.low
  have H9 := Aside0.mk h9
  clear hC hs hT hF2 hF3 hl2 hl3 hn2 hn3 hrun h9
  obtain ⟨T, hT2⟩ : ∃ T, T = stateT st := ⟨_, rfl⟩
  have HTT := Aside0.mk hT2
  clear hT2
  go_enter Tryz.func10, Tryz.ntmps10
  go_wp2_with (first | (go_at_call 11; refine HO.out.mono ?_; rintro e w1 ⟨lg, rfl, hr, hb⟩; have HR1 := Aside0.mk hr; have HB1 := Aside0.mk hb; clear hr hb) | (go_at_call 12; refine (ran_journal HR1.out).mono ?_; rintro e wj ⟨⟨A10, c10, rfl, hr⟩, hb⟩; have HJ := Aside0.mk (Kd.R_mono (Kd.R_lower hr HB1.out.size) (fun _ _ => trivial)); have HRj := Aside0.mk (HR1.out.below hb); have HBj := Aside0.mk (HB1.out.trans (hb.mono HB1.out.size)); clear hr hb) | (go_at_call 27; refine (ran_state HRj.out (HT.out.below HBj.out H9.out)).mono ?_; rintro e ws ⟨rfl, hb⟩; rw [← HTT.out]; have HJs := Aside0.mk (Kd.R_below HJ.out hb); have HRs := Aside0.mk (HRj.out.below hb); have HBs := Aside0.mk (HBj.out.trans (hb.mono HBj.out.size)); clear hb))
  have HFew := Aside0.mk HRs.out.few
  obtain ⟨nb, hnb⟩ : ∃ nb, (booksV lines).length = nb := ⟨_, rfl⟩
  have HNb := Aside0.mk hnb
  have HNb5 := Aside0.mk (show nb ≤ 100000 by obtain ⟨sg, vj, A, m, c, h1, h2⟩ := HRs.out.at_; have h3 := h2.fine.len; have h4 := h2.fine.size1; have h5 : (mkReel 20000 lines).b.length = nb := hnb; omega)
  clear hnb
  go_loopw [41] (fun v41 wr => ∃ k : Nat, k ≤ 2 ∧ v41 = .int .i64 k ∧ Aside0 (Ran W.heap.size wr lg W.heap.size lines st) ∧ Aside0 (Kd.string.R 9 wr W.heap.size (fun _ => True) (.slice A10 lines.length c10) lines) ∧ Aside0 (Below W.heap.size W wr)) (fun v41 _ => 2 - (intOf v41).toNat)
  case atStart => exact ⟨0, by decide, rfl, HRs, HJs, HBs⟩
  case round =>
    obtain ⟨k, hk, rfl, hran, hrow, hbl⟩ := hrel
    by_cases hk2 : k < 2
    · have i1 : (k : Int) < 2 := by omega
      obtain ⟨AF, nf, cf, fl, hix, hfl, hnf, hF⟩ := HPick.out k hk2
      have HFl := Aside0.mk (And.intro hfl hF)
      have HNf := Aside0.mk hnf
      clear hfl hF hnf
      obtain ⟨hreach, sg, vj, A5, m5, c5, hlib, hreel⟩ := hran.out
      have HRe := Aside0.mk hreel
      have HLi := Aside0.mk hlib
      have HRch := Aside0.mk hreach
      have HKk := Aside0.mk (wrap_step k (by omega))
      clear hreach hlib hreel
      by_cases hn0 : nb = 0
      · subst hn0
        go_wp2_with (first | (go_at_call 22; refine (ran_bytes hran.out).mono ?_; rintro e wb ⟨⟨AB, cB, rfl, _⟩, hb⟩; rw [HNb.out]; have HBb := Aside0.mk (hbl.out.trans (hb.mono hbl.out.size)); clear hb) | (go_at_call 13; refine (awake_calls _ (HT.out.below HBb.out H9.out)).mono ?_; rintro e we ⟨rfl, hbe⟩; have HBe := Aside0.mk (HBb.out.trans (hbe.mono HBb.out.size)); clear hbe))
        go_ret
        exact ⟨rfl, HBe.out⟩
      · have hnz : ((nb : Int) == 0) = false := beq_eq_false_iff_ne.2 (by omega)
        go_wp2_with (first | (go_at_call 22; refine (ran_bytes hran.out).mono ?_; rintro e wb ⟨⟨AB, cB, rfl, _⟩, hb⟩; rw [HNb.out]; have HBb := Aside0.mk hb; have HBb2 := Aside0.mk (hbl.out.trans (hb.mono hbl.out.size)); clear hb) | (refine gate_ (.makeSlice 47 (.tmp 49) (.tmp 49)) rfl ?_; go_loud (refine Kd.R_make Kd.bool (w0 := W) W.heap.size 4 rfl rfl 47 (.tmp 49) (.tmp 49) rfl (nb : Int) rfl rfl Tryz.underlying47 (.bool false) 1 info4 rfl (by decide) (by decide) false (ok := fun _ => True) (okp := fun _ => False) rfl (fun _ _ => trivial) trivial (by omega) (by have := HNb5.out; omega) HBb2.out HBb2.out.size ?_); intro vM wm hqM hbM hgM hatM; obtain ⟨AM, cM, hvM⟩ := Kd.R_slice hqM; rw [show (List.replicate (nb : Int).toNat false).length = nb by simp] at hvM; subst hvM; have HQM := Aside0.mk hqM; have HBM := Aside0.mk hbM; have HGM := Aside0.mk hgM; clear hqM hbM hgM hatM))
        have HFi := Aside0.mk (show Turning W.heap.size W wm lg sg W.heap.size vj A5 m5 c5 (mkReel 20000 lines) AM nb cM A10 c10 lines st (mkReel 20000 lines) (List.replicate nb false) from by
          have hk0 : Kept wb wm (fun _ => False) := (Kept.refl wb _).of_grown HGM.out (fun k e => by cases e)
          refine ⟨⟨(HRe.out.below HBb.out).keptL hk0 (fun _ h => h.elim), ?_, rfl, by have h := HQM.out; simpa using h, ?_, HT.out.below HBM.out H9.out, HBM.out⟩, (HLi.out.below HBb.out).keptT hk0 (fun _ h => h.elim), rfl, rfl⟩
          · have h := Flipped.start (mkReel 20000 lines).b
            rw [show (mkReel 20000 lines).b.length = nb from HNb.out] at h
            exact h
          · exact R_apart (Kd.R_below hrow.out HBb.out) rfl (fun k cells hc => HGM.out.block k (blk_lt hc) (fun e => by cases e)))
        obtain ⟨g, hAM⟩ : ∃ g, AM = some ⟨g, 0, none⟩ := by
          obtain ⟨g, cap, e, _⟩ := Kd.R_form HFi.out.fl.met (by have := HFi.out.fl.fl.mlen; have := HNb.out; have h5 : (mkReel 20000 lines).b.length = nb := HNb.out; omega)
          injection e with e _ _
          exact ⟨g, e⟩
        subst hAM
        go_loopw [53] (fun v53 w2 => ∃ (j : Nat) (y : ReelV) (met : List Bool), j ≤ nf ∧ v53 = .int .i64 j ∧ Aside0 (Turning W.heap.size W w2 lg sg W.heap.size vj A5 m5 c5 (mkReel 20000 lines) (some ⟨g, 0, none⟩) nb cM A10 c10 lines st y met)) (fun v53 _ => nf - (intOf v53).toNat)
        case atStart => exact ⟨0, mkReel 20000 lines, _, Nat.zero_le _, rfl, HFi⟩
        case round =>
          obtain ⟨j, y, met, hj, rfl, hfl⟩ := hrel
          by_cases hjn : j < nf
          · have i0 : (0 : Int) ≤ (j : Int) := by omega
            have i1 : (j : Int) < (nf : Int) := by omega
            have HJ1 := Aside0.mk (wrap_step j (by have := HNf.out; omega))
            obtain ⟨⟨pa, pb⟩, hp⟩ : ∃ p, fl[j]? = some p := ⟨_, List.getElem?_eq_getElem (by have := HFl.out.1; omega)⟩
            obtain ⟨ad, hA2, g0, g1⟩ := HFl.out.2 j _ hp
            have hlt0 : ad.block < W.heap.size := by have h := World.block_lt_of_cell? _ _ g0; rwa [add_block] at h
            subst hA2
            have hbk : wr.heap[ad.block]? = W.heap[ad.block]? := hfl.out.fl.bel.block _ hlt0
            replace g0 : wr.cell? (ad.add (j * 2)) = some (.int .i64 pa) := (World.cell?_of_block (by rw [add_block]; exact hbk)).trans g0
            replace g1 : wr.cell? (ad.add (j * 2 + 1)) = some (.int .i64 pb) := (World.cell?_of_block (by rw [add_block]; exact hbk)).trans g1
            rw [show ad.add (j * 2 + 1) = { block := (ad.add (j * 2)).block, off := (ad.add (j * 2)).off + 1 } from (Addr.add_add ad (j * 2) 1).symm] at g1
            clear hp hbk
            obtain ⟨wa, hwa⟩ : ∃ wa, wa = wr.alloc (.cells #[.int .i64 pa, .int .i64 pb] 48) := ⟨_, rfl⟩
            have hab : Below wr.heap.size wr wa := by rw [hwa]; exact below_alloc (Below.refl _ _) _
            have HFa := Aside0.mk (hfl.out.below hab H9.out)
            have hnew : wa.heap[wr.heap.size]? = some (.cells #[.int .i64 pa, .int .i64 pb] 48) := by rw [hwa]; exact blk_new _ _
            have c0 : wa.cell? ⟨wr.heap.size, 0, none⟩ = some (.int .i64 pa) := (blk_cell hnew 0).trans rfl
            have c1 : wa.cell? ⟨wr.heap.size, 1, none⟩ = some (.int .i64 pb) := (blk_cell hnew 1).trans rfl
            go_wp2_with (fail)
            rw [← hwa]
            clear hwa
            have hnb5 := HNb5.out
            have hun : IntKind.u64.wrap (nb : Int) = (nb : Int) := by
              have e : IntKind.u64.wrap (nb : Int) = (nb : Int) % 18446744073709551616 := rfl
              rw [e]
              omega
            obtain ⟨i, hi, hi2⟩ : ∃ i : Nat, wrap64 ((IntKind.u64.wrap pa).tmod (nb : Int)) = (i : Int) ∧ i < nb := by
              have h0 : 0 ≤ IntKind.u64.wrap pa := by
                have e : IntKind.u64.wrap pa = pa % 18446744073709551616 := rfl
                rw [e]
                omega
              have h1 : 0 ≤ (IntKind.u64.wrap pa).tmod (nb : Int) := Int.tmod_nonneg _ h0
              have h2 : (IntKind.u64.wrap pa).tmod (nb : Int) < (nb : Int) := Int.tmod_lt_of_pos _ (by omega)
              refine ⟨((IntKind.u64.wrap pa).tmod (nb : Int)).toNat, ?_, by omega⟩
              unfold wrap64
              omega
            obtain ⟨bt, hbt, hbt2⟩ : ∃ b : Nat, wrap64 ((IntKind.u64.wrap pb).tmod 8) = (b : Int) ∧ b < 8 := by
              have h0 : 0 ≤ IntKind.u64.wrap pb := by
                have e : IntKind.u64.wrap pb = pb % 18446744073709551616 := rfl
                rw [e]
                omega
              have h1 : 0 ≤ (IntKind.u64.wrap pb).tmod 8 := Int.tmod_nonneg _ h0
              have h2 : (IntKind.u64.wrap pb).tmod 8 < 8 := Int.tmod_lt_of_pos _ (by decide)
              refine ⟨((IntKind.u64.wrap pb).tmod 8).toNat, ?_, by omega⟩
              unfold wrap64
              omega
            clear hnew hab hnb5
            go_quiet (fail)
            rw [hi, hbt]
            obtain ⟨w2, hw2⟩ : ∃ w, w = wa.drewN nq := ⟨_, rfl⟩
            have HF2 := Aside0.mk (show Turning W.heap.size W w2 lg sg W.heap.size vj A5 m5 c5 (mkReel 20000 lines) (some ⟨g, 0, none⟩) nb cM A10 c10 lines st y met by rw [hw2]; exact HFa.out.below (drew_below wa nq) H9.out)
            rw [← hw2]
            clear hw2 c0 c1 hi hbt hun
            have hcm := (Kd.R_celln false HF2.out.fl.met (i : Int) (by omega) (by omega)).1
            rw [Int.toNat_natCast, show rdOf false met (i : Int) = met.getD i false from rfl] at hcm
            have hfz := (Kd.R_celln false HF2.out.fl.met (i : Int) (by omega) (by omega)).2
            rw [Int.toNat_natCast] at hfz
            have j0 : (0 : Int) ≤ (i : Int) := by omega
            have j1 : (i : Int) < (nb : Int) := by omega
            have HI2 := Aside0.mk hi2
            have HB2 := Aside0.mk hbt2
            clear hi2 hbt2
            cases hm : met.getD i false with
            | true => as_aux_lemma =>
              rw [hm] at hcm
              clear hm
              go_wp2_with (fail)
              exact ⟨⟨j + 1, y, met, by omega, by rw [HJ1.out], HF2⟩, by rw [HJ1.out]; show nf - (((j + 1 : Nat) : Int)).toNat < nf - ((j : Nat) : Int).toNat; rw [Int.toNat_natCast, Int.toNat_natCast]; omega⟩
            | false => as_aux_lemma =>
              obtain ⟨k1, k2⟩ := HF2.out.meet H9.out HNb.out HI2.out hm (k := (bt : Int)) (by omega) (by have := HB2.out; omega)
              have K1 := Aside0.mk k1
              have K2 := Aside0.mk k2
              rw [hm] at hcm
              clear hm k1 k2
              go_wp2_with (go_at_call 23; refine (reel_flip K1.out (i : Int) (bt : Int)).mono ?_; rintro e wf ⟨⟨u, rfl⟩, ht⟩; have HFf := Aside0.mk (K2.out wf ht); clear ht)
              exact ⟨⟨j + 1, _, _, by omega, by rw [HJ1.out], HFf⟩, by rw [HJ1.out]; show nf - (((j + 1 : Nat) : Int)).toNat < nf - ((j : Nat) : Int).toNat; rw [Int.toNat_natCast, Int.toNat_natCast]; omega⟩
          · have i1 : ¬ (j : Int) < (nf : Int) := by omega
            have HD := Aside0.mk (show decide (lines = lines) = true from decide_eq_true rfl)
            have HY := Aside0.mk (And.intro hfl.out.fl.off (And.intro hfl.out.same hfl.out.fl.fl))
            have HYn := Aside0.mk (show y.b.length = nb from hfl.out.fl.fl.len.trans HNb.out)
            obtain ⟨q, hq⟩ : ∃ q, cnt met = q := ⟨_, rfl⟩
            have HQ := Aside0.mk hq
            clear hq
            go_wp2_with (first
              | (go_at_call 18; refine (hfl.out.open rfl HRch.out H9.out).mono ?_; rintro e wn ⟨ln, m', rfl, hn⟩; have HA := Aside0.mk hn; clear hn)
              | (go_at_call 12; obtain ⟨sgN, vjN, hnx⟩ := HA.out.next; refine (journal_calls hnx).mono ?_; clear hnx; rintro e wn ⟨⟨v, rfl, hr⟩, hb⟩; obtain ⟨A1, c1, rfl⟩ := Kd.R_slice hr; have HJ1 := Aside0.mk hr; have HA := Aside0.mk (HA.out.below hb H9.out); clear hr hb)
              | (go_at_call 20; refine (equal_rows HJ1.out HA.out.sure HFew.out HFew.out).mono ?_; rintro e wn ⟨he, q9, rfl⟩; rw [show decide (lines = lines) = true from decide_eq_true rfl] at he; subst he; have HA := Aside0.mk (HA.out.below (drew_below _ q9) H9.out))
              | (go_at_call 27; obtain ⟨sgN, vjN, hnx⟩ := HA.out.next; refine (state_calls hnx HA.out.tabs).mono ?_; clear hnx; rintro e wn ⟨rfl, hb⟩; rw [← HTT.out]; have HA := Aside0.mk (HA.out.below hb H9.out); clear hb)
              | (go_at_call 22; refine (bytes_fresh HA.out.reel).mono ?_; rintro e wn ⟨⟨v, rfl, hr⟩, hb⟩; obtain ⟨A6, c6, rfl⟩ := Kd.R_slice hr; rw [HYn.out]; have HA := Aside0.mk (HA.out.below hb H9.out); clear hr hb)
              | (go_at_call 30; refine (HA.out.heal HY.out.1 HY.out.2.1 HY.out.2.2 H9.out).mono ?_; rintro e wn ⟨rfl, hn⟩; rw [HQ.out]; have HA := Aside0.mk hn; clear hn))
            have HMl := Aside0.mk (show met.length = nb from HY.out.2.2.mlen.trans HNb.out)
            clear i1
            go_loopw [23, 116] (fun v23 v116 w3 => ∃ t p : Nat, t ≤ nb ∧ v116 = .int .i64 t ∧ v23 = .int .i64 p ∧ Aside0 (cnt (met.take t) = p) ∧ wn = w3) (fun _ v116 _ => nb - (intOf v116).toNat)
            case atStart => exact ⟨0, 0, Nat.zero_le _, rfl, rfl, ⟨by rw [List.take_zero]; rfl⟩, rfl⟩
            case round =>
              obtain ⟨t, p, ht, rfl, rfl, hp, rfl⟩ := hrel
              by_cases htn : t < nb
              · have t0 : (0 : Int) ≤ (t : Int) := by omega
                have t1 : (t : Int) < (nb : Int) := by omega
                have htl : t < met.length := by rw [HMl.out]; exact htn
                have hcm := (Kd.R_celln false HA.out.met (t : Int) (by omega) (by omega)).1
                rw [Int.toNat_natCast, show rdOf false met (t : Int) = met.getD t false from rfl] at hcm
                have HKt := Aside0.mk (wrap_step t (by have := HNb5.out; omega))
                have hpl : p ≤ 1000000 := by have h1 := cnt_le (met.take t); have h2 := List.length_take_le t met; have h3 := hp.out; have := HNb5.out; omega
                have HKp := Aside0.mk (wrap_step p (by omega))
                have hct := cnt_take htl
                rw [hp.out] at hct
                cases hm : met.getD t false with
                | true =>
                  rw [hm, if_pos rfl] at hct
                  rw [hm] at hcm
                  have HCt := Aside0.mk hct
                  clear hm hct hpl
                  go_wp2_with (fail)
                  exact ⟨⟨t + 1, p + 1, by omega, by first | rw [HKt.out] | rfl, by first | rw [HKp.out] | rfl, HCt, by first | rfl | trivial⟩, by first | (rw [HKt.out]; show nb - (((t + 1 : Nat) : Int)).toNat < nb - ((t : Nat) : Int).toNat; rw [Int.toNat_natCast, Int.toNat_natCast]; omega) | (simp [intOf]; omega)⟩
                | false =>
                  rw [hm, if_neg (by decide)] at hct
                  rw [hm] at hcm
                  have HCt := Aside0.mk hct
                  clear hm hct hpl
                  go_wp2_with (fail)
                  exact ⟨⟨t + 1, p, by omega, by first | rw [HKt.out] | rfl, rfl, HCt, by first | rfl | trivial⟩, by first | (rw [HKt.out]; show nb - (((t + 1 : Nat) : Int)).toNat < nb - ((t : Nat) : Int).toNat; rw [Int.toNat_natCast, Int.toNat_natCast]; omega) | (simp [intOf]; omega)⟩
              · have t1 : ¬ (t : Int) < (nb : Int) := by omega
                obtain rfl : p = q := by
                  have h1 := hp.out
                  rw [List.take_of_length_le (by rw [HMl.out]; omega), HQ.out] at h1
                  exact h1.symm
                go_wp2_with (fail)
                exact ⟨⟨k + 1, by omega, by first | rw [HKk.out] | rfl, ⟨⟨HRch.out, sg, vj, A5, _, c5, HA.out.lib, HA.out.reel⟩⟩, ⟨HA.out.sure⟩, ⟨HA.out.bel⟩⟩, by first | (rw [HKk.out]; show 2 - (((k + 1 : Nat) : Int)).toNat < 2 - ((k : Nat) : Int).toNat; rw [Int.toNat_natCast, Int.toNat_natCast]; omega) | (simp [intOf]; omega)⟩
    · have i1 : ¬ (k : Int) < 2 := by omega
      go_wp2_with (go_at_call 13; refine (awake_calls _ (HT.out.below hbl.out H9.out)).mono ?_; rintro e we ⟨rfl, hbe⟩; have HBe := Aside0.mk (hbl.out.trans (hbe.mono hbl.out.size)); clear hbe)
      go_ret
      exact ⟨rfl, HBe.out⟩
end
end Go.Proofs.YtoeeipkiadbnpaaGreatDoor.Lib10
end
