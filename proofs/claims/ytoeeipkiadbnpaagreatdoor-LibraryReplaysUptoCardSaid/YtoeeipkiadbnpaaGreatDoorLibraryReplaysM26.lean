/- Texts that the proof of LibraryReplays needs, put together in build order by this session's program (wip/tools/claimtrim.py). -/
import Derived.Test.YtoeeipkiadbnpaaGreatDoorLibraryReplaysM23
import Derived.Test.YtoeeipkiadbnpaaGreatDoorLibraryReplaysM24
import Derived.Test.YtoeeipkiadbnpaaGreatDoorLibraryReplaysM21
import Derived.Test.YtoeeipkiadbnpaaGreatDoorLibraryReplaysM25
section
namespace Go.Proofs.YtoeeipkiadbnpaaGreatDoor.Lib10
open Go.RowKit Go.Proofs.YtoeeipkiadbnpaaGreatDoorW.PrintWords Go.Proofs.YtoeeipkiadbnpaaGreatDoorW.PrintLast Go.Proofs.YtoeeipkiadbnpaaGreatDoorW.PrintMore
set_option linter.unusedVariables false
def lentP (lo : List (Str × ByteArray)) (n : ByteArray) : ByteArray := ((⟨#[32]⟩ ++ n) ++ ⟨#[58]⟩) ++ (get lo n.data.toList).getD ByteArray.empty
def lentV (lo : List (Str × ByteArray)) (ns : List ByteArray) : ByteArray := ns.foldl (fun o n => o ++ lentP lo n) ⟨#[108, 111, 97, 110, 115]⟩
theorem lentV_snoc (lo : List (Str × ByteArray)) (l : List ByteArray) (n : ByteArray) : lentV lo (l ++ [n]) = lentV lo l ++ lentP lo n := by simp [lentV]
/-- Who has what, as a string. -/
def lentAll (lo : List (Str × ByteArray)) : ByteArray := lentV lo (namesOf (keysOf lo))
theorem look_loan {W : World} {b3 : Nat} {lo : List (Str × ByteArray)} (h : MR W b3 (strs lo)) {n : ByteArray} (hn : n.size ≤ 100) : (Instr.lookup 126 (.map (some b3)) (.string n) false).run Tryz.prog W = .ok (.string ((get lo n.data.toList).getD ByteArray.empty)) W := by
  have h1 := MapRep.look0 h law9 Tryz.underlying126 (z := .string ByteArray.empty) (by first | exact Tryz.zero9 _ | (simp [go_sem]; rfl)) (keyOf9 hn)
  rw [h1, get_strs]
  cases get lo n.data.toList <;> rfl
theorem loan_small {st : St} (h : Good st) (n : ByteArray) : ((get st.loans n.data.toList).getD ByteArray.empty).size ≤ 8 := by
  cases hg : get st.loans n.data.toList with
  | none => exact Nat.zero_le _
  | some v =>
    have h2 := (h.loans _ _ hg).2
    cases hc : get st.chairs v.data.toList with
    | none => rw [hc] at h2; cases h2
    | some c => exact name_size (h.k2 _ (List.mem_map.2 ⟨_, get_some_mem hc, rfl⟩))
theorem loan_key {st : St} (h : Good st) {k : Str} (hk : k ∈ keysOf st.loans) : isNameB k = true := by
  cases hg : get st.loans k with
  | none => exact absurd hk (get_none_iff.1 hg)
  | some n =>
    have h1 := (h.loans k n hg).1
    cases hp : get st.pieces k with
    | none => rw [hp] at h1; cases h1
    | some xs => exact h.k1 k (List.mem_map.2 ⟨_, get_some_mem hp, rfl⟩)
section
set_option maxRecDepth 100000
set_option maxHeartbeats 2000000
theorem lent_calls {W : World} {g b1 b2 b3 : Nat} {m1 m2 : List (Str × Value)} {st : St} (hg : Good st) (h : StRec W g b1 b2 b3 m1 m2 (strs st.loans)) (v1 v2 : Value) :
    Calls Tryz.prog 84 #[ptr g, .agg #[v1, v2]] W fun e w' => e = .returned (.tuple #[.string (lentAll st.loans), .int .i64 0]) ∧ Below W.heap.size W w' := by
  obtain ⟨lo, hlo⟩ : ∃ lo, lo = st.loans := ⟨_, rfl⟩
  have HV := Aside0.mk (fun n => loan_small hg n)
  have HKy := Aside0.mk (fun k (hk : k ∈ keysOf st.loans) => name_size (n := ⟨k.toArray⟩) (by simpa using loan_key hg hk))
  have HL8 := Aside0.mk hg.l8
  rw [← hlo] at h HV HKy HL8 ⊢
  obtain ⟨W1, hW1⟩ : ∃ W1, W1 = W.alloc (.cells #[v1, v2] 110) := ⟨_, rfl⟩
  have hb1 : Below W.heap.size W W1 := by rw [hW1]; exact below_alloc (Below.refl _ _) _
  have hst1 := h.below hb1
  have q2 : W1.cell? ⟨g, 2, none⟩ = some (.map (some b3)) := (blk_cell hst1.cells 2).trans rfl
  have HK := Aside0.mk (keys132_calls b3 W1)
  have HS := Aside0.mk (sorted132_calls hst1.p3 (by rw [length_strs]; have := HL8.out; omega))
  have HB1 := Aside0.mk hb1
  have q2x := q2
  rw [hW1] at q2x
  have hW2 := hW1.symm
  have HM := Aside0.mk hst1.p3
  clear h hst1 hb1 hW1 hg hlo
  go_enter Tryz.func84, Tryz.ntmps84
  go_wp2_with (first | (go_at_call 132; (try rw [hW2]); refine HK.out.mono ?_; rintro e w ⟨rfl, rfl⟩) | (go_at_call 79; refine HS.out.mono ?_; rintro e w2 ⟨v, rfl, hr, hb⟩; obtain ⟨A, cap, rfl⟩ := Kd.R_slice hr; have HD := Aside0.mk hb; have HR := Aside0.mk hr; clear hb hr))
  have HBw := Aside0.mk (HB1.out.trans (HD.out.mono HB1.out.size))
  have q2w := cell_below q2 HD.out
  have HMw := Aside0.mk (HM.out.below HD.out)
  obtain ⟨nm, hnm⟩ : ∃ nm, nm = namesOf (keysOf (strs lo)) := ⟨_, rfl⟩
  have HNs : Aside0 (nm.length ≤ 8 ∧ (∀ x ∈ nm, x.size ≤ 8) ∧ nm = namesOf (keysOf lo)) := by
    rw [keys_strs] at hnm
    refine ⟨?_, fun x hx => ?_, hnm⟩
    · rw [hnm, namesOf_length]; have := HL8.out; simpa [keysOf] using this
    · have := HKy.out _ (namesOf_mem (by rw [← hnm]; exact hx)); rw [toArr] at this; exact this
  rw [← hnm] at HR ⊢
  have HCr := Aside0.mk (Kd.R_reads' HR.out).2.2
  have hcap := (Kd.R_reads' HR.out).2.1
  obtain ⟨n, hn⟩ : ∃ n, n = nm.length := ⟨_, rfl⟩
  have HN := Aside0.mk hn
  have hn12 : n ≤ 12 := by rw [hn]; have := HNs.out.1; omega
  rw [← hn] at hcap ⊢
  clear q2x q2 hW2 hnm hn
  go_loopw [6, 16] (fun v6 v16 wr => ∃ k : Nat, k ≤ n ∧ v16 = .int .i64 k ∧ v6 = .string (lentV lo (nm.take k)) ∧ Aside0 ((lentV lo (nm.take k)).size ≤ 5 + 300 * k) ∧ w2 = wr) (fun _ v16 _ => n - (intOf v16).toNat)
  case atStart => exact ⟨0, Nat.zero_le _, rfl, rfl, ⟨by rw [List.take_zero]; exact Nat.le_refl 5⟩, rfl⟩
  case round =>
    obtain ⟨k, hk, rfl, rfl, hsz, rfl⟩ := hrel
    obtain ⟨sv, hsv⟩ : ∃ sv, sv = lentV lo (nm.take k) := ⟨_, rfl⟩
    rw [← hsv] at hsz ⊢
    have HSV := Aside0.mk hsv
    clear hsv
    have hszk := hsz.out
    by_cases hkn : k < n
    · have i0 : (0 : Int) ≤ (k : Int) := by omega
      have i1 : (k : Int) < (n : Int) := by omega
      have hkl : k < nm.length := by rw [← HN.out]; exact hkn
      obtain ⟨x, hx⟩ : ∃ x, x = nm[k] := ⟨_, rfl⟩
      have hxs : x.size ≤ 8 := HNs.out.2.1 x (by rw [hx]; exact List.getElem_mem hkl)
      obtain ⟨ad, he, hcx⟩ := Kd.at_string HCr.out (k : Int) i0 (by omega)
      cases he
      have h1 : rdOf ByteArray.empty nm (k : Int) = x := by
        rw [hx]
        unfold rdOf
        rw [Int.toNat_natCast, List.getD_eq_getElem?_getD, List.getElem?_eq_getElem hkl]
        rfl
      rw [h1, Int.toNat_natCast] at hcx
      have hlk := look_loan HMw.out (n := x) (by omega)
      have hvs := HV.out x
      obtain ⟨y, hy⟩ : ∃ y, y = (get lo x.data.toList).getD ByteArray.empty := ⟨_, rfl⟩
      rw [← hy] at hlk hvs
      have HX := Aside0.mk hx
      have HY := Aside0.mk hy
      clear h1 hx hy
      replace i0 := eq_true i0
      replace i1 := eq_true i1
      go_wp2_with (fail)
      have e1 : sv ++ (⟨#[32]⟩ ++ x ++ ⟨#[58]⟩ ++ y) = lentV lo (nm.take (k + 1)) := by
        rw [List.take_add_one, List.getElem?_eq_getElem hkl, Option.toList_some, lentV_snoc, ← HSV.out, ← HX.out]
        unfold lentP
        rw [← HY.out]
      refine ⟨⟨k + 1, by omega, by first | rfl | simp, by rw [e1], ⟨?_⟩, by first | rfl | trivial⟩, by simp [intOf]; omega⟩
      rw [← e1]
      simp only [ByteArray.size_append]
      have h32 : (⟨#[32]⟩ : ByteArray).size = 1 := rfl
      have h58 : (⟨#[58]⟩ : ByteArray).size = 1 := rfl
      omega
    · have i1 : ¬ (k : Int) < (n : Int) := by omega
      have hkn2 : k = n := by omega
      subst hkn2
      go_wp2_with (fail)
      go_ret2
      have h1 : nm.take k = nm := List.take_of_length_le (by rw [HN.out]; exact Nat.le_refl _)
      rw [HSV.out, h1, HNs.out.2.2]
      exact ⟨rfl, HBw.out⟩
abbrev wLoans : ByteArray := ⟨#[108, 111, 97, 110, 115]⟩
theorem ask_chairs2 {W : World} {g : Nat} {st : St} {S : Nat → Prop} (h0 : StAt S W g st) (hg : Good st) (hT : Tabs W) :
    Calls Tryz.prog 59 #[ptr g, .string wChairs] W fun e w' => e = .returned (.tuple #[.string (seatedAll st.chairs), .int .i64 0]) ∧ Below W.heap.size W w' := by
  obtain ⟨m1, h, _⟩ := h0
  have hs : (wChairs).size < 4294967281 := by decide
  have hword : headW wChairs = wChairs := by decide +kernel
  have hw : (wordsB wChairs).length = 1 := by decide +kernel
  have hline : isLineB wChairs = true := by decide +kernel
  obtain ⟨b1, b2, b3, _, _, _, _, _, _, _, hr⟩ := h
  have HSt := Aside0.mk hr
  have HT := Aside0.mk hT
  have HC := Aside0.mk (fun w (hT : Tabs w) => cut_calls wChairs w hT hs)
  rw [hword] at HC
  have HR := Aside0.mk (fun w (hT : Tabs w) => read_ok0 ByteArray.empty wChairs w hT hs rfl hw hline)
  have HS := Aside0.mk (fun w (hst : StRec w g b1 b2 b3 m1 (ints st.chairs) (strs st.loans)) (hT : Tabs w) v1 v2 => seated_good hg hst v1 v2 hT)
  have HB0 := Aside0.mk (below_alloc (Below.refl W.heap.size W) (.cells #[ptr g] 75))
  have HC0 := Aside0.mk (HC.out _ (HT.out.below HB0.out HT.out.low))
  clear hr hT hword hw hline hg
  go_enter Tryz.func59, Tryz.ntmps59
  go_wp2_with (first | (go_at_call 37; refine HC0.out.mono ?_; rintro e w1 ⟨⟨s1, s2, rfl⟩, hb⟩; have HB1 := Aside0.mk (HB0.out.trans (hb.mono HB0.out.size)); have q0 := cell_below ((blk_cell (World.alloc_heap_new W (.cells #[ptr g] 75)) 0).trans rfl) hb; have HB2 := Aside0.mk (fun o => below_alloc HB1.out o); have q0a := fun o => cell_below q0 (below_alloc (Below.refl w1.heap.size w1) o); clear hb) | (go_at_call 72; refine (HR.out _ (HT.out.below (HB2.out _) HT.out.low)).mono ?_; rintro e w3 ⟨rfl, hb⟩; have HB3 := Aside0.mk ((HB2.out _).trans (hb.mono (HB2.out _).size)); have HB4 := Aside0.mk (fun o => below_alloc HB3.out o); have HS4 := Aside0.mk (fun o v1 v2 => HS.out _ (HSt.out.below (HB4.out o)) (HT.out.below (HB4.out o) HT.out.low) v1 v2); clear hb) | (go_at_call 83; refine (HS4.out _ _ _).mono ?_; rintro e w5 ⟨rfl, hb⟩; have HB5 := Aside0.mk ((HB4.out _).trans (hb.mono (HB4.out _).size)); clear hb))
  go_ret2
  exact ⟨rfl, HB5.out⟩
theorem ask_loans {W : World} {g : Nat} {st : St} {S : Nat → Prop} (h0 : StAt S W g st) (hg : Good st) (hT : Tabs W) :
    Calls Tryz.prog 59 #[ptr g, .string wLoans] W fun e w' => e = .returned (.tuple #[.string (lentAll st.loans), .int .i64 0]) ∧ Below W.heap.size W w' := by
  obtain ⟨m1, h, _⟩ := h0
  have hs : (wLoans).size < 4294967281 := by decide
  have hword : headW wLoans = wLoans := by decide +kernel
  have hw : (wordsB wLoans).length = 1 := by decide +kernel
  have hline : isLineB wLoans = true := by decide +kernel
  obtain ⟨b1, b2, b3, _, _, _, _, _, _, _, hr⟩ := h
  have HSt := Aside0.mk hr
  have HT := Aside0.mk hT
  have HC := Aside0.mk (fun w (hT : Tabs w) => cut_calls wLoans w hT hs)
  rw [hword] at HC
  have HR := Aside0.mk (fun w (hT : Tabs w) => read_ok0 ByteArray.empty wLoans w hT hs rfl hw hline)
  have HS := Aside0.mk (fun w (hst : StRec w g b1 b2 b3 m1 (ints st.chairs) (strs st.loans)) (hT : Tabs w) v1 v2 => lent_calls hg hst v1 v2)
  have HB0 := Aside0.mk (below_alloc (Below.refl W.heap.size W) (.cells #[ptr g] 75))
  have HC0 := Aside0.mk (HC.out _ (HT.out.below HB0.out HT.out.low))
  clear hr hT hword hw hline hg
  go_enter Tryz.func59, Tryz.ntmps59
  go_wp2_with (first | (go_at_call 37; refine HC0.out.mono ?_; rintro e w1 ⟨⟨s1, s2, rfl⟩, hb⟩; have HB1 := Aside0.mk (HB0.out.trans (hb.mono HB0.out.size)); have q0 := cell_below ((blk_cell (World.alloc_heap_new W (.cells #[ptr g] 75)) 0).trans rfl) hb; have HB2 := Aside0.mk (fun o => below_alloc HB1.out o); have q0a := fun o => cell_below q0 (below_alloc (Below.refl w1.heap.size w1) o); clear hb) | (go_at_call 72; refine (HR.out _ (HT.out.below (HB2.out _) HT.out.low)).mono ?_; rintro e w3 ⟨rfl, hb⟩; have HB3 := Aside0.mk ((HB2.out _).trans (hb.mono (HB2.out _).size)); have HB4 := Aside0.mk (fun o => below_alloc HB3.out o); have HS4 := Aside0.mk (fun o v1 v2 => HS.out _ (HSt.out.below (HB4.out o)) (HT.out.below (HB4.out o) HT.out.low) v1 v2); clear hb) | (go_at_call 84; refine (HS4.out _ _ _).mono ?_; rintro e w5 ⟨rfl, hb⟩; have HB5 := Aside0.mk ((HB4.out _).trans (hb.mono (HB4.out _).size)); clear hb))
  go_ret2
  exact ⟨rfl, HB5.out⟩
end
end Go.Proofs.YtoeeipkiadbnpaaGreatDoor.Lib10
end

section
namespace Go.Proofs.YtoeeipkiadbnpaaGreatDoor.Lib10
open Go.RowKit Go.Proofs.YtoeeipkiadbnpaaGreatDoorW.PrintWords Go.Proofs.YtoeeipkiadbnpaaGreatDoorW.PrintLast Go.Proofs.YtoeeipkiadbnpaaGreatDoorW.PrintMore
set_option linter.unusedVariables false
variable {B : Nat}
theorem isBuilder_below {B b : Nat} {bs : List Value} {w w' : World} (h : Lib.IsBuilderF 119 5 B b bs w) (hb : Below w.heap.size w w') : Lib.IsBuilderF 119 5 B b bs w' := by
  have key : ∀ p, Lib.BuilderAtF 119 5 B b p bs w → Lib.BuilderAtF 119 5 B b p bs w' := fun p h => by
    obtain ⟨hB, v, hbk, hown, hne⟩ := h
    refine ⟨hB, v, (hb.block b (Array.getElem?_eq_some_iff.1 hbk).1).trans hbk, ⟨hown.1, ?_⟩, hne⟩
    rcases hown.2 with hn | ⟨g, cap, cur, fz, rfl, hg, hgg, rest⟩
    · exact .inl hn
    · exact .inr ⟨g, cap, cur, fz, rfl, hg, (hb.block g (Array.getElem?_eq_some_iff.1 hgg).1).trans hgg, rest⟩
  rcases h with h | h
  · exact .inl (key _ h)
  · exact .inr (key _ h)
theorem row9_others {b : Nat} {w w' : World} {base : Nat} {v : Value} {xs : List ByteArray} {bs : List Value} {B : Nat} (h : Kd.string.R 9 w base (fun _ => True) v xs) (hI : Lib.IsBuilderF 119 5 B b bs w) (hk : Lib.OthersKept 5 (some b) w w') : Kd.string.R 9 w' base (fun _ => True) v xs := by
  have hbk : ∃ cs, w.heap[b]? = some (.cells cs 119 (0, 0)) := by
    rcases hI with ⟨_, v, h, _⟩ | ⟨_, v, h, _⟩
    · exact ⟨_, h⟩
    · exact ⟨_, h⟩
  obtain ⟨cs, hbk⟩ := hbk
  refine R_apart h rfl (fun k cells hc => ?_)
  rw [hc]
  refine hk k _ hc (fun e => ?_) (fun c fz e => ?_)
  · injection e with e
    subst e
    rw [hbk] at hc
    injection hc with hc
    injection hc with _ e2
    exact absurd e2 (by decide)
  · injection e with _ e2
    exact absurd e2 (by decide)
theorem row9_below {w w' : World} {base : Nat} {v : Value} {xs : List ByteArray} (h : Kd.string.R 9 w base (fun _ => True) v xs) (hb : Below w.heap.size w w') : Kd.string.R 9 w' base (fun _ => True) v xs := R_apart h rfl (fun k cells hc => hb.block k (blk_lt hc))
theorem lit_others {b k : Nat} {w w' : World} {cs : Array Value} (h : w.heap[k]? = some (.cells cs 9 (0, 0))) (hne : k ≠ b) (hk : Lib.OthersKept 5 (some b) w w') : w'.heap[k]? = some (.cells cs 9 (0, 0)) :=
  hk k _ h (fun e => hne (Option.some.inj e)) (fun c fz e => by injection e with _ e2; exact absurd e2 (by decide))
abbrev nl : ByteArray := ⟨#[10]⟩
def pieceName (n : ByteArray) : ByteArray := ⟨#[112, 105, 101, 99, 101, 32]⟩ ++ n
def pieceLine (st : St) (n : ByteArray) : ByteArray := toldV (pieceName n) ((get st.pieces n.data.toList).getD []) ++ nl
def twoOf (st : St) : List ByteArray := [seatedAll st.chairs ++ nl, lentAll st.loans ++ nl]
def flatB (l : List ByteArray) : List UInt8 := l.flatMap fun s => s.data.toList
/-- The whole state as a string. -/
def stateT (st : St) : ByteArray := ⟨(flatB (twoOf st ++ (namesOf (keysOf st.pieces)).map (pieceLine st))).toArray⟩
theorem flatB_snoc (l : List ByteArray) (s : ByteArray) : Lib.byteCells (flatB l) ++ Lib.strCells s = Lib.byteCells (flatB (l ++ [s])) := by
  rw [Lib.strCells_eq, ← Lib.byteCells_append]
  simp [flatB]
theorem flatB_len (l : List ByteArray) (s : ByteArray) : (flatB (l ++ [s])).length = (flatB l).length + s.size := by simp [flatB]
theorem fold_size (f : ByteArray → ByteArray) (K : Nat) : ∀ (l : List ByteArray) (o : ByteArray), (∀ x ∈ l, (f x).size ≤ K) → (l.foldl (fun o n => o ++ f n) o).size ≤ o.size + K * l.length
  | [], o, _ => by simp
  | x :: l, o, h => by
    have ih := fold_size f K l (o ++ f x) (fun y hy => h y (List.mem_cons_of_mem _ hy))
    have h1 := h x List.mem_cons_self
    rw [List.foldl_cons]
    rw [ByteArray.size_append] at ih
    have e : K * (x :: l).length = K * l.length + K := by rw [List.length_cons, Nat.mul_succ]
    omega
theorem itoaB_size (n : Int) (h0 : -9223372036854775808 ≤ n) (h1 : n ≤ 9223372036854775807) : (itoaB n).size ≤ 21 := by
  have := Lib.itoa_length_le n h0 h1
  show (Lib.itoa n).toArray.size ≤ 21
  simpa using this
theorem seats_mem {ch : List (Str × Int)} {x : ByteArray} (h : x ∈ seatsOf ch) : x.data.toList ∈ keysOf ch := by
  obtain ⟨k, hk, rfl⟩ := List.mem_map.1 (List.mem_mergeSort.1 h)
  simpa using hk
theorem seated_size {st : St} (h : Good st) : (seatedAll st.chairs).size ≤ 1000 := by
  have h1 := fold_size (pieceV st.chairs) 40 (seatsOf st.chairs) ⟨#[99, 104, 97, 105, 114, 115]⟩ (fun x hx => by
    have hx8 := name_size (h.k2 _ (seats_mem hx))
    have hr := chair_r8 h x
    have hi := itoaB_size (chairOf st.chairs x) (by omega) (by omega)
    unfold pieceV
    simp only [ByteArray.size_append]
    have h32 : (⟨#[32]⟩ : ByteArray).size = 1 := rfl
    have h58 : (⟨#[58]⟩ : ByteArray).size = 1 := rfl
    omega)
  have hl : (seatsOf st.chairs).length ≤ 8 := by
    have := h.c8
    simpa [seatsOf, keysOf] using this
  have h6 : (⟨#[99, 104, 97, 105, 114, 115]⟩ : ByteArray).size = 6 := rfl
  show (seatedV st.chairs (seatsOf st.chairs)).size ≤ 1000
  unfold seatedV
  omega
theorem lent_size {st : St} (h : Good st) : (lentAll st.loans).size ≤ 1000 := by
  have h1 := fold_size (lentP st.loans) 40 (namesOf (keysOf st.loans)) ⟨#[108, 111, 97, 110, 115]⟩ (fun x hx => by
    have hx8 := name_size (loan_key h (namesOf_mem hx))
    have hv := loan_small h x
    unfold lentP
    simp only [ByteArray.size_append]
    have h32 : (⟨#[32]⟩ : ByteArray).size = 1 := rfl
    have h58 : (⟨#[58]⟩ : ByteArray).size = 1 := rfl
    omega)
  have hl : (namesOf (keysOf st.loans)).length ≤ 8 := by
    rw [namesOf_length]
    have := h.l8
    simpa [keysOf] using this
  have h6 : (⟨#[108, 111, 97, 110, 115]⟩ : ByteArray).size = 5 := rfl
  show (lentV st.loans (namesOf (keysOf st.loans))).size ≤ 1000
  unfold lentV
  omega
theorem look_piece {W : World} {b1 : Nat} {m : List (Str × Value)} (h : MR W b1 m) {n : ByteArray} (hn : n.size ≤ 100) {v : Value} (hv : get m n.data.toList = some v) : (Instr.lookup 124 (.map (some b1)) (.string n) false).run Tryz.prog W = .ok v W := by
  have h1 := MapRep.look0 h law9 Tryz.underlying124 (z := .slice none 0 0) (by simp [go_sem]) (keyOf9 hn)
  rw [h1, hv]
  rfl
theorem nlS_size (s : ByteArray) : (s ++ nl).size = s.size + 1 := by rw [ByteArray.size_append]; rfl
section
set_option maxRecDepth 100000
set_option maxHeartbeats 2000000
theorem text_calls {S : Nat → Prop} {W : World} {g : Nat} {st : St} (h : StAt S W g st) (hg : Good st) (hT : Tabs W) : Calls Tryz.prog 54 #[ptr g] W fun e w' => e = .returned (.string (stateT st)) ∧ Below W.heap.size W w' := by
  have HA := Aside0.mk (fun w (hb : Below W.heap.size W w) => ask_chairs2 (h.below hb) hg (hT.below hb hT.low))
  have HL := Aside0.mk (fun w (hb : Below W.heap.size W w) => ask_loans (h.below hb) hg (hT.below hb hT.low))
  have HG := Aside0.mk hg
  have HT := Aside0.mk hT
  have hz0 := seated_size hg
  have hz1 := lent_size hg
  obtain ⟨c0, hc0⟩ : ∃ c, c = seatedAll st.chairs := ⟨_, rfl⟩
  obtain ⟨c1, hc1⟩ : ∃ c, c = lentAll st.loans := ⟨_, rfl⟩
  have HTw := Aside0.mk (show twoOf st = [c0 ++ nl, c1 ++ nl] by rw [hc0, hc1]; rfl)
  rw [← hc0] at HA hz0
  rw [← hc1] at HL hz1
  have HZ := Aside0.mk (And.intro hz0 hz1)
  obtain ⟨m1, ⟨b1, b2, b3, _, _, _, _, _, _, _, hr⟩, hpc⟩ := h
  have HSt := Aside0.mk hr
  have HPc := Aside0.mk hpc
  have HB0 := Aside0.mk (below_alloc (below_alloc (Below.refl W.heap.size W) (.cells #[.pointer none, .slice none 0 0] 119)) (.cells #[.string wChairs, .string wLoans] 9))
  clear hr hpc hg hT hc0 hc1
  go_enter Tryz.func54, Tryz.ntmps54
  go_wp2_with (fail)
  go_loopw [14] (fun v14 wr => ∃ k : Nat, k ≤ 2 ∧ v14 = .int .i64 k ∧ Aside0 (Lib.IsBuilderF 119 5 W.heap.size W.heap.size (Lib.byteCells (flatB ([c0 ++ nl, c1 ++ nl].take k))) wr) ∧ Aside0 (wr.heap[W.heap.size + 1]? = some (.cells #[.string wChairs, .string wLoans] 9 (0, 0))) ∧ Aside0 (Below W.heap.size W wr)) (fun v14 _ => 2 - (intOf v14).toNat)
  case atStart =>
    refine ⟨0, by decide, rfl, ⟨?_⟩, ⟨?_⟩, ⟨HB0.out⟩⟩
    · exact (Lib.IsBuilderF.of (Lib.fresh_isBuilder 119 5 W)).alloc _
    · have := World.alloc_heap_new (W.alloc (.cells #[.pointer none, .slice none 0 0] 119)) (.cells #[.string wChairs, .string wLoans] 9)
      simpa using this
  case round =>
    obtain ⟨k, hk, rfl, hI, hlit, hbl⟩ := hrel
    have q0 : wr.cell? ⟨W.heap.size + 1, 0, none⟩ = some (.string wChairs) := (blk_cell hlit.out 0).trans rfl
    have q1 : wr.cell? ⟨W.heap.size + 1, 1, none⟩ = some (.string wLoans) := (blk_cell hlit.out 1).trans rfl
    match k, hk with
    | 0, _ =>
      have HZ0 := Aside0.mk (show (Lib.byteCells (flatB ([c0 ++ nl, c1 ++ nl].take 0))).length + (c0 ++ nl).size ≤ 140737488355328 by rw [Lib.byteCells_length, nlS_size, List.take_zero]; show 0 + (c0.size + 1) ≤ _; have := HZ.out.1; omega)
      go_wp2_with (first | (go_at_call 59; refine (HA.out wr hbl.out).mono ?_; rintro e w3 ⟨rfl, hb3⟩; have HB3 := Aside0.mk hb3; have HI3 := Aside0.mk (isBuilder_below hI.out hb3); have HL3 := Aside0.mk (show w3.heap[W.heap.size + 1]? = some (.cells #[.string wChairs, .string wLoans] 9 (0, 0)) from (hb3.block _ (blk_lt hlit.out)).trans hlit.out); have HZ3 := Aside0.mk (Nat.le_of_lt (blk_lt HL3.out)); clear hb3) | (go_at_call 78; refine (Tryz.Builder_WriteString_k W.heap.size W.heap.size _ (c0 ++ nl) w3 HI3.out HZ0.out (by have := HZ3.out; omega)).mono ?_; rintro e w4 ⟨rfl, h4, b4, k4⟩; have HI4 := Aside0.mk h4; have HB4 := Aside0.mk b4; have HK4 := Aside0.mk k4; clear h4 b4 k4))
      refine ⟨⟨1, by decide, by first | rfl | simp, ⟨?_⟩, ⟨lit_others HL3.out (by omega) HK4.out⟩, ⟨(hbl.out.trans (HB3.out.mono hbl.out.size)).trans HB4.out⟩⟩, by simp [intOf]⟩
      have h4 := HI4.out
      rw [flatB_snoc] at h4
      exact .inr h4
    | 1, _ =>
      have HZ0 := Aside0.mk (show (Lib.byteCells (flatB ([c0 ++ nl, c1 ++ nl].take 1))).length + (c1 ++ nl).size ≤ 140737488355328 by rw [Lib.byteCells_length, nlS_size]; show (flatB ([] ++ [c0 ++ nl])).length + _ ≤ _; rw [flatB_len, nlS_size]; show 0 + _ + _ ≤ _; have := HZ.out; omega)
      go_wp2_with (first | (go_at_call 59; refine (HL.out wr hbl.out).mono ?_; rintro e w3 ⟨rfl, hb3⟩; have HB3 := Aside0.mk hb3; have HI3 := Aside0.mk (isBuilder_below hI.out hb3); have HL3 := Aside0.mk (show w3.heap[W.heap.size + 1]? = some (.cells #[.string wChairs, .string wLoans] 9 (0, 0)) from (hb3.block _ (blk_lt hlit.out)).trans hlit.out); have HZ3 := Aside0.mk (Nat.le_of_lt (blk_lt HL3.out)); clear hb3) | (go_at_call 78; refine (Tryz.Builder_WriteString_k W.heap.size W.heap.size _ (c1 ++ nl) w3 HI3.out HZ0.out (by have := HZ3.out; omega)).mono ?_; rintro e w4 ⟨rfl, h4, b4, k4⟩; have HI4 := Aside0.mk h4; have HB4 := Aside0.mk b4; have HK4 := Aside0.mk k4; clear h4 b4 k4))
      refine ⟨⟨2, by decide, by first | rfl | simp, ⟨?_⟩, ⟨lit_others HL3.out (by omega) HK4.out⟩, ⟨(hbl.out.trans (HB3.out.mono hbl.out.size)).trans HB4.out⟩⟩, by simp [intOf]⟩
      have h4 := HI4.out
      rw [flatB_snoc] at h4
      exact .inr h4
    | 2, _ =>
      have hst := HSt.out.below hbl.out
      have p0 : wr.cell? ⟨g, 0, none⟩ = some (.map (some b1)) := (blk_cell hst.cells 0).trans rfl
      have hl8 : m1.length ≤ 1000 := by have h1 := HPc.out.length; have h2 := HG.out.p8; omega
      have HK := Aside0.mk (keys80_calls b1 wr)
      have HS := Aside0.mk (sorted80_calls hst.p1 hl8)
      have HW := Aside0.mk (blk_lt hlit.out)
      clear hst hl8 q0 q1
      go_wp2_with (first | (go_at_call 80; refine HK.out.mono ?_; rintro e w ⟨rfl, rfl⟩) | (go_at_call 79; refine HS.out.mono ?_; rintro e w2 ⟨v, rfl, hr, hb⟩; obtain ⟨A, cap, rfl⟩ := Kd.R_slice hr; have HD := Aside0.mk hb; have HR := Aside0.mk hr; clear hb hr))
      have HBw := Aside0.mk (hbl.out.trans (HD.out.mono hbl.out.size))
      have HIw := Aside0.mk (isBuilder_below hI.out HD.out)
      obtain ⟨nm, hnm⟩ : ∃ nm, nm = namesOf (keysOf m1) := ⟨_, rfl⟩
      have HNs : Aside0 (nm.length ≤ 8 ∧ (∀ x ∈ nm, x.data.toList ∈ keysOf st.pieces) ∧ nm = namesOf (keysOf st.pieces)) := by
        rw [HPc.out.keys] at hnm
        refine ⟨?_, fun x hx => namesOf_mem (by rw [← hnm]; exact hx), hnm⟩
        rw [hnm, namesOf_length]
        have := HG.out.p8
        simpa [keysOf] using this
      rw [← hnm] at HR ⊢
      have hcap := (Kd.R_reads' HR.out).2.1
      obtain ⟨n, hn⟩ : ∃ n, n = nm.length := ⟨_, rfl⟩
      have HN := Aside0.mk hn
      have hn12 : n ≤ 12 := by rw [hn]; have := HNs.out.1; omega
      have HSz := Aside0.mk (show W.heap.size + 2 ≤ w2.heap.size by have h1 := HD.out.size; have h2 := HW.out; omega)
      rw [← hn] at hcap ⊢
      clear hnm hn p0
      go_loopw [35] (fun v35 wt => ∃ k : Nat, k ≤ n ∧ v35 = .int .i64 k ∧ Aside0 (Lib.IsBuilderF 119 5 W.heap.size W.heap.size (Lib.byteCells (flatB (twoOf st ++ (nm.take k).map (pieceLine st)))) wt) ∧ Aside0 (Kd.string.R 9 wt (wr.heap.size + 1) (fun _ => True) (.slice A nm.length cap) nm) ∧ Aside0 (Below W.heap.size W wt) ∧ Aside0 ((flatB (twoOf st ++ (nm.take k).map (pieceLine st))).length ≤ 3000 + 400 * k) ∧ Aside0 (W.heap.size + 2 ≤ wt.heap.size)) (fun v35 _ => n - (intOf v35).toNat)
      case atStart =>
        refine ⟨0, Nat.zero_le _, rfl, ⟨?_⟩, ⟨HR.out⟩, ⟨HBw.out⟩, ⟨?_⟩, ⟨HSz.out⟩⟩
        · rw [HTw.out, List.take_zero, List.map_nil, List.append_nil]; exact HIw.out
        · rw [HTw.out, List.take_zero, List.map_nil, List.append_nil]
          show (flatB ([c0 ++ nl] ++ [c1 ++ nl])).length ≤ _
          rw [flatB_len]
          show (flatB ([] ++ [c0 ++ nl])).length + _ ≤ _
          rw [flatB_len, nlS_size, nlS_size]
          show 0 + _ + _ ≤ _
          have := HZ.out
          omega
      case round =>
        obtain ⟨k, hk, rfl, hJ, hrow, hbt, hsz, hst2⟩ := hrel
        by_cases hkn : k < n
        · have i0 : (0 : Int) ≤ (k : Int) := by omega
          have i1 : (k : Int) < (n : Int) := by omega
          have hkl : k < nm.length := by rw [← HN.out]; exact hkn
          obtain ⟨x, hx⟩ : ∃ x, x = nm[k] := ⟨_, rfl⟩
          have hxm := HNs.out.2.1 x (by rw [hx]; exact List.getElem_mem hkl)
          have hxs := name_size (HG.out.k1 _ hxm)
          obtain ⟨ad, he, hcx⟩ := Kd.at_string (Kd.R_reads' hrow.out).2.2 (k : Int) i0 (by omega)
          cases he
          have h1 : rdOf ByteArray.empty nm (k : Int) = x := by
            rw [hx]
            unfold rdOf
            rw [Int.toNat_natCast, List.getD_eq_getElem?_getD, List.getElem?_eq_getElem hkl]
            rfl
          rw [h1, Int.toNat_natCast] at hcx
          have hstt := HSt.out.below hbt.out
          have p0 : wr.cell? ⟨g, 0, none⟩ = some (.map (some b1)) := (blk_cell hstt.cells 0).trans rfl
          obtain ⟨v, xs, hgv, hgx, hrv⟩ : ∃ v xs, get m1 x.data.toList = some v ∧ get st.pieces x.data.toList = some xs ∧ (Kd.int .i64).R 3 W 9 (fun _ => True) v xs := by
            rcases HPc.out.get x.data.toList with ⟨h1, h2⟩ | ⟨v, xs, h1, h2, h3⟩
            · exact absurd hxm (get_none_iff.1 h2)
            · exact ⟨v, xs, h1, h2, h3⟩
          obtain ⟨A2, c2, rfl⟩ := Kd.R_slice hrv
          have hlk := look_piece hstt.p1 (by omega) hgv
          have hnt := HG.out.notes _ _ hgx
          have hC2 := Kd.C_below (Kd.R_reads' hrv).2.2 hbt.out
          have HTd := Aside0.mk (told_calls (word := pieceName x) hC2 (Kd.R_reads' hrv).2.1 (fun y hy => by have := hnt.2.2 y hy; omega) (by have := hnt.2.1; omega) (by unfold pieceName; rw [ByteArray.size_append]; show 6 + _ ≤ _; omega) (HT.out.below hbt.out HT.out.low))
          have HX1 := Aside0.mk (show pieceLine st x = toldV (pieceName x) xs ++ nl by unfold pieceLine; rw [hgx]; rfl)
          have HX := Aside0.mk (And.intro hx (show (pieceName x).size + 30 * xs.length ≤ 300 by have h3 := hnt.2.1; unfold pieceName; rw [ByteArray.size_append]; show 6 + _ + _ ≤ _; omega))
          have hpn : (⟨#[112, 105, 101, 99, 101, 32]⟩ : ByteArray) ++ x = pieceName x := rfl
          clear h1 hx hgv hgx hrv hnt hC2 hstt hxm
          replace i0 := eq_true i0
          replace i1 := eq_true i1
          go_wp2_with (first | (go_at_call 81; (try rw [hpn]); refine HTd.out.mono ?_; rintro e w3 ⟨rfl, hts, hb3⟩; have HB3 := Aside0.mk hb3; have HI3 := Aside0.mk (isBuilder_below hJ.out hb3); have HR3 := Aside0.mk (row9_below hrow.out hb3); have HZ3 := Aside0.mk (show (Lib.byteCells (flatB (twoOf st ++ (nm.take k).map (pieceLine st)))).length + (toldV (pieceName x) xs ++ nl).size ≤ 140737488355328 by rw [Lib.byteCells_length, nlS_size]; have h1 := hsz.out; have h2 := HX.out.2; omega); have HTs := Aside0.mk hts; have hts2 : (toldV (pieceName x) xs).size ≤ 300 := (by have h2 := HX.out.2; omega); clear hb3 hts) | (go_at_call 78; refine (Tryz.Builder_WriteString_k W.heap.size W.heap.size _ (toldV (pieceName x) xs ++ nl) w3 HI3.out HZ3.out (by have h1 := hst2.out; have h2 := HB3.out.size; omega)).mono ?_; rintro e w4 ⟨rfl, h4, b4, k4⟩; have HI4 := Aside0.mk h4; have HB4 := Aside0.mk b4; have HK4 := Aside0.mk k4; clear h4 b4 k4))
          have e1 : (twoOf st ++ (nm.take k).map (pieceLine st)) ++ [toldV (pieceName x) xs ++ nl] = twoOf st ++ (nm.take (k + 1)).map (pieceLine st) := by
            rw [List.take_add_one, List.getElem?_eq_getElem hkl, Option.toList_some, List.map_append, List.append_assoc, ← HX.out.1, ← HX1.out]
            rfl
          refine ⟨⟨k + 1, by omega, by first | rfl | simp, ⟨?_⟩, ⟨row9_others HR3.out HI3.out HK4.out⟩, ⟨(hbt.out.trans (HB3.out.mono (by have := hst2.out; omega))).trans HB4.out⟩, ⟨?_⟩, ⟨?_⟩⟩, by simp [intOf]; omega⟩
          · have h4 := HI4.out
            rw [flatB_snoc, e1] at h4
            exact .inr h4
          · rw [← e1, flatB_len, nlS_size]
            have h1 := hsz.out
            omega
          · have h1 := hst2.out
            have h2 := HB3.out.size
            have h3 := HB4.out.size
            omega
        · have i1 : ¬ (k : Int) < (n : Int) := by omega
          have hkn2 : k = n := by omega
          subst hkn2
          go_wp2_with (go_at_call 82; refine (Tryz.Builder_String_any_k W.heap.size W.heap.size _ wr hJ.out (by have := hst2.out; omega)).mono ?_; rintro e w5 ⟨rfl, _, b5, _⟩; have HB5 := Aside0.mk b5; clear b5)
          go_ret
          have h1 : List.take k (List.map (pieceLine st) nm) = List.map (pieceLine st) nm := List.take_of_length_le (by rw [List.length_map, HN.out]; exact Nat.le_refl _)
          rw [h1, HNs.out.2.2]
          exact ⟨rfl, hbt.out.trans HB5.out⟩
    | k + 3, hk => exact absurd hk (by omega)
theorem state_calls {W : World} {lg sg rg : Nat} {vj : Value} {lines : List ByteArray} {st : St} (h : LibS B W lg sg rg vj lines st) (hT : Tabs W) : Calls Tryz.prog 27 #[ptr lg] W fun e w' => e = .returned (.string (stateT st)) ∧ Below W.heap.size W w' := by
  have HU := Aside0.mk (unmade_calls h.cells)
  have HX := Aside0.mk (text_calls h.sat h.good hT)
  have q0 : W.cell? ⟨lg, 0, none⟩ = some (ptr sg) := (blk_cell h.cells 0).trans rfl
  clear h hT
  go_enter Tryz.func27, Tryz.ntmps27
  go_wp2_with (first | (go_at_call 35; refine HU.out.mono ?_; rintro e w' ⟨rfl, rfl⟩) | (go_at_call 54; refine HX.out.mono ?_; rintro e w1 ⟨rfl, hb⟩; have HB1 := Aside0.mk hb; clear hb))
  go_ret
  exact ⟨rfl, HB1.out⟩
end
end Go.Proofs.YtoeeipkiadbnpaaGreatDoor.Lib10
end

section
namespace Go.Proofs.YtoeeipkiadbnpaaGreatDoor.Lib10
open Go.RowKit Go.Proofs.YtoeeipkiadbnpaaGreatDoorW.PrintWords Go.Proofs.YtoeeipkiadbnpaaGreatDoorW.PrintLast Go.Proofs.YtoeeipkiadbnpaaGreatDoorW.PrintMore
set_option linter.unusedVariables false
variable {B : Nat}
def runS (p : List ByteArray × St) (line : ByteArray) : List ByteArray × St := ((libDoV (mkReel 20000 p.1) p.1 p.2 line).lines, (libDoV (mkReel 20000 p.1) p.1 p.2 line).st)
/-- What doing lines leaves. -/
def runs (l : List ByteArray) : List ByteArray × St := l.foldl runS ([], St.begin)
theorem runs_take {l : List ByteArray} {k : Nat} {y : ByteArray} (h : l[k]? = some y) : runs (l.take (k + 1)) = runS (runs (l.take k)) y := by
  unfold runs
  rw [List.take_add_one, h, Option.toList_some, List.foldl_append]
  rfl
theorem runS_cases (p : List ByteArray × St) (y : ByteArray) : (∃ er, er ≠ 0 ∧ libDoV (mkReel 20000 p.1) p.1 p.2 y = ⟨ByteArray.empty, er, mkReel 20000 p.1, p.1, p.2⟩ ∧ runS p y = p) ∨
    ((doS p.2 y).1 = 0 ∧ ((booksV p.1).length : Int) + ((writtenV y).length : Int) ≤ 20000 ∧ libDoV (mkReel 20000 p.1) p.1 p.2 y = ⟨headW y, 0, mkReel 20000 (p.1 ++ [y]), p.1 ++ [y], (doS p.2 y).2⟩ ∧ runS p y = (p.1 ++ [y], (doS p.2 y).2)) := by
  unfold runS
  rw [libDo_run]
  by_cases h1 : (doS p.2 y).1 ≠ 0
  · rw [if_pos h1]; exact .inl ⟨_, h1, rfl, rfl⟩
  · rw [if_neg h1]
    by_cases h2 : (20000 : Int) < ((booksV p.1).length : Int) + ((writtenV y).length : Int)
    · rw [if_pos h2]; exact .inl ⟨7, by decide, rfl, rfl⟩
    · rw [if_neg h2]; exact .inr ⟨by simpa using h1, by omega, rfl, rfl⟩
theorem runs_inv : ∀ (l : List ByteArray), Reach (runs l).1 (runs l).2 ∧ (booksV (runs l).1).length ≤ 20000 ∧ (runs l).1.length ≤ l.length := by
  suffices h : ∀ (r : List ByteArray), Reach (runs r.reverse).1 (runs r.reverse).2 ∧ (booksV (runs r.reverse).1).length ≤ 20000 ∧ (runs r.reverse).1.length ≤ r.reverse.length by
    intro l
    have := h l.reverse
    rwa [List.reverse_reverse] at this
  intro r
  induction r with
  | nil => exact ⟨Reach.nil, by decide, Nat.le_refl _⟩
  | cons y r ih =>
    obtain ⟨h1, h2, h3⟩ := ih
    have e : runs (y :: r).reverse = runS (runs r.reverse) y := by unfold runs; rw [List.reverse_cons, List.foldl_append]; rfl
    rw [e]
    rcases runS_cases (runs r.reverse) y with ⟨er, _, _, e2⟩ | ⟨h4, h5, _, e2⟩
    · rw [e2]; exact ⟨h1, h2, by simp at h3 ⊢; omega⟩
    · rw [e2]
      refine ⟨h1.snoc h4, ?_, by simp at h3 ⊢; omega⟩
      show (booksV ((runs r.reverse).1 ++ [y])).length ≤ 20000
      rw [booksV_snoc, List.length_append]
      omega
/-- A journal done anew leaves itself. -/
theorem runs_again {lines : List ByteArray} {st : St} (h : Reach lines st) (hf : (booksV lines).length ≤ 20000) : runs lines = (lines, st) := by
  induction h with
  | nil => rfl
  | @snoc lines st line hr h0 ih =>
    rw [booksV_snoc, List.length_append] at hf
    have e : runs (lines ++ [line]) = runS (runs lines) line := by unfold runs; rw [List.foldl_append]; rfl
    rw [e, ih (by omega)]
    rcases runS_cases (lines, st) line with ⟨er, h1, h2, _⟩ | ⟨_, _, _, e2⟩
    · exfalso
      rw [libDo_run, if_neg (by simpa using h0), if_neg (by show ¬ _; simp only; omega)] at h2
      injection h2 with _ h2
      exact h1 h2.symm
    · exact e2
theorem take_min60 (l : List ByteArray) : l.take 60 = l.take (min l.length 60) := by
  rcases Nat.le_total l.length 60 with h | h
  · rw [Nat.min_eq_left h, List.take_of_length_le h, List.take_of_length_le (Nat.le_refl _)]
  · rw [Nat.min_eq_right h]
/-- What opened answers. -/
def OpenedEnd2 (W : World) (l : List ByteArray) (e : Ending) (w' : World) : Prop := ∃ lg, e = .returned (.tuple #[ptr lg, ptr W.heap.size, .bool true]) ∧ Ran W.heap.size w' lg W.heap.size (runs (l.take 60)).1 (runs (l.take 60)).2 ∧ Below W.heap.size W w'
section
set_option maxRecDepth 100000
set_option maxHeartbeats 2000000
theorem opened_runs {W : World} {A : Option Addr} {c : Nat} {l : List ByteArray} (hC : Kd.string.C W A l.length l) (hc : l.length ≤ c) (hs : ∀ x ∈ l, x.size < 4294967281) (hT : Tabs W) : Calls Tryz.prog 11 #[.slice A l.length c] W (OpenedEnd2 W l) := by
  have HN := Aside0.mk (new_ran hT)
  have HC := Aside0.mk hC
  have HS := Aside0.mk hs
  have HT := Aside0.mk hT
  obtain ⟨n, hn⟩ : ∃ n, n = min l.length 60 := ⟨_, rfl⟩
  have hmin : min (l.length : Int) 60 = (n : Int) := by omega
  have HNl := Aside0.mk (show n ≤ l.length by omega)
  have h60 : n ≤ 60 := by omega
  have HTk := Aside0.mk (show l.take 60 = l.take n by rw [hn]; exact take_min60 l)
  clear hC hs hT hn
  go_enter Tryz.func11, Tryz.ntmps11
  go_wp2_with (first | (go_at_call 17; refine HN.out.mono ?_; rintro e w1 ⟨rfl, hb1, hlt1, hop⟩; have HB1 := Aside0.mk hb1; have HOp := Aside0.mk hop; clear hb1 hlt1 hop) | (go_at_call 18; refine HOp.out.mono ?_; rintro e w2 ⟨lg, rfl, hrn, hb2⟩; have HRn := Aside0.mk hrn; have HB2 := Aside0.mk hb2; clear hrn hb2))
  clear hmin
  go_loopw [30] (fun v30 wr => ∃ (k : Nat) (lines : List ByteArray) (st : St), k ≤ n ∧ v30 = .int .i64 k ∧ Aside0 (Ran W.heap.size wr lg W.heap.size lines st) ∧ Aside0 (Below W.heap.size W wr) ∧ Aside0 (runs (l.take k) = (lines, st))) (fun v30 _ => n - (intOf v30).toNat)
  case atStart => exact ⟨0, [], St.begin, Nat.zero_le _, rfl, HRn, HB2, ⟨rfl⟩⟩
  case round =>
    obtain ⟨k, lines, st, hk, rfl, hrn, hbl, hrr⟩ := hrel
    by_cases hlt : k < n
    · have i0 : (0 : Int) ≤ (k : Int) := by omega
      have i1 : (k : Int) < (n : Int) := by omega
      have hkl : k < l.length := by have := HNl.out; omega
      obtain ⟨y, hy⟩ : ∃ y, l[k]? = some y := ⟨_, List.getElem?_eq_getElem hkl⟩
      have HSy := Aside0.mk (HS.out y (List.mem_of_getElem? hy))
      obtain ⟨ad, he, hc⟩ := Kd.at_string (Kd.C_below HC.out hbl.out) k i0 (by omega)
      cases he
      have h1 : rdOf ByteArray.empty l (k : Int) = y := by
        unfold rdOf
        rw [Int.toNat_natCast, List.getD_eq_getElem?_getD, hy]
        rfl
      rw [h1, Int.toNat_natCast] at hc
      have HDo := Aside0.mk (hrn.out.do (HT.out.below hbl.out HT.out.low) HSy.out)
      have HY := Aside0.mk hy
      clear h1 hy
      replace i0 := eq_true i0
      replace i1 := eq_true i1
      go_wp2_with (go_at_call 15; refine HDo.out.mono ?_; rintro e w6 ⟨rfl, hr6, hb6⟩; have HR6 := Aside0.mk hr6; have HB6 := Aside0.mk (hbl.out.trans hb6); clear hr6 hb6)
      exact ⟨⟨k + 1, _, _, by omega, by first | rfl | simp, HR6, HB6, ⟨by rw [runs_take HY.out, hrr.out]; rfl⟩⟩, by simp [intOf]; omega⟩
    · have i1 : ¬ (k : Int) < (n : Int) := by omega
      go_wp2_with fail
      go_ret3
      obtain rfl : k = n := by omega
      refine ⟨lg, rfl, ?_, hbl.out⟩
      rw [HTk.out, hrr.out]
      exact hrn.out
theorem ran_state {w : World} {lg rg : Nat} {lines : List ByteArray} {st : St} (h : Ran B w lg rg lines st) (hT : Tabs w) : Calls Tryz.prog 27 #[ptr lg] w fun e w' => e = .returned (.string (stateT st)) ∧ Below w.heap.size w w' := by
  obtain ⟨sg, vj, A, m, c, h1, h2⟩ := h.at_
  exact state_calls h1 hT
theorem ran_journal {w : World} {lg rg : Nat} {lines : List ByteArray} {st : St} (h : Ran B w lg rg lines st) : Calls Tryz.prog 12 #[ptr lg] w fun e w' => (∃ A c, e = .returned (.slice A lines.length c) ∧ Kd.string.R 9 w' w.heap.size (fun j => w.heap.size ≤ j) (.slice A lines.length c) lines) ∧ Below w.heap.size w w' := by
  obtain ⟨sg, vj, A, m, c, h1, h2⟩ := h.at_
  refine (journal_calls h1).mono ?_
  rintro e w' ⟨⟨v, rfl, hr⟩, hb⟩
  obtain ⟨A, c, rfl⟩ := Kd.R_slice hr
  exact ⟨⟨A, c, rfl, hr⟩, hb⟩
theorem ran_bytes {w : World} {lg rg : Nat} {lines : List ByteArray} {st : St} (h : Ran B w lg rg lines st) : Calls Tryz.prog 22 #[ptr rg] w fun e w' => (∃ A c, e = .returned (.slice A (booksV lines).length c) ∧ (Kd.int .u8).R 5 w' w.heap.size (fun j => w.heap.size ≤ j) (.slice A (booksV lines).length c) (booksV lines)) ∧ Below w.heap.size w w' := by
  obtain ⟨sg, vj, A, m, c, h1, h2⟩ := h.at_
  refine (bytes_fresh h2).mono ?_
  rintro e w' ⟨⟨v, rfl, hr⟩, hb⟩
  obtain ⟨A, c, rfl⟩ := Kd.R_slice hr
  exact ⟨⟨A, c, rfl, hr⟩, hb⟩
theorem books_byt (lines : List ByteArray) : Byt (booksV lines) := fun x hx => code_byt (code_books lines x hx)
theorem LibS.lower {B' : Nat} {w : World} {lg sg rg : Nat} {vj : Value} {lines : List ByteArray} {st : St} (h : LibS B' w lg sg rg vj lines st) (hb : B ≤ B') : LibS B w lg sg rg vj lines st :=
  ⟨h.cells, Nat.le_trans hb h.low, Kd.R_lower h.jr hb, h.sat.mono (fun k hk => Nat.le_trans hb hk), h.good, h.short, h.bk⟩
theorem ran_open {w : World} {lg rg : Nat} {lines : List ByteArray} {st : St} (h : Ran B w lg rg lines st) (hT : Tabs w) : Calls Tryz.prog 18 #[ptr rg] w fun e w' => ∃ lg', e = .returned (.tuple #[ptr lg', .int .i64 0]) ∧ Ran B w' lg rg lines st ∧ Ran B w' lg' rg lines st ∧ Below B w w' := by
  obtain ⟨sg, vj, A, m, c, h1, h2⟩ := h.at_
  refine (libOpen_on h2 rfl (books_byt lines) hT).mono ?_
  rintro e w' ⟨rfl, ⟨sg', vj', hl⟩, ⟨m', hr2⟩, hk, hb⟩
  have e0 : openM (mkReel 20000 lines).b = (lines, st) := h.reach.open
  rw [e0] at hl hr2
  have e1 : ({ mkReel 20000 lines with b := (mkReel 20000 lines).b.take (booksV lines).length } : ReelV) = mkReel 20000 lines := by
    have : (mkReel 20000 lines).b.take (booksV lines).length = booksV lines := List.take_of_length_le (Nat.le_refl _)
    rw [this]
    rfl
  rw [e1] at hr2
  have hB : B ≤ w.heap.size := by have := h2.low; have := blk_lt h2.rc; omega
  exact ⟨_, rfl, ⟨h.reach, sg, vj, A, m', c, h1.kept hk (fun k hk => h2.blk k hk), hr2⟩, ⟨h.reach, sg', vj', A, m', c, hl.lower hB, hr2⟩, hb⟩
theorem Ran.few {w : World} {lg rg : Nat} {lines : List ByteArray} {st : St} (h : Ran B w lg rg lines st) : lines.length ≤ 1000000 := by
  obtain ⟨sg, vj, A, m, c, h1, h2⟩ := h.at_
  exact h1.few
theorem Ran.short {w : World} {lg rg : Nat} {lines : List ByteArray} {st : St} (h : Ran B w lg rg lines st) : ∀ x ∈ lines, x.size < 4294967281 := by
  obtain ⟨sg, vj, A, m, c, h1, h2⟩ := h.at_
  exact fun x hx => by have := h1.short x hx; omega
end
end Go.Proofs.YtoeeipkiadbnpaaGreatDoor.Lib10
end

section
namespace Go.Proofs.YtoeeipkiadbnpaaGreatDoor.Lib10
open Go.RowKit Go.Proofs.YtoeeipkiadbnpaaGreatDoorW.PrintWords Go.Proofs.YtoeeipkiadbnpaaGreatDoorW.PrintLast Go.Proofs.YtoeeipkiadbnpaaGreatDoorW.PrintMore
set_option linter.unusedVariables false
variable {B : Nat}
section
set_option maxRecDepth 100000
set_option maxHeartbeats 2000000
theorem replays_walk {W : World} {A : Option Addr} {c : Nat} {l : List ByteArray} (hC : Kd.string.C W A l.length l) (hc : l.length ≤ c) (hs : ∀ x ∈ l, x.size < 4294967281) (hT : Tabs W) : Calls Tryz.prog 6 #[.slice A l.length c] W fun e w' => e = .returned (.bool true) ∧ Below W.heap.size W w' := by
  have HO := Aside0.mk (opened_runs (l := []) (c := 0) (Kd.R_reads' (Kd.R_nil Kd.string 9 W 0 (fun _ => True))).2.2 (Nat.le_refl _) (fun x hx => by cases hx) hT)
  have HC := Aside0.mk hC
  have HS := Aside0.mk hs
  have HT := Aside0.mk hT
  obtain ⟨n, hn⟩ : ∃ n, n = min l.length 60 := ⟨_, rfl⟩
  have hmin : min (l.length : Int) 60 = (n : Int) := by omega
  have HNl := Aside0.mk (show n ≤ l.length by omega)
  have h60 : n ≤ 60 := by omega
  clear hC hs hT hn
  go_enter Tryz.func6, Tryz.ntmps6
  go_wp2_with (go_at_call 11; refine HO.out.mono ?_; rintro e w1 ⟨lg, rfl, hr, hb⟩; have HR1 := Aside0.mk hr; have HB1 := Aside0.mk hb; clear hr hb)
  clear hmin
  go_loopw [29] (fun v29 wr => ∃ (k : Nat) (lines : List ByteArray) (st : St), k ≤ n ∧ v29 = .int .i64 k ∧ Aside0 (Ran W.heap.size wr lg W.heap.size lines st) ∧ Aside0 (Below W.heap.size W wr) ∧ Aside0 (runs (l.take k) = (lines, st))) (fun v29 _ => n - (intOf v29).toNat)
  case atStart => exact ⟨0, [], St.begin, Nat.zero_le _, rfl, HR1, HB1, ⟨rfl⟩⟩
  case round =>
    obtain ⟨k, lines, st, hk, rfl, hrn, hbl, hrr⟩ := hrel
    by_cases hlt : k < n
    · have i0 : (0 : Int) ≤ (k : Int) := by omega
      have i1 : (k : Int) < (n : Int) := by omega
      have hkl : k < l.length := by have := HNl.out; omega
      obtain ⟨y, hy⟩ : ∃ y, l[k]? = some y := ⟨_, List.getElem?_eq_getElem hkl⟩
      have HSy := Aside0.mk (HS.out y (List.mem_of_getElem? hy))
      obtain ⟨ad, he, hc⟩ := Kd.at_string (Kd.C_below HC.out hbl.out) k i0 (by omega)
      cases he
      have h1 : rdOf ByteArray.empty l (k : Int) = y := by
        unfold rdOf
        rw [Int.toNat_natCast, List.getD_eq_getElem?_getD, hy]
        rfl
      rw [h1, Int.toNat_natCast] at hc
      have HY := Aside0.mk hy
      have HTr := Aside0.mk (HT.out.below hbl.out HT.out.low)
      have HWr := Aside0.mk (show W.heap.size ≤ wr.heap.size from hbl.out.size)
      obtain ⟨T, hT2⟩ : ∃ T, T = stateT st := ⟨_, rfl⟩
      have HTT := Aside0.mk hT2
      obtain ⟨nb, hnb⟩ : ∃ nb, nb = (booksV lines).length := ⟨_, rfl⟩
      have HNb := Aside0.mk hnb
      clear h1 hy hT2 hnb
      replace i0 := eq_true i0
      replace i1 := eq_true i1
      rcases runS_cases (lines, st) y with ⟨er, her, hdo, hrs⟩ | ⟨_, _, hdo, hrs⟩
      · have d1 : (er == 0) = false := beq_eq_false_iff_ne.2 her
        have HRS := Aside0.mk hrs
        have HDV := Aside0.mk hdo
        have HB := Aside0.mk (Below.refl wr.heap.size wr)
        have HRb := hrn
        have HTs := HTr
        have HWb := hbl
        have hz : ¬ er = 0 := her
        clear hdo hrs her
        go_wp2_with (first | (go_at_call 27; refine (ran_state (HRb.out.below HB.out) (HTs.out.below HB.out HTs.out.low)).mono ?_; rintro e wn ⟨rfl, hb⟩; rw [← HTT.out]; have HB := Aside0.mk (HB.out.trans (hb.mono HB.out.size)); clear hb) | (go_at_call 22; refine (ran_bytes (HRb.out.below HB.out)).mono ?_; rintro e wn ⟨⟨AB, cB, rfl, _⟩, hb⟩; rw [← HNb.out]; have HB := Aside0.mk (HB.out.trans (hb.mono HB.out.size)); clear hb) | (go_at_call 15; refine ((HRb.out.below HB.out).do (HTs.out.below HB.out HTs.out.low) HSy.out).mono ?_; rintro e wn ⟨rfl, hrn2, hbn⟩; rw [show libDoV (mkReel 20000 lines) lines st y = _ from HDV.out] at hrn2 ⊢; have HWb := Aside0.mk ((HWb.out.trans (HB.out.mono HWb.out.size)).trans hbn); have HRb := Aside0.mk hrn2; have HTs := Aside0.mk (HT.out.below HWb.out HT.out.low); have HB := Aside0.mk (Below.refl wn.heap.size wn); clear hrn2 hbn))
        exact ⟨⟨k + 1, lines, st, by omega, by first | rfl | simp, ⟨HRb.out.below HB.out⟩, ⟨HWb.out.trans (HB.out.mono HWb.out.size)⟩, ⟨by rw [runs_take HY.out, hrr.out]; exact HRS.out⟩⟩, by simp [intOf]; omega⟩
      · have HRS := Aside0.mk hrs
        have HDV := Aside0.mk hdo
        have HB := Aside0.mk (Below.refl wr.heap.size wr)
        have HRb := hrn
        have HTs := HTr
        have HWb := hbl
        clear hdo hrs
        go_wp2_with (first | (go_at_call 27; refine (ran_state (HRb.out.below HB.out) (HTs.out.below HB.out HTs.out.low)).mono ?_; rintro e wn ⟨rfl, hb⟩; rw [← HTT.out]; have HB := Aside0.mk (HB.out.trans (hb.mono HB.out.size)); clear hb) | (go_at_call 22; refine (ran_bytes (HRb.out.below HB.out)).mono ?_; rintro e wn ⟨⟨AB, cB, rfl, _⟩, hb⟩; rw [← HNb.out]; have HB := Aside0.mk (HB.out.trans (hb.mono HB.out.size)); clear hb) | (go_at_call 15; refine ((HRb.out.below HB.out).do (HTs.out.below HB.out HTs.out.low) HSy.out).mono ?_; rintro e wn ⟨rfl, hrn2, hbn⟩; rw [show libDoV (mkReel 20000 lines) lines st y = _ from HDV.out] at hrn2 ⊢; have HWb := Aside0.mk ((HWb.out.trans (HB.out.mono HWb.out.size)).trans hbn); have HRb := Aside0.mk hrn2; have HTs := Aside0.mk (HT.out.below HWb.out HT.out.low); have HB := Aside0.mk (Below.refl wn.heap.size wn); clear hrn2 hbn))
        exact ⟨⟨k + 1, _, _, by omega, by first | rfl | simp, ⟨HRb.out.below HB.out⟩, ⟨HWb.out.trans (HB.out.mono HWb.out.size)⟩, ⟨by rw [runs_take HY.out, hrr.out]; exact HRS.out⟩⟩, by simp [intOf]; omega⟩
    · have i1 : ¬ (k : Int) < (n : Int) := by omega
      have hinv := runs_inv (l.take k)
      rw [hrr.out] at hinv
      have HAg := Aside0.mk (show runs (lines.take 60) = (lines, st) by
        rw [List.take_of_length_le (by have h1 := hinv.2.2; have h2 := List.length_take_le k l; simp only at h1; omega)]
        exact runs_again hinv.1 hinv.2.1)
      have HTr := Aside0.mk (HT.out.below hbl.out HT.out.low)
      obtain ⟨T, hT2⟩ : ∃ T, T = stateT st := ⟨_, rfl⟩
      have HTT := Aside0.mk hT2
      have HFew := Aside0.mk hrn.out.few
      have HB := Aside0.mk (Below.refl wr.heap.size wr)
      have HRb := hrn
      have HTs := HTr
      have HWb := hbl
      have HD := Aside0.mk (show decide (lines = lines) = true from decide_eq_true rfl)
      clear hinv hT2
      go_wp2_with (first
        | (go_at_call 11; refine (opened_runs (Kd.R_reads' HJ0.out).2.2 (Kd.R_reads' HJ0.out).2.1 HRb.out.short (HTs.out.below HB.out HTs.out.low)).mono ?_; rintro e wn ⟨lgG, rfl, hr, hb⟩; rw [HAg.out] at hr; have HRb := Aside0.mk ((HRb.out.below HB.out).below hb); have HRg := Aside0.mk hr; have HWb := Aside0.mk (HWb.out.trans ((HB.out.trans (hb.mono HB.out.size)).mono HWb.out.size)); have HTs := Aside0.mk (HT.out.below HWb.out HT.out.low); have HB := Aside0.mk (Below.refl wn.heap.size wn); clear hr hb)
        | (go_at_call 18; refine (ran_open (HRb.out.below HB.out) (HTs.out.below HB.out HTs.out.low)).mono ?_; rintro e wn ⟨lgA, rfl, hr1, hr2, hb⟩; have HRb := Aside0.mk hr1; have HRg := Aside0.mk hr2; have HWb := Aside0.mk ((HWb.out.trans (HB.out.mono HWb.out.size)).trans hb); have HTs := Aside0.mk (HT.out.below HWb.out HT.out.low); have HB := Aside0.mk (Below.refl wn.heap.size wn); clear hr1 hr2 hb)
        | (go_at_call 27; with_reducible (refine (ran_state (HRg.out.below HB.out) (HTs.out.below HB.out HTs.out.low)).mono ?_); rintro e wn ⟨rfl, hb⟩; rw [← HTT.out]; have HB := Aside0.mk (HB.out.trans (hb.mono HB.out.size)); clear hb)
        | (go_at_call 27; refine (ran_state (HRb.out.below HB.out) (HTs.out.below HB.out HTs.out.low)).mono ?_; rintro e wn ⟨rfl, hb⟩; rw [← HTT.out]; have HB := Aside0.mk (HB.out.trans (hb.mono HB.out.size)); clear hb)
        | (go_at_call 12; with_reducible (refine (ran_journal (HRg.out.below HB.out)).mono ?_); rintro e wn ⟨⟨A1, c1, rfl, hr⟩, hb⟩; have HJ1 := Aside0.mk hr; have HB := Aside0.mk (HB.out.trans (hb.mono HB.out.size)); clear hr hb)
        | (go_at_call 12; refine (ran_journal (HRb.out.below HB.out)).mono ?_; rintro e wn ⟨⟨A2, c2, rfl, hr⟩, hb⟩; have HJ1 := Aside0.mk (Kd.R_below HJ1.out hb); have HJ2 := Aside0.mk hr; have HB := Aside0.mk (HB.out.trans (hb.mono HB.out.size)); clear hr hb)
        | (go_at_call 12; refine (ran_journal (HRb.out.below HB.out)).mono ?_; rintro e wn ⟨⟨A0, c0, rfl, hr⟩, hb⟩; have HJ0 := Aside0.mk hr; have HB := Aside0.mk (HB.out.trans (hb.mono HB.out.size)); clear hr hb)
        | (go_at_call 20; refine (equal_rows HJ1.out HJ2.out HFew.out HFew.out).mono ?_; rintro e wn ⟨he, q, rfl⟩; rw [show decide (lines = lines) = true from decide_eq_true rfl] at he; subst he; have HB := Aside0.mk (HB.out.trans ((drew_below _ q).mono HB.out.size)))
        | (go_at_call 13; refine (awake_calls _ (HTs.out.below HB.out HTs.out.low)).mono ?_; rintro e wn ⟨rfl, hb⟩; have HB := Aside0.mk (HB.out.trans (hb.mono HB.out.size)); clear hb))
      go_ret
      exact ⟨rfl, HWb.out.trans (HB.out.mono HWb.out.size)⟩
end
end Go.Proofs.YtoeeipkiadbnpaaGreatDoor.Lib10
end
