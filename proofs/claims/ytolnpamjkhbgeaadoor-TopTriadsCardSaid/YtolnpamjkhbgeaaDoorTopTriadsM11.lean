/- Texts that the proof of TopTriads needs, put together in build order by this session's program (wip/tools/claimtrim.py). -/
import Derived.StillTailTactics
import Derived.Sort.QuietThIn
import Derived.OwnWalkIn
import Derived.RangeFuncCalls
section
namespace Go.Proofs.YtolnpamjkhbgeaaDoor.Still
open Go
variable {P : Program} {ops : Array Oper} {md : Region.Mode}
/-- No operation defers a call. -/
def noDefer (l : List Oper) : Bool := l.all fun o => match o.op with | .defer _ => false | _ => true
theorem noDefer_spec {l : List Oper} (h : noDefer l = true) {i : Nat} {o : Oper} (hi : l[i]? = some o) : ∀ c, o.op ≠ .defer c := by
  intro c e
  have := List.all_eq_true.1 h o (List.mem_of_getElem? hi)
  rw [e] at this
  cases this
theorem rows_round {n r : Nat} {row : String} {args : Array Value} {w : World} {R : Value → World → Prop} (h : Rows P row args w R) : RowsIn (Fence.wide.inRound r) n P row args w R :=
  fun c cs _ => let ⟨v, w', q, s⟩ := h c cs; ⟨v, w', q, stepsIn_wide.2 s⟩
theorem any_round {n r : Nat} {Q : Exit → Act → World → Prop} (hd : ∀ (i : Nat) (o : Oper), ops[i]? = some o → ∀ c, o.op ≠ .defer c) (hL : ¬ LetsOut Q) : ∀ (fuel : Nat) (listed : Array Bool) (a : Act) (w : World),
    wpAny P md ops Q fuel listed a w → wpAnyIn (Fence.wide.inRound r) n P md ops Q fuel listed a w
  | 0, _, _, _, h => h
  | fuel + 1, listed, a, w, h => ⟨h.1, fun i hi => by
      have hh := h.2 i hi
      unfold wpOp at hh
      unfold wpOpIn
      cases ho : ops[i]? with
      | none => rw [ho] at hh; exact any_round hd hL fuel _ a w hh
      | some o =>
        rw [ho] at hh
        by_cases hwt : Region.wanted o (yielded ops a.tmps) = true
        · simp only [hwt, if_true] at hh ⊢
          rcases hh with hh | hh
          · refine ⟨fun _ _ => trivial, ?_⟩
            rw [Oper.semAt_plain _ _ _ (hd i o ho)]
            unfold Oper.wp at hh
            cases hr : (execOp a.eval o).run P w with
            | halt x w' => rw [hr] at hh; cases x <;> simp only [Oper.upon, Oper.uponIn] at hh ⊢ <;> exact hh
            | ok x w' =>
              rw [hr] at hh
              cases x <;> simp only [Oper.upon, Oper.uponIn] at hh ⊢ <;>
                first
                  | exact any_round hd hL fuel _ _ _ hh
                  | exact ⟨fun h => by simp [Fence.wide, Fence.inRound] at h, CallsIn.inRound r (callsIn_wide.2 (hh.mono (fun e w'' he => by cases e <;> first | exact any_round hd hL fuel _ _ _ he | exact he)))⟩
                  | exact ⟨fun h => by simp [Fence.wide, Fence.inRound] at h, rows_round (hh.mono (fun _ _ he => any_round hd hL fuel _ _ _ he))⟩
          · exact absurd hh.2 hL
        · simp only [hwt] at hh ⊢
          exact ⟨fun _ _ => trivial, any_round hd hL fuel _ _ w hh⟩⟩
theorem region_tail {id r n : Nat} {Q : Exit → Act → World → Prop} {a : Act} {w : World} {l : List Oper} (k : Nat) (hd : noDefer l = true) (hL : ¬ LetsOut Q) (hm : P.follows .mixedOrders = true) (hB : Region.lexTailB .any l.toArray k = true)
    (h : wpStill P l.toArray { w with drawn := w.drawn + 1 } (fun a' => wpList P l.toArray Q (l.drop k) a' { w with drawn := w.drawn + 1 }) (l.take k) a) : (Code.region id l.toArray true).wpIn (Fence.wide.inRound r) n P Q a w := by
  simp only [Region.lexTailB, Bool.and_eq_true, decide_eq_true_eq] at hB
  obtain ⟨⟨⟨⟨hsel, hn⟩, hs⟩, hc⟩, hlex⟩ := hB
  have hn' : k < l.length := by simpa using hn
  have htl : (l.take k).length = k := by simp; omega
  have hdl : (l.drop k).length = l.toArray.size - k := by simp
  have inv0 : HeadInv .any l.toArray k (Array.replicate l.toArray.size false) :=
    ⟨by simp, fun j oj _ hl => (by rw [getD_replicate_false] at hl; cases hl), fun t _ ht => getD_in (by simpa using ht) (getD_replicate_false _ _)⟩
  have H := wpAnyL_lex (md := .any) (g := l.toArray.size - k) hsel hs hc hn (l.take k) 0 _ a (fun j hj => by
    have hj' : j < k := by rw [htl] at hj; exact hj
    simp [hj']) (by simpa using htl) inv0 (by rw [htl]; exact hlex) h
  refine wpIn_region_any hm ?_
  have := wpAny_of_head (Q' := Q) (g := l.toArray.size - k) (fun listed a' hL => by
    have := wpAny_of_seq (md := .any) (Q' := Q) (l.drop k) k listed a' { w with drawn := w.drawn + 1 } (fun j => by simp [List.getElem?_drop]) (by rw [hdl]; exact hL.1) hL.2
    rwa [hdl] at this) _ _ _ H
  rw [htl, show k + (l.toArray.size - k) = l.toArray.size by omega] at this
  exact any_round (fun i o ho => noDefer_spec hd (by simpa using ho)) hL _ _ _ _ this
end Go.Proofs.YtolnpamjkhbgeaaDoor.Still
end
