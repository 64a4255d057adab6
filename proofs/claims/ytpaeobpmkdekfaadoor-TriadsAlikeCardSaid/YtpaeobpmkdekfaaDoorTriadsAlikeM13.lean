/- Texts that the proof of TriadsAlike needs, put together in build order by this session's program (wip/tools/claimtrim.py). -/
import Derived.Maps.OwnSet
import Derived.Maps.RangeWalk
import Derived.Maps.StringElems
import Derived.WalkKit
section
namespace Go.Proofs.YtpaeobpmkdekfaaDoor.MapLaws
open Go.Maps (Keyed)
section
variable {H : Type} {P : Program} (w : World) {ops : Array Oper} {rest : List Oper} {o : Oper} {a : Act} {Q : Exit → Act → World → Prop}
/-- An entry of a map's literal. -/
theorem wpList_insert_own (hg : o.guard = none) (m x v : Operand) (t : TypeId) (hop : o.op = Op.insert t m x v)
    (k e : TypeId) (K : Keyed P k) (ht : P.underlying t = some (.map k e)) (R : Value → Option (DataW H × List MemPlace)) (b n : Nat) (D : DataW H)
    (hm : a.eval m = .map (some b)) (hown : w.ownsMap P k R b n D) (hn : n < maxLen) (key val : Value) (kl : Lit) (hx : a.eval x = key) (hv : a.eval v = val) (hkey : keyOf P k key = some kl)
    (d : DataW H) (ps : List MemPlace) (hval : R val = some (d, ps))
    (hK : ∀ w', w'.ownsMap P k R b (n + 1) (D.put kl d) → w.grownBy w' (some b) → wpList P ops Q rest (a.put o.dst undef) w') :
    wpList P ops Q (o :: rest) a w := by
  refine wpList_plain hg fun K' hK' => ?_
  obtain ⟨w', hrun, r1, r2⟩ := hown.update K ht hn hkey hval
  unfold Oper.wp
  simp [execOp, hop, hm, hx, hv, hrun, Result.andThen]
  exact hK' _ _ (hK w' r1 r2)
/-- 'm[k]' at elements that are strings. -/
theorem wpList_lookup_own_str (hg : o.guard = none) (m x : Operand) (t : TypeId) (hop : o.op = Op.lookup t m x false)
    (k e : TypeId) (K : Keyed P k) (ht : P.underlying t = some (.map k e)) (he : P.underlying e = some .string) (hz : (zeroValue e).run P w = .ok (.string ⟨#[]⟩) w) (b n : Nat) (D : DataW H)
    (hm : a.eval m = .map (some b)) (hown : w.ownsMap P k (plainElem P e) b n D) (key : Value) (kl : Lit) (hx : a.eval x = key) (hkey : keyOf P k key = some kl) (s : ByteArray) (hs : D.atKey kl (.lit (.string [])) = .lit (.string s.data.toList))
    (hK : wpList P ops Q rest (a.put o.dst (.string s)) w) :
    wpList P ops Q (o :: rest) a w := by
  refine wpList_plain hg fun K' hK' => ?_
  obtain ⟨v, ps, hrun, hv⟩ := hown.lookup K ht hz (zd := .lit (.string [])) (zp := []) (by simp [plainElem, he]; decide) hkey
  obtain ⟨s', rfl, hd, _⟩ := plainElem_string_inv he hv
  have e1 : s' = s := by
    have h1 := congrArg Prod.fst hd
    simp only at h1
    rw [hs] at h1
    injection h1 with h1
    injection h1 with h1
    exact ByteArray.ext (Array.toList_inj.1 h1.symm)
  subst e1
  unfold Oper.wp
  simp [execOp, hop, hm, hx, hrun, Result.andThen]
  exact hK' _ _ hK
/-- 'v, ok := m[k]' at elements that are strings. -/
theorem wpList_lookup_own_ok_str (hg : o.guard = none) (m x : Operand) (t : TypeId) (hop : o.op = Op.lookup t m x true)
    (k e : TypeId) (K : Keyed P k) (ht : P.underlying t = some (.map k e)) (he : P.underlying e = some .string) (hz : (zeroValue e).run P w = .ok (.string ⟨#[]⟩) w) (b n : Nat) (D : DataW H)
    (hm : a.eval m = .map (some b)) (hown : w.ownsMap P k (plainElem P e) b n D) (key : Value) (kl : Lit) (hx : a.eval x = key) (hkey : keyOf P k key = some kl) (s : ByteArray) (hs : D.atKey kl (.lit (.string [])) = .lit (.string s.data.toList)) (bb : Bool) (hb : Maps.has D kl = bb)
    (hK : wpList P ops Q rest (a.put o.dst (.tuple #[.string s, .bool bb])) w) :
    wpList P ops Q (o :: rest) a w := by
  subst hb
  refine wpList_plain hg fun K' hK' => ?_
  obtain ⟨v, ps, hrun, hv⟩ := hown.look_ok K ht hz (zd := .lit (.string [])) (zp := []) (by simp [plainElem, he]; decide) hkey
  obtain ⟨s', rfl, hd, _⟩ := plainElem_string_inv he hv
  have e1 : s' = s := by
    have h1 := congrArg Prod.fst hd
    simp only at h1
    rw [hs] at h1
    injection h1 with h1
    injection h1 with h1
    exact ByteArray.ext (Array.toList_inj.1 h1.symm)
  subst e1
  unfold Oper.wp
  simp [execOp, hop, hm, hx, hrun, Result.andThen]
  exact hK' _ _ hK
end
section
variable {H : Type}
/-- The map with entries keyed by whole numbers, elements strings. -/
def mapD (L : List (Int × List UInt8)) : DataW H := L.foldl (fun m p => m.put (.int .i64 p.1) (.lit (.string p.2))) (.map [])
theorem mapD_snoc (L : List (Int × List UInt8)) (p : Int × List UInt8) : (mapD (L ++ [p]) : DataW H) = (mapD L).put (.int .i64 p.1) (.lit (.string p.2)) := by
  unfold mapD
  rw [List.foldl_append]
  rfl
theorem keyLit (x : Int) : WideAt.IsKeyLit (.int .i64 x) := by first | trivial | exact ⟨_, _, rfl⟩ | simp [WideAt.IsKeyLit]
theorem snoc_ind {α : Type} {p : List α → Prop} (h0 : p []) (h1 : ∀ l x, p l → p (l ++ [x])) : ∀ l, p l := by
  intro l
  have key : ∀ m : List α, p m.reverse := by
    intro m
    induction m with
    | nil => exact h0
    | cons x m ih => rw [List.reverse_cons]; exact h1 _ _ ih
  have := key l.reverse
  rwa [List.reverse_reverse] at this
theorem mapD_isMap (L : List (Int × List UInt8)) : Maps.IsMap (mapD L : DataW H) := by
  revert L
  refine snoc_ind Maps.isMap_empty fun L p h => ?_
  rw [mapD_snoc]
  exact h.put _ _
theorem mapD_tidy (L : List (Int × List UInt8)) : Maps.Tidy (mapD L : DataW H) := by
  revert L
  refine snoc_ind Maps.tidy_empty fun L p h => ?_
  rw [mapD_snoc]
  exact h.put (keyLit _) _
theorem mapD_has (L : List (Int × List UInt8)) (x : Int) : Maps.has (mapD L : DataW H) (.int .i64 x) = L.any (fun p => decide (p.1 = x)) := by
  revert L
  refine snoc_ind rfl fun L p h => ?_
  rw [mapD_snoc, List.any_append, List.any_cons, List.any_nil, Bool.or_false]
  by_cases e : p.1 = x
  · rw [← e, Maps.has_put_same (mapD_isMap L) (keyLit _)]
    simp
  · rw [Maps.has_put_other (fun h => e (by injection h with _ h; exact h.symm)), h]
    simp [e]
theorem mapD_size (L : List (Int × List UInt8)) (hn : (L.map (·.1)).Nodup) : Maps.size (mapD L : DataW H) = L.length := by
  revert L
  refine snoc_ind (fun _ => rfl) fun L p h hn => ?_
  rw [List.map_append, List.nodup_append] at hn
  rw [mapD_snoc, Maps.size_put (mapD_tidy L), mapD_has, if_neg ?_, h hn.1, List.length_append]
  · rfl
  · intro hh
    obtain ⟨q, hq, e⟩ := List.any_eq_true.1 hh
    exact hn.2.2 q.1 (List.mem_map.2 ⟨q, hq, rfl⟩) p.1 (by simp) (of_decide_eq_true e)
theorem mapD_at (L : List (Int × List UInt8)) (hn : (L.map (·.1)).Nodup) (x : Int) (u : List UInt8) (h : (x, u) ∈ L) (z : DataW H) : (mapD L : DataW H).atKey (.int .i64 x) z = .lit (.string u) := by
  revert L
  refine snoc_ind (fun _ h => by simp at h) fun L p ih hn hm => ?_
  rw [List.map_append, List.nodup_append] at hn
  rw [mapD_snoc]
  rcases List.mem_append.1 hm with hm | hm
  · have hne : x ≠ p.1 := fun e => hn.2.2 x (List.mem_map.2 ⟨_, hm, rfl⟩) p.1 (by simp) e
    rw [Maps.atKey_put_other (fun h => hne (by injection h)), ih hn.1 hm]
  · obtain rfl : (x, u) = p := by simpa using hm
    exact Maps.atKey_put_same (mapD_isMap L) (keyLit _) _ _
theorem mapD_at_none (L : List (Int × List UInt8)) (x : Int) (h : L.any (fun p => decide (p.1 = x)) = false) (z : DataW H) : (mapD L : DataW H).atKey (.int .i64 x) z = z :=
  Maps.atKey_of_not_has (by rw [mapD_has, h]) z
end
end Go.Proofs.YtpaeobpmkdekfaaDoor.MapLaws
end
