/- Texts that the proof of LibraryReels needs, put together in build order by this session's program (wip/tools/claimtrim.py). -/
import Derived.Maps.OwnSet
import Derived.Maps.Range
import Derived.Maps.RangeWalk
import Derived.Maps.Ext
import Derived.Shelf.SlMaps.Clone
section
namespace Go.Proofs.YtoeeipkiadbnpaaGreatDoor.Lib10
open Go Go.Maps
abbrev Str := List UInt8
section
variable {α : Type}
def get (m : List (Str × α)) (k : Str) : Option α := (m.find? fun p => decide (p.1 = k)).map (·.2)
def put : List (Str × α) → Str → α → List (Str × α)
  | [], k, v => [(k, v)]
  | p :: m, k, v => if p.1 = k then (k, v) :: m else p :: put m k v
def del (m : List (Str × α)) (k : Str) : List (Str × α) := m.filter fun p => !decide (p.1 = k)
def keysOf (m : List (Str × α)) : List Str := m.map (·.1)
theorem get_nil (k : Str) : get ([] : List (Str × α)) k = none := rfl
theorem get_cons (p : Str × α) (m : List (Str × α)) (k : Str) : get (p :: m) k = if p.1 = k then some p.2 else get m k := by
  unfold get
  rw [List.find?_cons]
  by_cases h : p.1 = k
  · simp [h]
  · simp [h]
theorem get_put (v : α) (k k' : Str) : ∀ m : List (Str × α), get (put m k v) k' = if k' = k then some v else get m k'
  | [] => by
    rw [put, get_cons, get_nil]
    by_cases h : k' = k
    · simp [h]
    · simp [h, Ne.symm h]
  | p :: m => by
    rw [put]
    by_cases h : p.1 = k
    · rw [if_pos h, get_cons, get_cons]
      by_cases h' : k' = k
      · simp [h']
      · simp [h, h', Ne.symm h']
    · rw [if_neg h, get_cons, get_cons, get_put v k k' m]
      by_cases h' : k' = k
      · subst h'; simp [h]
      · simp [h']
theorem get_del (k k' : Str) : ∀ m : List (Str × α), get (del m k) k' = if k' = k then none else get m k'
  | [] => by simp [del, get_nil]
  | p :: m => by
    have ih := get_del k k' m
    unfold del at ih ⊢
    rw [List.filter_cons]
    by_cases h : p.1 = k
    · rw [if_neg (by simp [h]), ih, get_cons]
      by_cases h' : k' = k
      · simp [h']
      · simp [h', h, Ne.symm h']
    · rw [if_pos (by simp [h]), get_cons, get_cons, ih]
      by_cases h' : k' = k
      · subst h'; simp [h]
      · simp [h']
theorem get_some_mem {m : List (Str × α)} {k : Str} {v : α} (h : get m k = some v) : (k, v) ∈ m := by
  unfold get at h
  obtain ⟨p, hp, rfl⟩ := Option.map_eq_some_iff.1 h
  have h1 := List.find?_some hp
  have h2 := List.mem_of_find?_eq_some hp
  have h3 : p.1 = k := by simpa using h1
  subst h3
  exact h2
theorem get_of_mem : ∀ {m : List (Str × α)} {k : Str} {v : α}, (keysOf m).Nodup → (k, v) ∈ m → get m k = some v
  | p :: m, k, v, hn, h => by
    obtain ⟨h1, h2⟩ := List.nodup_cons.1 hn
    rw [get_cons]
    rcases List.mem_cons.1 h with e | e
    · subst e; simp
    · have : p.1 ≠ k := fun e2 => h1 (List.mem_map.2 ⟨_, e, e2.symm⟩)
      rw [if_neg this]
      exact get_of_mem h2 e
theorem get_none_iff {m : List (Str × α)} {k : Str} : get m k = none ↔ k ∉ keysOf m := by
  unfold get keysOf
  rw [Option.map_eq_none_iff, List.find?_eq_none]
  constructor
  · intro h hk
    obtain ⟨p, hp, rfl⟩ := List.mem_map.1 hk
    exact h p hp (by simp)
  · intro h p hp e
    exact h (List.mem_map.2 ⟨p, hp, by simpa using e⟩)
theorem keys_put (v : α) (k : Str) : ∀ m : List (Str × α), keysOf (put m k v) = if (get m k).isSome = true then keysOf m else keysOf m ++ [k]
  | [] => by simp [put, keysOf, get_nil]
  | p :: m => by
    have ih := keys_put v k m
    rw [put, get_cons]
    by_cases h : p.1 = k
    · simp [h, keysOf]
    · rw [if_neg h, if_neg h]
      unfold keysOf at ih ⊢
      rw [List.map_cons, ih]
      by_cases h2 : (get m k).isSome = true
      · simp [h2]
      · simp [h2]
theorem nodup_put {m : List (Str × α)} (h : (keysOf m).Nodup) (k : Str) (v : α) : (keysOf (put m k v)).Nodup := by
  rw [keys_put]
  by_cases h2 : (get m k).isSome = true
  · rw [if_pos h2]; exact h
  · rw [if_neg h2]
    have : get m k = none := by simpa using h2
    have hk := get_none_iff.1 this
    exact List.nodup_append.2 ⟨h, by simp, fun a ha b hb e => by
      rw [List.mem_singleton] at hb
      subst hb; subst e
      exact hk ha⟩
theorem length_put (m : List (Str × α)) (k : Str) (v : α) : (put m k v).length = if (get m k).isSome = true then m.length else m.length + 1 := by
  have := congrArg List.length (keys_put v k m)
  unfold keysOf at this
  rw [List.length_map] at this
  rw [this]
  split <;> simp
theorem nodup_del {m : List (Str × α)} (h : (keysOf m).Nodup) (k : Str) : (keysOf (del m k)).Nodup := List.Nodup.sublist (List.Sublist.map _ List.filter_sublist) h
theorem length_del : ∀ {m : List (Str × α)}, (keysOf m).Nodup → ∀ k, (del m k).length + (if (get m k).isSome = true then 1 else 0) = m.length
  | [], _, k => by simp [del, get_nil]
  | p :: m, hn, k => by
    obtain ⟨h1, h2⟩ := List.nodup_cons.1 hn
    have ih := length_del h2 k
    unfold del at ih ⊢
    rw [List.filter_cons, get_cons]
    by_cases h : p.1 = k
    · have : get m k = none := get_none_iff.2 (by rw [← h]; exact h1)
      rw [this] at ih
      rw [if_neg (by simp [h]), if_pos h]
      simp at ih ⊢
      omega
    · rw [if_pos (by simp [h]), if_neg h]
      simp only [List.length_cons]
      omega
end
/-- An element read as it is. -/
def asIs (v : Value) : Option (DataW Value × List MemPlace) := some (.held v, [])
/-- The datum holds just these pairs. -/
structure Agrees (D : DataW Value) (m : List (Str × Value)) : Prop where
  at_ : ∀ k z, D.atKey (.string k) z = match get m k with | some v => .held v | none => z
  has_ : ∀ k, Maps.has D (.string k) = (get m k).isSome
  size_ : Maps.size D = m.length
  nodup : (keysOf m).Nodup
  isMap : IsMap D
  tidy : Tidy D
theorem keyLit (k : Str) : WideAt.IsKeyLit (.string k) := by first | trivial | simp [WideAt.IsKeyLit]
theorem Agrees.nil : Agrees (.map []) [] where
  at_ := fun k z => by rw [get_nil]; exact atKey_of_not_has rfl z
  has_ := fun k => rfl
  size_ := rfl
  nodup := List.nodup_nil
  isMap := isMap_empty
  tidy := tidy_empty
theorem Agrees.put {D : DataW Value} {m : List (Str × Value)} (h : Agrees D m) (k : Str) (v : Value) : Agrees (D.put (.string k) (.held v)) (Lib10.put m k v) where
  at_ := fun k' z => by
    rw [get_put]
    by_cases e : k' = k
    · subst e; rw [if_pos rfl]; exact atKey_put_same h.isMap (keyLit _) _ _
    · rw [if_neg e, atKey_put_other (fun e2 => e (by injection e2)) , h.at_]
  has_ := fun k' => by
    rw [get_put]
    by_cases e : k' = k
    · subst e; rw [if_pos rfl, has_put_same h.isMap (keyLit _)]; rfl
    · rw [if_neg e, has_put_other (fun e2 => e (by injection e2)), h.has_]
  size_ := by rw [size_put h.tidy, h.has_, length_put, h.size_]
  nodup := nodup_put h.nodup k v
  isMap := h.isMap.put _ _
  tidy := h.tidy.put (keyLit _) _
theorem Agrees.del {D : DataW Value} {m : List (Str × Value)} (h : Agrees D m) (k : Str) : Agrees (D.del (.string k)) (Lib10.del m k) where
  at_ := fun k' z => by
    rw [get_del]
    by_cases e : k' = k
    · subst e; rw [if_pos rfl]; exact atKey_del_same _
    · rw [if_neg e, atKey_del_other (fun e2 => e (by injection e2)), h.at_]
  has_ := fun k' => by
    rw [get_del]
    by_cases e : k' = k
    · subst e; rw [if_pos rfl, has_del_same]; rfl
    · rw [if_neg e, has_del_other (fun e2 => e (by injection e2)), h.has_]
  size_ := by
    have h1 := size_del h.tidy (k := .string k)
    have h2 := length_del h.nodup k
    rw [h.has_, h.size_] at h1
    omega
  nodup := nodup_del h.nodup k
  isMap := h.isMap.del _
  tidy := h.tidy.del _
/-- Block b is a map that holds just these pairs. -/
def MapRep (P : Program) (K : TypeId) (W : World) (b : Nat) (m : List (Str × Value)) : Prop := ∃ D, W.ownsMap P K asIs b m.length D ∧ Agrees D m
section
variable {P : Program} {K : TypeId} {W W' : World} {b : Nat} {m : List (Str × Value)}
theorem ownsMap_tight {n : Nat} {D : DataW Value} (h : W.ownsMap P K asIs b n D) : W.ownsMap P K asIs b (Maps.size D) D := by
  obtain ⟨es, clock, hb, F, _, rfl⟩ := h
  exact ⟨es, clock, hb, F, by simp [Maps.size, length_sorted], rfl⟩
theorem MapRep.of {n : Nat} {D : DataW Value} (h : W.ownsMap P K asIs b n D) (ha : Agrees D m) : MapRep P K W b m := ⟨D, by rw [← ha.size_]; exact ownsMap_tight h, ha⟩
theorem MapRep.lt (h : MapRep P K W b m) : b < W.heap.size := h.choose_spec.1.lt
theorem MapRep.same (h : MapRep P K W b m) (hs : W'.heap[b]? = W.heap[b]?) : MapRep P K W' b m := by
  obtain ⟨D, ⟨es, clock, hb, r⟩, ha⟩ := h
  exact ⟨D, ⟨es, clock, hs.trans hb, r⟩, ha⟩
theorem MapRep.nodup (h : MapRep P K W b m) : (keysOf m).Nodup := h.choose_spec.2.nodup
theorem MapRep.look {t e : TypeId} (h : MapRep P K W b m) (Kd : Keyed P K) (ht : P.underlying t = some (.map K e)) {z : Value} (hz : (zeroValue e).run P W = .ok z W) {key : Value} {k : Str} (hkey : keyOf P K key = some (.string k)) :
    (Instr.lookup t (.map (some b)) key true).run P W = .ok (.tuple #[(get m k).getD z, .bool (get m k).isSome]) W := by
  obtain ⟨D, hown, ha⟩ := h
  obtain ⟨v, ps, hrun, hv⟩ := hown.look_ok Kd ht hz (zd := .held z) (zp := []) rfl hkey
  have hv' : v = (get m k).getD z := by
    have h1 : DataW.held v = D.atKey (.string k) (.held z) := by
      have := congrArg Prod.fst (Option.some.inj hv)
      exact this
    rw [ha.at_] at h1
    cases hg : get m k with
    | none => rw [hg] at h1; injection h1
    | some u => rw [hg] at h1; injection h1
  rw [hrun, ha.has_, hv']
theorem MapRep.len {t e : TypeId} (h : MapRep P K W b m) (ht : P.underlying t = some (.map K e)) (ty : TypeId) : (Builtin.len_ #[t] ty #[.map (some b)]).run P W = .ok (.int .i64 m.length) W := by
  obtain ⟨D, hown, ha⟩ := h
  rw [hown.len ht ty, ha.size_]
theorem MapRep.store {t e : TypeId} (h : MapRep P K W b m) (Kd : Keyed P K) (ht : P.underlying t = some (.map K e)) (hn : m.length < 1000) {key val : Value} {k : Str} (hkey : keyOf P K key = some (.string k)) :
    ∃ w', (Instr.mapUpdate t (.map (some b)) key val).run P W = .ok () w' ∧ MapRep P K w' b (put m k val) ∧ W.grownBy w' (some b) ∧ w'.heap.size = W.heap.size := by
  obtain ⟨D, hown, ha⟩ := h
  obtain ⟨w', hrun, h1, h2⟩ := hown.store Kd ht (by unfold maxLen; omega) hkey (val := val) (d := .held val) (ps := []) rfl
  refine ⟨w', hrun, MapRep.of h1 (ha.put k val), h2.grown, ?_⟩
  obtain ⟨es, clock, es', clock', hb, rfl⟩ := h2
  simp [ChangeMaps.setBlock]
theorem MapRep.drop {t e : TypeId} (h : MapRep P K W b m) (Kd : Keyed P K) (ht : P.underlying t = some (.map K e)) {key : Value} {k : Str} (hkey : keyOf P K key = some (.string k)) (ty : TypeId) :
    ∃ w', (Builtin.delete_ #[t, K] ty #[.map (some b), key]).run P W = .ok (.tuple #[]) w' ∧ MapRep P K w' b (del m k) ∧ W.grownBy w' (some b) ∧ w'.heap.size = W.heap.size := by
  obtain ⟨D, hown, ha⟩ := h
  obtain ⟨w', hrun, h1, h2⟩ := hown.drop Kd ht hkey ty
  refine ⟨w', hrun, MapRep.of h1 (ha.del k), h2.grown, ?_⟩
  obtain ⟨es, clock, es', clock', hb, rfl⟩ := h2
  simp [ChangeMaps.setBlock]
theorem MapRep.made (W : World) (P : Program) (K : TypeId) : MapRep P K (W.alloc (.map #[] 0)) W.heap.size [] := ⟨_, World.ownsMap_made W P K asIs, Agrees.nil⟩
end
end Go.Proofs.YtoeeipkiadbnpaaGreatDoor.Lib10
end
