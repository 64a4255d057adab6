/- Texts that the proof of LibraryReels needs, put together in build order by this session's program (wip/tools/claimtrim.py). -/
import Derived.Lib.Split
import Derived.Lib.SplitLaws
import Derived.Lib.IndexBytes
section
namespace Go.Proofs.YtoeeipkiadbnpaaGreatDoor.Lib10
open Go
/-- A text cut at a byte. -/
def splitL (c : UInt8) : List UInt8 → List (List UInt8)
  | [] => [[]]
  | b :: l => if b = c then [] :: splitL c l else match splitL c l with
    | [] => [[b]]
    | w :: ws => (b :: w) :: ws
theorem splitL_length (c : UInt8) : ∀ l, (splitL c l).length = l.count c + 1
  | [] => rfl
  | b :: l => by
    have ih := splitL_length c l
    rw [splitL]
    by_cases h : b = c
    · subst h; rw [if_pos rfl, List.length_cons, ih, List.count_cons_self]
    · rw [if_neg h, List.count_cons_of_ne h]
      cases hs : splitL c l with
      | nil => rw [hs] at ih; simp at ih
      | cons w ws => rw [hs] at ih; simpa using ih
theorem splitL_none (c : UInt8) : ∀ l, c ∉ l → splitL c l = [l]
  | [], _ => rfl
  | b :: l, h => by
    rw [splitL, if_neg (fun e => h (by rw [e]; exact List.mem_cons_self)), splitL_none c l (fun h2 => h (List.mem_cons_of_mem _ h2))]
theorem splitL_append (c : UInt8) (post : List UInt8) : ∀ pre, c ∉ pre → splitL c (pre ++ c :: post) = pre :: splitL c post
  | [], _ => by rw [List.nil_append, splitL, if_pos rfl]
  | b :: pre, h => by
    rw [List.cons_append, splitL, if_neg (fun e => h (by rw [e]; exact List.mem_cons_self)), splitL_append c post pre (fun h2 => h (List.mem_cons_of_mem _ h2))]
theorem indexByte_append (c : UInt8) (post : List UInt8) : ∀ pre, c ∉ pre → Lib.indexByte (pre ++ c :: post) c = (pre.length : Int)
  | [], _ => by rw [List.nil_append, Lib.indexByte]; simp
  | b :: pre, h => by
    rw [List.cons_append, Lib.indexByte, indexByte_append c post pre (fun h2 => h (List.mem_cons_of_mem _ h2))]
    have : (b == c) = false := beq_eq_false_iff_ne.2 (fun e => h (by rw [e]; exact List.mem_cons_self))
    rw [this]
    have h2 : ((pre.length : Int) == -1) = false := beq_eq_false_iff_ne.2 (by omega)
    rw [h2]
    simp
theorem first_at (c : UInt8) : ∀ l : List UInt8, c ∈ l → ∃ pre post, l = pre ++ c :: post ∧ c ∉ pre
  | b :: l, h => by
    by_cases e : b = c
    · subst e; exact ⟨[], l, rfl, by simp⟩
    · obtain ⟨pre, post, h1, h2⟩ := first_at c l ((List.mem_cons.1 h).resolve_left (fun h => e h.symm))
      exact ⟨b :: pre, post, by rw [h1]; rfl, fun h3 => (List.mem_cons.1 h3).elim (fun h => e h.symm) h2⟩
theorem splitK_eq (c : UInt8) : ∀ (k : Nat) (l : List UInt8), l.count c = k → Lib.splitK [c] 0 k l = splitL c l
  | 0, l, h => by
    rw [Lib.splitK, splitL_none c l (List.count_eq_zero.1 h)]
  | k + 1, l, h => by
    obtain ⟨pre, post, rfl, hn⟩ := first_at c l (List.count_pos_iff.1 (by omega))
    rw [Lib.splitK, Lib.index_one, indexByte_append c post pre hn]
    have h2 : ((pre.length : Int) == -1) = false := beq_eq_false_iff_ne.2 (by omega)
    rw [h2, if_neg (by decide)]
    have hc : post.count c = k := by
      rw [List.count_append, List.count_cons_self, List.count_eq_zero.2 hn] at h
      omega
    rw [Int.toNat_natCast, Nat.add_zero, List.take_left, splitL_append c post pre hn, List.length_singleton]
    have hd : (pre ++ c :: post).drop (pre.length + 1) = post := by
      rw [List.drop_append]
      simp
    rw [hd, splitK_eq c k post hc]
theorem split_eq (c : UInt8) (l : List UInt8) : Lib.split l [c] = splitL c l := by
  unfold Lib.split
  rw [Lib.count_one]
  exact splitK_eq c _ l rfl
end Go.Proofs.YtoeeipkiadbnpaaGreatDoor.Lib10
end
