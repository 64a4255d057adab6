/- Texts that the proof of TriadsTours needs, put together in build order by this session's program (wip/tools/claimtrim.py). -/
import Derived.Test.YtpaeobpmkdekfaaDoorTriadsToursM6
import Derived.Test.YtpaeobpmkdekfaaDoorTriadsToursM3
import Derived.Lib.BitFns
import Derived.Laws.BitsLemmas
section
namespace Go.Proofs.YtpaeobpmkdekfaaDoor.P
open Go.RowKit Go.Proofs.YtpaeobpmkdekfaaDoorW.PrintWords Go.Proofs.YtpaeobpmkdekfaaDoorW.PrintLast Go.Proofs.YtpaeobpmkdekfaaDoorW.PrintMore
set_option linter.unusedVariables false
/-- The set bits of four bytes. -/
def pop32 (x : Nat) : Nat := Lib.onesCount (x / 16777216) + Lib.onesCount (x / 65536 % 256) + Lib.onesCount (x / 256 % 256) + Lib.onesCount (x % 256)
def bits_OnesCount32.f (a0 : Int) : Option (Int) := if 0 ≤ a0 ∧ a0 < 4294967296 then some ((pop32 a0.toNat : Nat) : Int) else none
theorem and255 (x : Nat) (hx : x < 4294967296) : Go.bits .and .u32 (x : Int) 255 = ((x % 256 : Nat) : Int) := by
  have h := (bits_nat .u32 32 (by decide) (fun n h0 h1 => by show n % 4294967296 = n; omega) x 255 (by omega) (by decide)).1
  rw [show ((255 : Nat) : Int) = 255 from rfl] at h
  rw [h]
  congr 1
  exact Nat.and_two_pow_sub_one_eq_mod x 8
theorem pop8_nat (x : Nat) (hx : x < 256) : Lib.pop8 (x : Int) = ((Lib.onesCount x : Nat) : Int) ∧ Lib.onesCount x ≤ 8 := ⟨Lib.pop8_eq ⟨x, hx⟩, Lib.onesCount_le8 ⟨x, hx⟩⟩
set_option maxHeartbeats 4000000 in
set_option maxRecDepth 100000 in
theorem bits_OnesCount32.calls (a0 : Int) (r : Int) (w : World) (h : bits_OnesCount32.f a0 = some r) :
    Calls Tryd.prog 81 #[.int .u32 a0] w fun e w' => e = .returned (.int .i64 r) ∧ Drawn0 w w' := by
  unfold bits_OnesCount32.f at h
  by_cases hc : 0 ≤ a0 ∧ a0 < 4294967296
  case neg => rw [if_neg hc] at h; cases h
  rw [if_pos hc] at h
  have hr := Option.some.inj h
  obtain ⟨x, rfl⟩ := Int.eq_ofNat_of_zero_le hc.1
  rw [Int.toNat_natCast] at hr
  have hx : x < 4294967296 := by omega
  have d1 : (x : Int) / 16777216 = ((x / 16777216 : Nat) : Int) := by omega
  have d2 : (x : Int) / 65536 = ((x / 65536 : Nat) : Int) := by omega
  have d3 : (x : Int) / 256 = ((x / 256 : Nat) : Int) := by omega
  have a2 := and255 (x / 65536) (by omega)
  have a3 := and255 (x / 256) (by omega)
  have a4 := and255 x hx
  rw [← d2] at a2
  rw [← d3] at a3
  have p1 := pop8_nat (x / 16777216) (by omega)
  have p2 := pop8_nat (x / 65536 % 256) (by omega)
  have p3 := pop8_nat (x / 256 % 256) (by omega)
  have p4 := pop8_nat (x % 256) (by omega)
  rw [← d1] at p1
  rw [← a2] at p2
  rw [← a3] at p3
  rw [← a4] at p4
  have e1 : 0 ≤ (x : Int) / 16777216 := by omega
  have e2 : (x : Int) / 16777216 ≤ 255 := by omega
  have e3 : 0 ≤ (Go.bits .and .u32 ((x : Int) / 65536) 255) := by omega
  have e4 : (Go.bits .and .u32 ((x : Int) / 65536) 255) ≤ 255 := by omega
  have e5 : 0 ≤ (Go.bits .and .u32 ((x : Int) / 256) 255) := by omega
  have e6 : (Go.bits .and .u32 ((x : Int) / 256) 255) ≤ 255 := by omega
  have e7 : 0 ≤ (Go.bits .and .u32 ((x : Int)) 255) := by omega
  have e8 : (Go.bits .and .u32 ((x : Int)) 255) ≤ 255 := by omega
  have HFin := Aside0.mk (show IntKind.i64.wrap (IntKind.u8.wrap (IntKind.u8.wrap (IntKind.u8.wrap (Lib.pop8 ((x : Int) / 16777216) + Lib.pop8 (Go.bits .and .u32 ((x : Int) / 65536) 255)) + Lib.pop8 (Go.bits .and .u32 ((x : Int) / 256) 255)) + Lib.pop8 (Go.bits .and .u32 (x : Int) 255))) = r by
    rw [p1.1, p2.1, p3.1, p4.1, ← hr]
    have q1 := p1.2
    have q2 := p2.2
    have q3 := p3.2
    have q4 := p4.2
    unfold pop32
    generalize Lib.onesCount (x / 16777216) = b1 at *
    generalize Lib.onesCount (x / 65536 % 256) = b2 at *
    generalize Lib.onesCount (x / 256 % 256) = b3 at *
    generalize Lib.onesCount (x % 256) = b4 at *
    have u8 : ∀ n : Int, 0 ≤ n → n < 256 → IntKind.u8.wrap n = n := fun n h0 h1 => by show n % 256 = n; omega
    rw [u8 (b1 + b2 : Int) (by omega) (by omega), u8 (b1 + b2 + b3 : Int) (by omega) (by omega), u8 _ (by omega) (by omega), IntKind.wrap_i64]
    omega)
  clear d1 d2 d3 a2 a3 a4 p1 p2 p3 p4 hr h
  go_enter Tryd.func81, Tryd.ntmps81
  go_wp2
  refine wp_region_quiet_lit (by kernel_rfl) (by kernel_rfl) ?_
  iterate 19 (refine wpQuiet_step (fun K hK => ?_); go_simp; refine hK _ ?_; clear hK K)
  refine wpQuiet_nil ?_
  intro _ hw'
  obtain ⟨nq, hw''⟩ := hw'
  subst hw''
  go_wp2
  go_ret
  refine ⟨?_, ⟨nq, rfl⟩⟩
  rw [← HFin.out]
  rfl
end Go.Proofs.YtpaeobpmkdekfaaDoor.P
end
