/- tape's own numbers, walked. -/
import Derived.Test.YtcabcblopfpbfaaModC0
import Derived.Test.YtcabcblopfpbfaaTapeM
namespace Go.Proofs.Ytcabcblopfpbfaa
open Go.RowKit
set_option maxHeartbeats 400000 in
theorem number_any (b : Nat) (s : Int) (w : World) (hs : U64 s) (hc : w.cell? ⟨b, 0, none⟩ = some (.int .u64 s)) (hf : w.frozen? ⟨b, 0, none⟩ = false) :
    Calls Try.prog 25 #[.pointer (some ⟨b, 0, none⟩)] w fun e w' => e = .returned (.int .u64 (mixI (nextS s))) ∧ ∃ n, w' = (w.setCell ⟨b, 0, none⟩ (.int .u64 (nextS s))).drewN n := by
  obtain ⟨s0, s1⟩ := hs
  go_enter Try.func25, Try.ntmps25
  go_wp2_with fail
  go_ret
  exact ⟨rfl, 0, rfl⟩

theorem below_any (x q : Int) (w : World) (hx : U64 x) (hq : U64 q) :
    Calls Try.prog 24 #[.int .u64 x, .int .u64 q] w fun e w' => e = .returned (.int .u64 (belowI x q)) ∧ ∃ n, w' = w.drewN n := by
  obtain ⟨x0, x1⟩ := hx
  obtain ⟨q0, q1⟩ := hq
  by_cases h : q = 0
  · subst h
    have hr : belowI x 0 = x := by simp [belowI]
    rw [hr]
    clear hr
    go_enter Try.func24, Try.ntmps24
    go_wp2
    go_ret
    exact ⟨rfl, 0, rfl⟩
  · have hr : belowI x q = x % q := by simp [belowI, h]
    have h' : (q == 0) = false := by simpa using h
    have hp : 0 < q := by omega
    rw [hr]
    clear hr h
    go_enter Try.func24, Try.ntmps24
    go_wp2
    go_ret
    exact ⟨rfl, 0, rfl⟩
theorem rem_over (q : Int) (h : 0 < q) : rem128 (1 % q) 0 q = 18446744073709551616 % q := by
  unfold rem128
  rw [Int.add_zero]
  exact ((Cg.mod q 1).mul_right _).trans (Cg.of_eq (Int.one_mul _))
set_option maxHeartbeats 400000 in
theorem over_any (q : Int) (w : World) (hq : U64 q) :
    Calls Try.prog 26 #[.int .u64 q] w fun e w' => e = .returned (.int .u64 (overI q)) ∧ ∃ n, w' = w.drewN n := by
  obtain ⟨q0, q1⟩ := hq
  by_cases h : q = 0
  · subst h
    have hr : overI 0 = 0 := by simp [overI]
    rw [hr]
    clear hr
    go_enter Try.func26, Try.ntmps26
    go_wp2
    go_ret
    exact ⟨rfl, 0, rfl⟩
  · have h' : (q == 0) = false := by simpa using h
    have hp : 0 < q := by omega
    have hr : overI q = rem128 (1 % q) 0 q := by rw [rem_over q hp]; simp [overI, h]
    rw [hr]
    obtain ⟨e0, e1⟩ := emod_bd 1 q hp
    clear hr h
    go_enter Try.func26, Try.ntmps26
    go_wp2_with fail
    refine (div64_int _ _ _ _ e0 (by decide) (by decide) q1 e1).mono ?_
    rintro e w' ⟨rfl, n, rfl⟩
    go_wp2
    go_ret
    exact ⟨rfl, _, rfl⟩
end Go.Proofs.Ytcabcblopfpbfaa
