/- consistorylaw12.TapeJumps, walked: it answers true for every seed, all counts of draws. -/
import Derived.Test.YtcabcblopfpbfaaTapeAhead
namespace Go.Proofs.Ytcabcblopfpbfaa
open Go.RowKit

theorem acc_all (s : Int) : accB 0 s = true := by
  rw [acc_iff]
  have := mixI_U64 s
  unfold U64 at this
  simp [overI]
  omega
theorem drawS_all (s : Int) (hs : U64 s) : drawS 0 s = nextS s := draw_yes 0 s hs (acc_all _)
theorem run_state : ∀ (n : Nat) (s d : Int), U64 s → TS.run 0 n ⟨[], s, d⟩ = ⟨[], (s + n * 11400714819323198485) % 18446744073709551616, d + n⟩
  | 0, s, d, h => by
    obtain ⟨h0, h1⟩ := h
    simp [TS.run, Int.emod_eq_of_lt h0 h1]
  | n + 1, s, d, h => by
    show TS.run 0 n (TS.next 0 ⟨[], s, d⟩) = _
    rw [TS.own_next, drawS_all s h, run_state n _ _ (nextS_U64 s)]
    have e : nextS s = (s + 11400714819323198485) % 18446744073709551616 := wrap64u _
    rw [e]
    congr 1
    · show Cg _ _ _
      refine ((Cg.mod _ _).add (Cg.refl _ _)).trans (Cg.of_eq ?_)
      rw [Int.natCast_add, Int.add_mul]
      omega
    · rw [Int.natCast_add]
      omega

theorem modU (a k : Int) (hk : 0 < k) (hk2 : k ≤ 1000000) : ∃ n : Nat, (n : Int) < k ∧ wrap64 ((IntKind.u64.wrap a).tmod k) = (n : Int) := by
  have h0 := emod_bd a 18446744073709551616 (by decide)
  rw [wrap64u, Int.tmod_eq_emod_of_nonneg h0.1]
  have h1 := emod_bd (a % 18446744073709551616) k hk
  refine ⟨((a % 18446744073709551616) % k).toNat, by omega, ?_⟩
  rw [IntWalk.wrap64_in _ (by omega)]
  omega
theorem seedAt (s n X : Int) (hX : X = (s + n * 11400714819323198485 % 18446744073709551616) % 18446744073709551616) : X = (s + n * 11400714819323198485) % 18446744073709551616 := by
  rw [hX]
  exact (Cg.refl _ _).add (Cg.mod _ _)

set_option maxHeartbeats 1000000 in
theorem jumps_law (s a b : Int) (w : World) (hs : U64 s) (ha : -9223372036854775808 ≤ a ∧ a ≤ 9223372036854775807) (hb : -9223372036854775808 ≤ b ∧ b ≤ 9223372036854775807) :
    Calls Try.prog 4 #[.int .u64 s, .int .i64 a, .int .i64 b] w fun e w' => e = .returned (.bool true) ∧ w.grownBy w' none := by
  have HW := Lib.hid (works_any w)
  have HS := Lib.hid hs
  obtain ⟨s0, s1⟩ := hs
  obtain ⟨a0, a1⟩ := ha
  obtain ⟨b0, b1⟩ := hb
  go_enter Try.func4, Try.ntmps4
  go_wp2_with fail
  refine HW.out.mono ?_
  rintro e w1 ⟨rfl, hg⟩
  have HG := Lib.hid hg
  clear hg
  go_upto_region 5 with fail
  obtain ⟨n, hn, en⟩ := modU a 1000 (by decide) (by decide)
  obtain ⟨m, hm, em⟩ := modU b 100 (by decide) (by decide)
  rw [en, em]
  clear en em a0 a1 b0 b1
  go_wp2_with fail
  refine (new_made s w1).mono ?_
  rintro e w2 ⟨b1, ga1, rfl, ht, hb, hga, hgl, hg⟩
  have HT : Hid (TapeIs w2 b1 ga1 ⟨[], s, 0⟩) := Lib.hid ht
  have HG2 := Lib.hid (grown_up HG.out hg (by simp))
  have HB : Hid (w.heap.size ≤ b1 ∧ w.heap.size ≤ ga1 ∧ b1 < w2.heap.size ∧ ga1 < w2.heap.size) := Lib.hid ⟨Nat.le_trans HG.out.size hb, Nat.le_trans HG.out.size hga, ht.lt, hgl⟩
  clear ht hb hga hgl hg
  go_wp2_with fail
  have ex : IntKind.u64.wrap (s + IntKind.u64.wrap ((n : Int) * 11400714819323198485)) = (s + n * 11400714819323198485) % 18446744073709551616 := seedAt s n _ (by rw [wrap64u, wrap64u])
  rw [ex]
  clear ex
  have hrun := run_state n s 0 HS.out
  have hU := emod_bd (s + n * 11400714819323198485) 18446744073709551616 (by decide)
  generalize (s + n * 11400714819323198485) % 18446744073709551616 = S at *
  have HU : Hid (U64 S) := Lib.hid hU
  have HRUN := Lib.hid hrun
  clear hU hrun
  refine (new_made S w2).mono ?_
  rintro e w3 ⟨b2, ga2, rfl, ht, hb, hga, hgl, hg⟩
  have HT2 : Hid (TapeIs w3 b2 ga2 ⟨[], S, 0⟩) := Lib.hid ht
  have HT3 := Lib.hid (HT.out.kept hg)
  have HG3 := Lib.hid (grown_up HG2.out hg (by simp))
  have HB2 : Hid (b1 < b2 ∧ ga1 < b2 ∧ b1 < ga2 ∧ ga2 < w3.heap.size ∧ ga1 < w3.heap.size ∧ w.heap.size ≤ b2) := Lib.hid (by have := HB.out; have := hg.size; have := HG2.out.size; omega)
  clear ht hb hga hgl hg
  have hnN : n ≤ 1024 := by omega
  have hmN : m ≤ 1024 := by omega
  go_wp2_with fail
  refine (draws_any b1 ga1 0 n ⟨[], s, 0⟩ w3 HT3.out (TS.ok_start (by simp) HS.out) (u64k 0) hnN (by show (0 : Int) + n < _; omega) HB2.out.2.2.2.2.1).mono ?_
  rintro e w4 ⟨g, rfl, hk, hgb, ht, hg⟩
  rw [HRUN.out] at ht
  have HT4 := Lib.hid ht
  have HU4 := Lib.hid (HT2.out.grown hg (by have := HB2.out; simp; omega) (by have := HB2.out; simp; omega))
  have HG4 := Lib.hid (grown_tape HG3.out hg HB.out.1)
  have HS4 := Lib.hid hg.size
  clear hk hgb ht hg
  go_wp2_with fail
  refine (draws_any b1 ga1 0 m ⟨[], S, 0 + n⟩ w4 HT4.out ⟨by simp, HU.out, by show (0 : Int) ≤ 0 + n; omega, by show (0 : Int) + n < _; omega⟩ (u64k 0) hmN (by show (0 : Int) + n + m < _; omega) (by have := HB2.out; have := HS4.out; omega)).mono ?_
  rintro e w5 ⟨g1, rfl, hk, hgb, ht, hg⟩
  rw [TS.vals_d 0 m S (0 + n) 0] at hk
  have HK := Lib.hid hk
  have HT5 : Hid (TapeIs w5 b1 ga1 (TS.run 0 m ⟨[], S, 0 + n⟩)) := Lib.hid ht
  have HU5 := Lib.hid (HU4.out.grown hg (by have := HB2.out; simp; omega) (by have := HB2.out; simp; omega))
  have HG5 := Lib.hid (grown_tape HG4.out hg HB.out.1)
  have HS5 : Hid (w3.heap.size ≤ w5.heap.size ∧ w4.heap.size ≤ g1 ∧ g1 < w5.heap.size ∧ b2 < w4.heap.size) := Lib.hid ⟨Nat.le_trans HS4.out hg.size, hgb, hk.lt, HU4.out.lt⟩
  clear hk hgb ht hg
  go_wp2_with fail
  refine (draws_any b2 ga2 0 m ⟨[], S, 0⟩ w5 HU5.out (TS.ok_start (by simp) HU.out) (u64k 0) hmN (by show (0 : Int) + m < _; omega) (by have := HB2.out; have := HS5.out; omega)).mono ?_
  rintro e w6 ⟨g2, rfl, hk, hgb, ht, hg⟩
  have HK2 := Lib.hid hk
  have HK1 := Lib.hid (HK.out.grown hg (by have := HS5.out; simp; omega))
  have HU6 : Hid (TapeIs w6 b2 ga2 (TS.run 0 m ⟨[], S, 0⟩)) := Lib.hid ht
  have HG6 := Lib.hid (grown_tape HG5.out hg HB2.out.2.2.2.2.2)
  have HT6 := Lib.hid (HT5.out.grown hg (by have := HB2.out; simp; omega) (by have := HB2.out; simp; omega))
  clear hk hgb ht hg
  have hlen := TS.vals_length 0 m ⟨[], S, 0⟩
  have HN := nums_any (some ⟨g1, 0, none⟩) (some ⟨g2, 0, none⟩) m m (TS.vals 0 m ⟨[], S, 0⟩) (TS.vals 0 m ⟨[], S, 0⟩) w6 HK1.out.rd HK2.out.rd (by rw [hlen]; omega) (by rw [hlen]; omega)
  rw [hlen, decide_eq_true rfl] at HN
  have HNN := Lib.hid HN
  clear HN hlen
  go_wp2_with fail
  refine HNN.out.mono ?_
  rintro e w7 ⟨rfl, k, rfl⟩
  have HA := at_tape b1 ga1 _ (w6.drewN k) (HT6.out.kept (grownBy_drewN (World.grownBy.refl w6 none) k))
  rw [run_state m S (0 + n) HU.out] at HA
  have HAA := Lib.hid HA
  have HC := at_tape b2 ga2 _ (w6.drewN k) (HU6.out.kept (grownBy_drewN (World.grownBy.refl w6 none) k))
  rw [run_state m S 0 HU.out] at HC
  have HCC := Lib.hid HC
  clear HA HC
  go_wp2_with fail
  refine HAA.out.mono ?_
  rintro e w8 ⟨rfl, hw⟩
  rw [hw, Int.zero_add]
  clear hw
  go_wp2_with fail
  refine HCC.out.mono ?_
  rintro e w9 ⟨rfl, hw⟩
  rw [hw, Int.zero_add]
  clear hw
  go_wp2
  go_ret
  exact ⟨rfl, grownBy_drewN HG6.out k⟩
end Go.Proofs.Ytcabcblopfpbfaa
