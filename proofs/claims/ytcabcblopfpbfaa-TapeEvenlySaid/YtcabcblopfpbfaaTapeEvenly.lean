/- consistorylaw12.TapeEvenly, walked: it answers true for every seed, bound, times, power. -/
import Derived.Test.YtcabcblopfpbfaaTapeJumps
import Derived.Deep.RegionHeld3
namespace Go.Proofs.Ytcabcblopfpbfaa
open Go.RowKit

theorem over_gen (N q M x : Int) (hq : 0 < q) (hd : q ∣ M) (hM : M ≤ N) (hx : x < M) : N % q ≤ N - 1 - x := by
  obtain ⟨k, rfl⟩ := hd
  have h1 : k ≤ N / q := Int.le_ediv_of_mul_le hq (by rw [Int.mul_comm]; exact hM)
  have h2 := Int.mul_le_mul_of_nonneg_left h1 (Int.le_of_lt hq)
  have h3 := Int.mul_ediv_add_emod N q
  omega
theorem acc_of (q M s : Int) (hq : 0 < q) (hd : q ∣ M) (hM : M ≤ 18446744073709551616) (hx : mixI s < M) : accB q s = true := by
  rw [acc_iff]
  have h := over_gen 18446744073709551616 q M (mixI s) hq hd hM hx
  unfold overI
  rw [if_neg (by omega)]
  generalize mixI s = x at *
  simpa using h
theorem draw_of (q M s : Int) (hs : U64 s) (hq : 0 < q) (hd : q ∣ M) (hM : M ≤ 18446744073709551616) (hx : mixI (nextS s) < M) : TS.val q ⟨[], s, 0⟩ = mixI (nextS s) % q := by
  rw [TS.own_val]
  unfold drawX
  rw [draw_yes q s hs (acc_of q M _ hq hd hM hx)]
  unfold belowI
  rw [if_neg (by omega)]

theorem draw_0 (s : Int) (hs : U64 s) : TS.val 0 ⟨[], s, 0⟩ = mixI (nextS s) := by
  rw [TS.own_val]
  unfold drawX
  rw [drawS_all s hs]
  generalize mixI (nextS s) = x
  simp [belowI]

theorem modW (a k : Int) (hk : 0 < k) (hk2 : k ≤ 1000000) : ∃ n : Nat, (n : Int) < k ∧ wrap64 ((IntKind.u64.wrap a).tmod k) = (n : Int) := modU a k hk hk2

/-- A tape of its own numbers lies at b in wx, and nothing that w knows has changed. -/
def Own (w wx : World) (b : Nat) (s : Int) : Prop := ∃ ga, w.heap.size ≤ b ∧ TapeIs wx b ga ⟨[], s, 0⟩ ∧ w.grownBy wx none
def OwnMade (w : World) (s : Int) (e : Ending) (w' : World) : Prop := ∃ b, e = .returned (.pointer (some ⟨b, 0, none⟩)) ∧ Hid (w.grownBy w' none) ∧ Hid (Own w w' b s)
theorem own_made (s : Int) (w wx : World) (h : Hid (w.grownBy wx none)) : Calls Try.prog 14 #[.int .u64 s] wx (OwnMade w s) := by
  refine (new_made s wx).mono ?_
  rintro e w' ⟨b, ga, rfl, ht, hb, hga, hgl, hg⟩
  have hG := grown_up h.out hg (by simp)
  exact ⟨b, rfl, Lib.hid hG, Lib.hid ⟨ga, Nat.le_trans h.out.size hb, ht, hG⟩⟩
theorem own_drawn (s q v : Int) (b : Nat) (w wx : World) (hs : Hid (U64 s)) (hq : Hid (U64 q)) (hv : Hid (TS.val q ⟨[], s, 0⟩ = v)) (h : Hid (Own w wx b s)) :
    Calls Try.prog 12 #[.pointer (some ⟨b, 0, none⟩), .int .u64 q] wx fun e w' => e = .returned (.int .u64 v) ∧ Hid (w.grownBy w' none) := by
  obtain ⟨ga, hb, ht, hg⟩ := h.out
  refine (next_any b ga q ⟨[], s, 0⟩ wx ht (TS.ok_start (by simp) hs.out) hq.out).mono ?_
  rintro e w' ⟨rfl, _, hg'⟩
  exact ⟨by rw [hv.out], Lib.hid (grown_tape hg hg' hb)⟩

theorem hid_drew {w w' : World} (h : Hid (w.grownBy w' none)) : Hid (w.grownBy w'.drew none) := Lib.hid ⟨h.out.os, h.out.tape, h.out.output, h.out.size, h.out.block⟩
theorem two_pow_lt (k : Nat) (h : k < 64) : (2 : Int) ^ k < 18446744073709551616 ∧ 0 < (2 : Int) ^ k := by
  have h1 : 2 ^ k < 2 ^ 64 := Nat.pow_lt_pow_right (by decide) h
  have h2 := Nat.two_pow_pos k
  have e : ((2 ^ k : Nat) : Int) = (2 : Int) ^ k := by simp
  omega
theorem bits_and_nat (a b : Nat) (ha : a < 2 ^ 64) (hb : b < 2 ^ 64) : bits BinOp.and IntKind.u64 (a : Int) (b : Int) = ((a &&& b : Nat) : Int) := by
  have h1 : (BitVec.ofInt 64 (a : Int)).toNat = a := by rw [BitVec.ofInt_natCast, BitVec.toNat_ofNat]; exact Nat.mod_eq_of_lt ha
  have h2 : (BitVec.ofInt 64 (b : Int)).toNat = b := by rw [BitVec.ofInt_natCast, BitVec.toNat_ofNat]; exact Nat.mod_eq_of_lt hb
  show IntKind.u64.wrap ((BitVec.ofInt 64 (a : Int) &&& BitVec.ofInt 64 (b : Int)).toNat : Int) = _
  rw [BitVec.toNat_and, h1, h2, IntKind.wrap_u64]
  have := Nat.and_le_left (n := a) (m := b)
  omega
theorem low_bits (x : Int) (k : Nat) (hx : U64 x) (hk : k < 64) : bits BinOp.and IntKind.u64 x (IntKind.u64.wrap (IntKind.u64.wrap (2 ^ k) - 1)) = x % 2 ^ k := by
  obtain ⟨h1, h2⟩ := two_pow_lt k hk
  have e1 : IntKind.u64.wrap (2 ^ k) = 2 ^ k := by rw [wrap64u]; exact Int.emod_eq_of_lt (by omega) h1
  have e2 : IntKind.u64.wrap (2 ^ k - 1) = 2 ^ k - 1 := by rw [wrap64u]; exact Int.emod_eq_of_lt (by omega) (by omega)
  rw [e1, e2]
  obtain ⟨x0, x1⟩ := hx
  obtain ⟨n, rfl⟩ := Int.eq_ofNat_of_zero_le x0
  have e3 : (2 : Int) ^ k - 1 = ((2 ^ k - 1 : Nat) : Int) := by
    have := Nat.two_pow_pos k
    have e : ((2 ^ k : Nat) : Int) = (2 : Int) ^ k := by simp
    omega
  have h3 : 2 ^ k ≤ 2 ^ 64 := Nat.pow_le_pow_right (by decide) (by omega)
  rw [e3, bits_and_nat n (2 ^ k - 1) (by omega) (by omega), Nat.and_two_pow_sub_one_eq_mod]
  simp
theorem pow_dvd (k : Nat) (hk : k < 64) : (2 : Int) ^ k ∣ 18446744073709551616 := by
  have : (18446744073709551616 : Int) = 2 ^ 64 := by decide
  rw [this]
  exact ⟨2 ^ (64 - k), by rw [← Int.pow_add]; congr 1; omega⟩
theorem draw_low (s x : Int) (k : Nat) (hs : U64 s) (hx : mixI (nextS s) = x) (hk : k < 64) : TS.val (IntKind.u64.wrap (2 ^ k)) ⟨[], s, 0⟩ = bits BinOp.and IntKind.u64 x (IntKind.u64.wrap (IntKind.u64.wrap (2 ^ k) - 1)) := by
  obtain ⟨h1, h2⟩ := two_pow_lt k hk
  have hU := mixI_U64 (nextS s)
  have e1 : IntKind.u64.wrap (2 ^ k) = 2 ^ k := by rw [wrap64u]; exact Int.emod_eq_of_lt (by omega) h1
  rw [low_bits x k (hx ▸ hU) hk, e1, ← hx]
  exact draw_of _ 18446744073709551616 s hs h2 (pow_dvd k hk) (Int.le_refl _) hU.2

theorem quo_fit (M T q : Int) (hT : 0 < T) (h : q ≤ M / T) : q * T ≤ M := by
  have h1 := Int.mul_le_mul_of_nonneg_right h (Int.le_of_lt hT)
  have h2 := Int.ediv_mul_le M (b := T) (by omega)
  omega
theorem quo_times (M Q : Int) (hM : 0 ≤ M) (hQ : 0 < Q) : 0 ≤ M / Q * Q ∧ M / Q * Q ≤ M := ⟨Int.mul_nonneg (Int.ediv_nonneg hM (by omega)) (by omega), Int.ediv_mul_le M (by omega)⟩
theorem wrap_fit (x : Int) (h0 : 0 ≤ x) (h1 : x ≤ 18446744073709551615) : IntKind.u64.wrap x = x := by rw [wrap64u]; exact Int.emod_eq_of_lt h0 (by omega)

set_option maxHeartbeats 400000 in
theorem evenly_law (s q t a : Int) (w : World) (hs : U64 s) (hq : U64 q) (ht : U64 t) (ha : -9223372036854775808 ≤ a ∧ a ≤ 9223372036854775807) :
    Calls Try.prog 6 #[.int .u64 s, .int .u64 q, .int .u64 t, .int .i64 a] w fun e w' => e = .returned (.bool true) ∧ w.grownBy w' none := by
  have HW := Lib.hid (works_any w)
  have HS := Lib.hid hs
  have HQ := Lib.hid hq
  have HT := Lib.hid ht
  have hx := mixI_U64 (nextS s)
  have HV0 := Lib.hid (draw_0 s hs)
  obtain ⟨s0, s1⟩ := hs
  obtain ⟨q0, q1⟩ := hq
  obtain ⟨t0, t1⟩ := ht
  obtain ⟨a0, a1⟩ := ha
  generalize hxe : mixI (nextS s) = x at *
  have HX := Lib.hid hx
  have HE := Lib.hid hxe
  obtain ⟨x0, x1⟩ := hx
  clear hxe
  go_enter Try.func6, Try.ntmps6
  go_wp2_with fail
  refine HW.out.mono ?_
  rintro e w1 ⟨rfl, hg⟩
  have HG := Lib.hid hg
  clear hg
  go_upto_region 4 with fail
  obtain ⟨k, hk, ek⟩ := modU a 64 (by decide) (by decide)
  rw [ek]
  clear ek a0 a1
  go_wp2_with fail
  refine (own_made s w w1 HG).mono ?_
  rintro e w2 ⟨b1, rfl, HG2, HO2⟩
  go_wp2_with fail
  refine (own_drawn s 0 x b1 w w2 HS (Lib.hid (u64k 0)) HV0 HO2).mono ?_
  rintro e w3 ⟨rfl, HG3⟩
  clear HG HG2 HO2
  go_wp2_with fail
  have hk0 : (0 : Int) ≤ k := by omega
  have HVL := Lib.hid (draw_low s x k HS.out HE.out (by omega))
  have HQL : Hid (U64 (IntKind.u64.wrap (2 ^ k))) := Lib.hid (by rw [wrap64u]; exact emod_bd _ _ (by decide))
  go_region_held3 (fun _ => True) (trivial) (first
    | (go_at_call 14; refine (own_made s w _ (by first | assumption | exact hid_drew (by assumption))).mono ?_; rintro e w' ⟨b, rfl, HGa, HOa⟩)
    | (go_at_call 12; refine (own_drawn s _ _ b w _ HS HQL HVL (by assumption)).mono ?_; rintro e w' ⟨rfl, HGb⟩))
  clear HVL HQL HOa HGa HG3
  obtain ⟨T, hT0, hT1, eT⟩ : ∃ T : Int, 1 ≤ T ∧ T ≤ 1000 ∧ T = 1 + t % 1000 := ⟨1 + t % 1000, by have := emod_bd t 1000 (by decide); omega, by have := emod_bd t 1000 (by decide); omega, rfl⟩
  go_upto_region 7 with fail
  go_upto_region 8 with fail
  rw [← eT]
  clear eT
  by_cases hqz : q = 0
  · have hq' : (q == 0) = true := by simpa using hqz
    clear hqz
    go_wp2
    go_ret
    exact ⟨rfl, HGb.out⟩
  · have hq' : (q == 0) = false := by simpa using hqz
    have hqp : 0 < q := by omega
    by_cases hqT : 18446744073709551615 / T < q
    · have hq2 : decide (18446744073709551615 / T < q) = true := by simpa using hqT
      clear hqT
      go_wp2
      go_ret
      exact ⟨rfl, HGb.out⟩
    · have hq2 : decide (18446744073709551615 / T < q) = false := by simpa using hqT
      have hfit := quo_fit 18446744073709551615 T q (by omega) (by omega)
      have hge := Int.mul_pos hqp (show 0 < T by omega)
      have hwr := wrap_fit (q * T) (by omega) hfit
      obtain ⟨W0, W1⟩ := quo_times 18446744073709551615 (q * T) (by decide) hge
      have hww := wrap_fit _ W0 W1
      have HQT := Lib.hid (And.intro hfit (And.intro hge W1))
      clear hqT
      have HD : Hid (q ∣ q * T) := Lib.hid (Int.dvd_mul_right q T)
      go_upto_region 11 with fail
      generalize q * T = Q at *
      have HWM : Hid (Q ∣ 18446744073709551615 / Q * Q) := Lib.hid ⟨18446744073709551615 / Q, Int.mul_comm _ _⟩
      by_cases hxW : 18446744073709551615 / Q * Q ≤ x
      · have hx2 : decide (18446744073709551615 / Q * Q ≤ x) = true := by simpa using hxW
        clear hxW
        go_wp2
        go_ret
        exact ⟨rfl, HGb.out⟩
      · have hx2 : decide (18446744073709551615 / Q * Q ≤ x) = false := by simpa using hxW
        have eQ : x.tmod Q = x % Q := Int.tmod_eq_emod_of_nonneg x0
        have eq : x.tmod q = x % q := Int.tmod_eq_emod_of_nonneg x0
        have HVQ : Hid (TS.val Q ⟨[], s, 0⟩ = x.tmod Q) := Lib.hid (by
          have h := draw_of Q _ s HS.out (by omega) HWM.out (by omega) (by rw [HE.out]; omega)
          rw [h, HE.out, eQ])
        have HVq : Hid (TS.val q ⟨[], s, 0⟩ = x.tmod q) := Lib.hid (by
          have h := draw_of q _ s HS.out hqp (Int.dvd_trans HD.out HWM.out) (by omega) (by rw [HE.out]; omega)
          rw [h, HE.out, eq])
        have HUQ : Hid (U64 Q) := Lib.hid ⟨by omega, by omega⟩
        have hme : ((x.tmod Q).tmod q == x.tmod q) = true := by
          rw [eQ, Int.tmod_eq_emod_of_nonneg (Int.emod_nonneg x (by omega)), eq, Int.emod_emod_of_dvd x HD.out]
          simp
        have hQz : (Q == 0) = false := by simp; omega
        clear hxW eQ eq
        go_wp2_with fail
        obtain ⟨Q0, Q1⟩ := HUQ.out
        have hQn : ¬ Q = 0 := by omega
        clear hwr hww W0 W1 hfit hq2 hx2 hT0 hT1
        go_region_held3 (fun _ => True) (trivial) (first
          | (go_at_call 14; refine (own_made s w _ (by first | assumption | exact hid_drew (by assumption))).mono ?_; rintro e w' ⟨b, rfl, HGa, HOa⟩)
          | (go_at_call 12; with_reducible refine (own_drawn s q _ _ w _ HS HQ HVq (by assumption)).mono ?_; rintro e w' ⟨rfl, HGb⟩)
          | (go_at_call 12; with_reducible refine (own_drawn s Q _ _ w _ HS HUQ HVQ (by assumption)).mono ?_; rintro e w' ⟨rfl, HGb⟩))
        go_wp2
        go_ret
        exact ⟨rfl, HGb.out⟩
end Go.Proofs.Ytcabcblopfpbfaa
