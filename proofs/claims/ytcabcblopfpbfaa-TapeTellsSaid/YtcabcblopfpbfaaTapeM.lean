/- The draws of a tape, as plain functions: the numbers of its state, which of them are taken, and that one always is. -/
import Derived.Test.YtcabcblopfpbfaaModC0
namespace Go.Proofs.Ytcabcblopfpbfaa
open Go.RowKit
def nextS (s : Int) : Int := IntKind.u64.wrap (s + 11400714819323198485)
def mixI (z : Int) : Int :=
  let a := IntKind.u64.wrap (bits .xor .u64 z (z / 1073741824) * 13787848793156543929)
  let b := IntKind.u64.wrap (bits .xor .u64 a (a / 134217728) * 10723151780598845931)
  bits .xor .u64 b (b / 2147483648)

def belowI (x q : Int) : Int := if q = 0 then x else x % q
theorem belowI_U64 (x q : Int) (hx : U64 x) (hq : U64 q) : U64 (belowI x q) := by
  unfold belowI U64 at *
  split
  · exact hx
  · have := emod_bd x q (by omega)
    omega

/-- How many numbers stand above the greatest multiple of q. -/
def overI (q : Int) : Int := if q = 0 then 0 else 18446744073709551616 % q

theorem wrap64u (a : Int) : IntKind.u64.wrap a = a % 18446744073709551616 := IntKind.wrap_u64 a
theorem nextS_U64 (s : Int) : U64 (nextS s) := by
  unfold nextS
  rw [wrap64u]
  exact emod_bd _ _ (by decide)
theorem bitsU64 (o : BinOp) (a b : Int) : U64 (bits o .u64 a b) := by
  have h : ∃ x, bits o .u64 a b = IntKind.u64.wrap x := by
    unfold bits
    exact ⟨_, rfl⟩
  obtain ⟨x, h⟩ := h
  rw [h, wrap64u]
  exact emod_bd _ _ (by decide)
theorem mixI_U64 (z : Int) : U64 (mixI z) := by
  unfold mixI
  exact bitsU64 _ _ _
theorem mix_zero : mixI 0 = 0 := by kernel_rfl

/-- Is the number of this state taken, of those below q? -/
def accB (q s : Int) : Bool := decide (overI q ≤ bits BinOp.xor IntKind.u64 IntKind.u64.max (mixI s))
theorem notU (x : Int) (hx : U64 x) : bits BinOp.xor IntKind.u64 IntKind.u64.max x = 18446744073709551615 - x := by
  obtain ⟨x0, x1⟩ := hx
  obtain ⟨n, rfl⟩ := Int.eq_ofNat_of_zero_le x0
  have h1 : (BitVec.ofInt 64 (n : Int)).toNat = n := by
    rw [BitVec.ofInt_natCast, BitVec.toNat_ofNat]; exact Nat.mod_eq_of_lt (by omega)
  have h2 : BitVec.ofInt 64 IntKind.u64.max = BitVec.allOnes 64 := by decide
  show IntKind.u64.wrap ((BitVec.ofInt 64 IntKind.u64.max ^^^ BitVec.ofInt 64 (n : Int)).toNat : Int) = _
  rw [h2, BitVec.allOnes_xor, BitVec.toNat_not, h1, IntKind.wrap_u64]
  omega
theorem acc_iff (q s : Int) : accB q s = decide (overI q ≤ 18446744073709551615 - mixI s) := by
  unfold accB
  rw [notU _ (mixI_U64 _)]
theorem overI_le (q : Int) (h : 0 ≤ q) (h1 : q < 18446744073709551616) : overI q ≤ 18446744073709551615 := by
  unfold overI
  split
  · decide
  · have := emod_bd 18446744073709551616 q (by omega)
    omega
theorem acc_zero (q : Int) (h : U64 q) : accB q 0 = true := by
  have := overI_le q h.1 h.2
  rw [acc_iff, mix_zero]
  simpa using this

theorem dvd_part (M a b c : Int) (h : M ∣ a) (e : a = b + M * c) : M ∣ b := by
  obtain ⟨k, hk⟩ := h
  exact ⟨k - c, by rw [Int.mul_sub]; omega⟩
theorem inv_gen (M s v st k : Int) (hv : v * st = 1 + M * k) (h0 : 0 < s) (h1 : s < M) : ((M - s) * v) % M ≠ 0 := by
  intro hz
  have d := Int.dvd_of_emod_eq_zero hz
  have d2 : M ∣ (M - s) * v * st := Int.dvd_trans d (Int.dvd_mul_right _ _)
  have e : (M - s) * v * st = (M - s) + M * ((M - s) * k) := by
    rw [Int.mul_assoc, hv, Int.mul_add, Int.mul_one, ← Int.mul_assoc, Int.mul_comm (M - s) M, Int.mul_assoc]
  have d3 := dvd_part _ _ _ _ d2 e
  have := Int.le_of_dvd (by omega) d3
  omega
theorem step_gen (M s n v st k a b : Int) (hM : 1 < M) (hv : v * st = 1 + M * k) (hn : n = (s + st) % M) (ha : a = ((M - s) * v) % M) (hb : b = ((M - n) * v) % M) : b = (a - 1) % M := by
  have e : Cg M b (a - 1) := by
    rw [hb, ha, hn]
    refine (Cg.mod _ _).trans ?_
    refine Cg.trans ((((Cg.refl M M).sub (Cg.mod M (s + st))).mul_right v)) ?_
    refine Cg.trans ?_ ((Cg.mod M ((M - s) * v)).symm.sub (Cg.refl M 1))
    refine Cg.of_dvd ⟨-k, ?_⟩
    have h1 : (M - (s + st)) * v = (M - s) * v - v * st := by
      rw [show M - (s + st) = (M - s) - st by omega, Int.sub_mul, Int.mul_comm st v]
    rw [h1, hv, Int.mul_neg]
    omega
  have hb0 : 0 ≤ b ∧ b < M := by rw [hb]; exact emod_bd _ _ (by omega)
  unfold Cg at e
  rwa [Int.emod_eq_of_lt hb0.1 hb0.2] at e
theorem zero_gen (M A B : Int) (hM : 1 < M) (hA : A = 0) (hB : B = (A - 1) % M) : M = B + 1 := by
  subst hA
  have : (0 - 1 : Int) % M = M - 1 := by
    rw [show (0 - 1 : Int) = (M - 1) + M * (-1) by omega, Int.add_mul_emod_self_left, Int.emod_eq_of_lt (by omega) (by omega)]
  omega
theorem toNat_succ (B : Int) (h : 0 ≤ B) (x : Int) (hx : x = B + 1) : x.toNat = B.toNat + 1 := by omega
theorem pred_gen (M A B : Int) (hA0 : 0 ≤ A) (hA1 : A < M) (hA : A ≠ 0) (hB : B = (A - 1) % M) : A = B + 1 := by
  rw [hB, Int.emod_eq_of_lt (by omega) (by omega)]
  omega
/-- How many steps it is from a state to 0, over whatever modulus M, where v is the step's inverse. -/
def kkG (M v s : Int) : Nat := if s = 0 then M.toNat else (((M - s) * v) % M).toNat
theorem kkG_step (M v st k s n : Int) (hM : 1 < M) (hv : v * st = 1 + M * k) (s0 : 0 ≤ s) (s1 : s < M) (hn : n = (s + st) % M) (h : n ≠ 0) : kkG M v s = kkG M v n + 1 := by
  have key := step_gen M s n v st k _ _ hM hv hn rfl rfl
  have b1 := emod_bd ((M - n) * v) M (by omega)
  unfold kkG
  rw [if_neg h]
  by_cases hz : s = 0
  · subst hz
    rw [if_pos rfl]
    exact toNat_succ _ b1.1 _ (zero_gen M _ _ hM (by rw [Int.sub_zero, Int.mul_comm]; exact Int.mul_emod_left v M) key)
  · rw [if_neg hz]
    have b2 := emod_bd ((M - s) * v) M (by omega)
    exact toNat_succ _ b1.1 _ (pred_gen M _ _ b2.1 b2.2 (inv_gen M s v st k hv (by omega) s1) key)
theorem kkG_pos (M v st k s : Int) (hM : 1 < M) (hv : v * st = 1 + M * k) (s0 : 0 ≤ s) (s1 : s < M) : ∃ f, kkG M v s = f + 1 := by
  have h : kkG M v s ≠ 0 := by
    unfold kkG
    by_cases hz : s = 0
    · rw [if_pos hz]; omega
    · rw [if_neg hz]
      have b2 := emod_bd ((M - s) * v) M (by omega)
      have := inv_gen M s v st k hv (by omega) s1
      omega
  exact ⟨kkG M v s - 1, by omega⟩
theorem inv_step : (17428512612931826493 : Int) * 11400714819323198485 = 1 + 18446744073709551616 * 10771413168148108919 := by decide
def kk (s : Int) : Nat := kkG 18446744073709551616 17428512612931826493 s
theorem kk_step (s : Int) (hs : U64 s) (h : nextS s ≠ 0) : kk s = kk (nextS s) + 1 :=
  kkG_step _ _ _ _ _ _ (by decide) inv_step hs.1 hs.2 (wrap64u _) h
theorem kk_pos (s : Int) (hs : U64 s) : ∃ f, kk s = f + 1 := kkG_pos _ _ _ _ _ (by decide) inv_step hs.1 hs.2

/-- The state behind the number that is taken. -/
def findS (q : Int) : Nat → Int → Int
  | 0, s => s
  | f + 1, s => if accB q (nextS s) then nextS s else findS q f (nextS s)
def drawS (q s : Int) : Int := findS q (kk s) s
def drawX (q s : Int) : Int := belowI (mixI (drawS q s)) q
theorem draw_yes (q s : Int) (hs : U64 s) (h : accB q (nextS s) = true) : drawS q s = nextS s := by
  obtain ⟨f, hf⟩ := kk_pos s hs
  simp [drawS, hf, findS, h]
theorem draw_no (q s : Int) (hq : U64 q) (hs : U64 s) (h : accB q (nextS s) = false) : drawS q s = drawS q (nextS s) ∧ kk s = kk (nextS s) + 1 := by
  have hz : nextS s ≠ 0 := by
    intro h0
    rw [h0, acc_zero q hq] at h
    cases h
  have hk := kk_step s hs hz
  exact ⟨by simp [drawS, hk, findS, h], hk⟩
theorem findS_U64 (q : Int) : ∀ (f : Nat) (s : Int), U64 s → U64 (findS q f s)
  | 0, _, h => h
  | f + 1, s, _ => by
    unfold findS
    split
    · exact nextS_U64 s
    · exact findS_U64 q f _ (nextS_U64 s)
theorem drawS_U64 (q s : Int) (h : U64 s) : U64 (drawS q s) := findS_U64 q _ s h
theorem drawX_U64 (q s : Int) (hq : U64 q) : U64 (drawX q s) := belowI_U64 _ _ (mixI_U64 _) hq
end Go.Proofs.Ytcabcblopfpbfaa
