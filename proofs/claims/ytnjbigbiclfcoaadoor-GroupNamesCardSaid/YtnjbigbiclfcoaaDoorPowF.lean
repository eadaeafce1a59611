/- mod's powers and primes, reckoned fast (by squares), so that closed values are within the kernel's reach. -/
import Derived.Test.YtnjbigbiclfcoaaDoorModP
namespace Go.Proofs.YtnjbigbiclfcoaaDoor
open Go.RowKit

def powF : Nat → Int → Int → Int → Int → Int
  | 0, _, _, _, o => o
  | f + 1, x, k, m, o => if k = 0 then o else powF f (mulI x x m) (k / 2) m (if k % 2 = 1 then mulI o x m else o)
theorem powF_rel (a e m : Int) (hm : mayB m = true) : ∀ (f : Nat) (o x k : Int), PowRel a e m o x k → 0 ≤ k → k < 2 ^ f → 0 ≤ o → o < m → powF f x k m o = a ^ e.toNat % m
  | 0, o, x, k, h, h0, h1, o0, o1 => by
    have hk : k = 0 := by simp at h1; omega
    exact h.done hk o0 o1
  | f + 1, o, x, k, h, h0, h1, o0, o1 => by
    unfold powF
    have h2 : k / 2 < 2 ^ f := by rw [Int.pow_succ] at h1; omega
    split
    · rename_i hk
      exact h.done hk o0 o1
    · split
      · rename_i hk
        have b := mulI_bd o x m hm
        exact powF_rel a e m hm f _ _ _ (h.odd hm h0 hk) (by omega) h2 b.1 b.2
      · exact powF_rel a e m hm f _ _ _ (h.even hm h0 (by omega)) (by omega) h2 o0 o1
theorem powI_fast (a e m : Int) (hm : mayB m = true) (he : U64 e) : powI a e m = powF 64 a e m (1 % m) := by
  have h0 : 0 < m := by simp [mayB] at hm; omega
  have b := emod_bd 1 m h0
  rw [powF_rel a e m hm 64 (1 % m) a e (PowRel.start a e m) he.1 (by have := he.2; simpa using this) b.1 b.2]
  unfold powI
  rw [if_pos hm]

def passF (n a : Int) (t : Nat) : Bool := (fun x => x == 1 || witB n t x) (powF 64 a ((n - 1) / 2 ^ t) n (1 % n))
def goF (n : Int) (t : Nat) : List Int → Bool
  | [] => true
  | a :: l => if n % a = 0 then decide (n = a) else if passF n a t then goF n t l else false
def primeF (n : Int) : Bool := if n < 2 ∨ 2305843009213693952 < n then false else goF n (Lib.ctz 64 (n - 1).toNat) triedL
theorem ediv_le_self' (x y : Int) (hx : 0 ≤ x) (hy : 0 < y) : 0 ≤ x / y ∧ x / y ≤ x := ⟨Int.ediv_nonneg hx (by omega), Int.ediv_le_self y hx⟩
theorem passF_eq (n a : Int) (t : Nat) (hn : mayB n = true) : passB n a t = passF n a t := by
  have hn' := hn
  simp [mayB] at hn'
  have hp : (0 : Int) < 2 ^ t := Int.pow_pos (by decide)
  have h := ediv_le_self' (n - 1) (2 ^ t) (by omega) hp
  unfold passB passF
  rw [powI_fast a _ n hn ⟨h.1, by omega⟩]
theorem goF_eq (n : Int) (t : Nat) (hn : mayB n = true) : ∀ l, goB n t l = goF n t l
  | [] => rfl
  | a :: l => by
    unfold goB goF
    rw [passF_eq n a t hn, goF_eq n t hn l]
theorem primeF_eq (n : Int) : primeB n = primeF n := by
  unfold primeB primeF
  split
  · rfl
  · exact goF_eq n _ (by simp [mayB]; omega) _
end Go.Proofs.YtnjbigbiclfcoaaDoor
