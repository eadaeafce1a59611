/- No number up to 2^61 that passes the twelve bases has a divisor of three digits, but itself. -/
import Derived.Test.YtnjbigbiclfcoaaDoorNt6
import Derived.Test.YtnjbigbiclfcoaaDoorNtK1
import Derived.Test.YtnjbigbiclfcoaaDoorNtK2
import Derived.Test.YtnjbigbiclfcoaaDoorNtK3
import Derived.Test.YtnjbigbiclfcoaaDoorNtK4
import Derived.Test.YtnjbigbiclfcoaaDoorNtK5
import Derived.Test.YtnjbigbiclfcoaaDoorNtK6
import Derived.Test.YtnjbigbiclfcoaaDoorNtK7
import Derived.Test.YtnjbigbiclfcoaaDoorNtK8
namespace Go.Proofs.YtnjbigbiclfcoaaDoor.NT

def pl : List (Nat × Nat × Nat × Nat × List Nat) := pl1 ++ pl2 ++ pl3 ++ pl4 ++ pl5 ++ pl6 ++ pl7 ++ pl8
theorem pl_ok : ∀ x ∈ pl, chkP x.1 x.2.1 x.2.2.1 x.2.2.2.1 x.2.2.2.2 = true := by
  intro x hx
  simp only [pl, List.mem_append, or_assoc] at hx
  rcases hx with h | h | h | h | h | h | h | h
  · exact pl1_ok x h
  · exact pl2_ok x h
  · exact pl3_ok x h
  · exact pl4_ok x h
  · exact pl5_ok x h
  · exact pl6_ok x h
  · exact pl7_ok x h
  · exact pl8_ok x h
def plchk (n : Nat) : Bool := Nat.rec (motive := fun _ => Bool) true (fun p ih => (bif Nat.blt 37 p && isP p then pl.any (fun x => Nat.beq x.1 p) else true) && ih) n
theorem plchk_of : ∀ n, plchk n = true → ∀ p, p < n → 37 < p → isP p = true → ∃ x, x ∈ pl ∧ x.1 = p
  | 0, _, p, h, _, _ => by omega
  | n + 1, h, p, hp, h37, hi => by
    have h' : ((bif Nat.blt 37 n && isP n then pl.any (fun x => Nat.beq x.1 n) else true) && plchk n) = true := h
    rw [Bool.and_eq_true] at h'
    rcases Nat.lt_or_ge p n with hlt | hge
    · exact plchk_of n h'.2 p hlt h37 hi
    · obtain rfl : p = n := by omega
      have h1 := h'.1
      have hb : Nat.blt 37 p = true := Nat.blt_eq ▸ h37
      rw [hb, hi] at h1
      obtain ⟨x, hx, he⟩ := List.any_eq_true.1 h1
      exact ⟨x, hx, Nat.eq_of_beq_eq_true he⟩
set_option maxRecDepth 100000 in
theorem plchk_ok : plchk 1000 = true := by decide +kernel
theorem pl_small : pl.all (fun x => Nat.blt 0 x.2.1 && Nat.blt x.2.2.1 (Nat.pow 2 32)) = true := by decide +kernel
/-- The claim of this row of texts. -/
theorem small_div {n d : Nat} (hn : n ≤ 2305843009213693952) (hsp : ∀ a ∈ bases, SP n a) (hnd : ∀ a ∈ bases, ¬ a ∣ n) (hd2 : 2 ≤ d) (hd : d ∣ n) (hd3 : d < 1000) (hne : d ≠ n) (hn0 : 0 < n) : False := by
  have h37 : ∀ q, Pr q → q ∣ n → 37 < q := fun q hq hqd => by
    refine Classical.byContradiction fun hc => ?_
    have key : ∀ q, q < 38 → isP q = true → 2 ≤ q → q ∈ bases := by decide
    exact hnd q (key q (by omega) (isP_of hq) hq.1) hqd
  obtain ⟨p, hp, hpn, hl⟩ := least_pr n (Nat.le_trans hd2 (Nat.le_of_dvd hn0 hd))
  have hpd := hl d hd2 hd
  have hnp : n ≠ p := fun e => by
    subst e
    rcases hp.2 d hd with h | h <;> omega
  obtain ⟨x, hx, rfl⟩ := plchk_of 1000 plchk_ok p (by omega) (h37 p hp hpn) (isP_of hp)
  have hs := List.all_eq_true.1 pl_small x hx
  rw [Bool.and_eq_true] at hs
  exact no_small (pl_ok x hx) hp (h37 _ hp hpn) (by omega) (blt_of hs.1) (blt_of hs.2) hpn hnp hn hn0 hsp hnd hl
end Go.Proofs.YtnjbigbiclfcoaaDoor.NT
