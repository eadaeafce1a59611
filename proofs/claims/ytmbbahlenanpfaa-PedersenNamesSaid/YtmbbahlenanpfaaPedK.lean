/- works: its calls at blocks just laid. -/
import Derived.Test.YtmbbahlenanpfaaPedJ
namespace Go.Proofs.Ytmbbahlenanpfaa
open Go Go.RowKit

theorem coms_any (p : Par) (vf vr : Value) (f r : List (List Int)) (X : Nat → Prop) (w : World) (hp : p.ok) (hf : Sl (encS encU) X w vf f) (hr : Sl (encS encU) X w vr r) (hb1 : f.length ≤ 100000) (hb2 : r.length ≤ 100000) (hb3 : ∀ c ∈ f, small1 c) (hb4 : ∀ c ∈ r, small1 c) :
    Calls Try.prog 12 #[p.v, vf, vr] w (Gives (encS encU) (fun g => w.heap.size ≤ g) w (comsI p f r)) := callsIn_wide.1 (coms_in 6 (Nat.le_refl _) p vf vr f r X w hp hf hr hb1 hb2 hb3 hb4)
theorem matrix_any (p : Par) (vf vr : Value) (f r : List (List (List Int))) (X : Nat → Prop) (w : World) (hp : p.ok) (hf : Sl (encS (encS encU)) X w vf f) (hr : Sl (encS (encS encU)) X w vr r) (hb1 : f.length ≤ 100000) (hb2 : r.length ≤ 100000) (hb3 : ∀ c ∈ f, small2 c) (hb4 : ∀ c ∈ r, small2 c) :
    Calls Try.prog 15 #[p.v, vf, vr] w (Gives (encS (encS encU)) (fun g => w.heap.size ≤ g) w (matI p f r)) := callsIn_wide.1 (matrix_in 6 (Nat.le_refl _) p vf vr f r X w hp hf hr hb1 hb2 hb3 hb4)
/-- Two rows of numbers and the list of them, in blocks that are known whole. -/
theorem Sl.two {w : World} {g a b : Nat} {t : TypeId} {xs ys : List Int} (h1 : Bk w a 23 (nums xs).toArray) (h2 : Bk w b 23 (nums ys).toArray) (h : Bk w g t #[.slice (some ⟨a, 0, none⟩) xs.length xs.length, .slice (some ⟨b, 0, none⟩) ys.length ys.length]) (hx : ∀ x ∈ xs, U64 x) (hy : ∀ y ∈ ys, U64 y) (l1 : xs.length ≤ 9223372036854775807) (l2 : ys.length ≤ 9223372036854775807) :
    Sl (encS encU) (fun _ => True) w (.slice (some ⟨g, 0, none⟩) 2 2) [xs, ys] := by
  refine Sl.block (E := encS encU) (xs := [xs, ys]) (c := 2) h trivial [[.slice (some ⟨a, 0, none⟩) xs.length xs.length], [.slice (some ⟨b, 0, none⟩) ys.length ys.length]] rfl (fun i hi hi' => ?_) rfl (Nat.le_refl _) (by decide)
  match i, hi with
  | 0, _ => exact ⟨_, rfl, Sl.ofBk h1 hx l1⟩
  | 1, _ => exact ⟨_, rfl, Sl.ofBk h2 hy l2⟩
theorem two_new (w : World) (n : Nat) (hn : w.heap.size = n) (xs ys : List Int) (hx : ∀ x ∈ xs, U64 x) (hy : ∀ y ∈ ys, U64 y) (l1 : xs.length ≤ 9223372036854775807) (l2 : ys.length ≤ 9223372036854775807) :
    Sl (encS encU) (fun _ => True) (((w.alloc (.cells (nums xs).toArray 23)).alloc (.cells (nums ys).toArray 23)).alloc (.cells #[.slice (some ⟨n, 0, none⟩) xs.length xs.length, .slice (some ⟨n + 1, 0, none⟩) ys.length ys.length] 27)) (.slice (some ⟨n + 1 + 1, 0, none⟩) 2 2) [xs, ys] := by
  subst hn
  have h1 := ((Bk.new w 23 (nums xs).toArray).alloc (.cells (nums ys).toArray 23)).alloc (.cells #[.slice (some ⟨w.heap.size, 0, none⟩) xs.length xs.length, .slice (some ⟨w.heap.size + 1, 0, none⟩) ys.length ys.length] 27)
  have h2 := (Bk.new (w.alloc (.cells (nums xs).toArray 23)) 23 (nums ys).toArray).alloc (.cells #[.slice (some ⟨w.heap.size, 0, none⟩) xs.length xs.length, .slice (some ⟨w.heap.size + 1, 0, none⟩) ys.length ys.length] 27)
  have h3 := Bk.new ((w.alloc (.cells (nums xs).toArray 23)).alloc (.cells (nums ys).toArray 23)) 27 #[.slice (some ⟨w.heap.size, 0, none⟩) xs.length xs.length, .slice (some ⟨w.heap.size + 1, 0, none⟩) ys.length ys.length]
  have e2 : (w.alloc (.cells (nums xs).toArray 23)).heap.size = w.heap.size + 1 := by simp
  have e3 : ((w.alloc (.cells (nums xs).toArray 23)).alloc (.cells (nums ys).toArray 23)).heap.size = w.heap.size + 1 + 1 := by simp
  rw [e2] at h2
  rw [e3] at h3
  exact Sl.two h1 h2 h3 hx hy l1 l2
theorem two_swap (w : World) (n : Nat) (hn : w.heap.size = n) (xs ys : List Int) (hx : ∀ x ∈ xs, U64 x) (hy : ∀ y ∈ ys, U64 y) (l1 : xs.length ≤ 9223372036854775807) (l2 : ys.length ≤ 9223372036854775807) :
    Sl (encS encU) (fun _ => True) (((w.alloc (.cells (nums ys).toArray 23)).alloc (.cells (nums xs).toArray 23)).alloc (.cells #[.slice (some ⟨n + 1, 0, none⟩) xs.length xs.length, .slice (some ⟨n, 0, none⟩) ys.length ys.length] 27)) (.slice (some ⟨n + 1 + 1, 0, none⟩) 2 2) [xs, ys] := by
  subst hn
  have h1 := ((Bk.new w 23 (nums ys).toArray).alloc (.cells (nums xs).toArray 23)).alloc (.cells #[.slice (some ⟨w.heap.size + 1, 0, none⟩) xs.length xs.length, .slice (some ⟨w.heap.size, 0, none⟩) ys.length ys.length] 27)
  have h2 := (Bk.new (w.alloc (.cells (nums ys).toArray 23)) 23 (nums xs).toArray).alloc (.cells #[.slice (some ⟨w.heap.size + 1, 0, none⟩) xs.length xs.length, .slice (some ⟨w.heap.size, 0, none⟩) ys.length ys.length] 27)
  have h3 := Bk.new ((w.alloc (.cells (nums ys).toArray 23)).alloc (.cells (nums xs).toArray 23)) 27 #[.slice (some ⟨w.heap.size + 1, 0, none⟩) xs.length xs.length, .slice (some ⟨w.heap.size, 0, none⟩) ys.length ys.length]
  have e2 : (w.alloc (.cells (nums ys).toArray 23)).heap.size = w.heap.size + 1 := by simp
  have e3 : ((w.alloc (.cells (nums ys).toArray 23)).alloc (.cells (nums xs).toArray 23)).heap.size = w.heap.size + 1 + 1 := by simp
  rw [e2] at h2
  rw [e3] at h3
  exact Sl.two h2 h1 h3 hx hy l1 l2
end Go.Proofs.Ytmbbahlenanpfaa
