/- What comes in, with the bounds that the rows lay on every slice. Dealings that come in, within the bounds. Draws alone leave the memory as it was; the table of bits as it is listed. -/
import Derived.Test.YtlhjbllfcbojmaaZ4
import Derived.ProofKit
namespace Go.Proofs.Ytlhjbllfcbojmaa
open Go.ChangeShapes Go.WideShapes Go.RowKit

/-- Whatever is read at this type, each of its slices no larger than the address space, reads so. -/
def ReadsZ {α : Type} (E : Enc α) (t : TypeId) (G : α → Prop) : Prop :=
  ∀ {H : Type} {enc : TypeId × Value → H} {w : World} {base : Nat} {spare : Nat → Bool} {held : Bool} {fuel : Nat} {cs : List Value} {x : DataW H × List MemPlace},
    DataW.trod enc Try.prog w base spare held fuel t cs = some x → (∀ b ∈ x.1.weights Try.prog t, b ≤ reachBytes) → ∃ a, E.rep (fun _ => True) w cs a ∧ G a
theorem Reads.z {α : Type} {E : Enc α} {t : TypeId} (h : Reads E t) : ReadsZ E t (fun _ => True) := fun ht _ => by
  obtain ⟨a, ha⟩ := h ht
  exact ⟨a, ha, trivial⟩
/-- Lists of no more than 2^44 things, each so. -/
def LG {α : Type} (G : α → Prop) (l : List α) : Prop := l.length ≤ 17592186044415 ∧ ∀ y ∈ l, G y
theorem weightsAll_mem {H : Type} {P : Program} {e : TypeId} {b : Nat} : ∀ {l : List (DataW H)} {d : DataW H}, d ∈ l → b ∈ d.weights P e → b ∈ DataW.weightsAll P e l
  | x :: l, d, hd, hb => by
    rw [DataW.weightsAll]
    rcases List.mem_cons.1 hd with rfl | hd
    · exact List.mem_append_left _ hb
    · exact List.mem_append_right _ (weightsAll_mem hd hb)
theorem reads_slZ {α : Type} {E : Enc α} {t e : TypeId} {G : α → Prop} (ht : Try.prog.underlying t = some (.slice e)) (hE : ReadsZ E e G) (hc : Try.prog.cellsOf e = E.size) (hb : 8 ≤ Try.prog.bytesOf e) : ReadsZ (encS E) t (LG G) := by
  intro H enc w base spare held fuel cs x h hz
  rcases Go.Deep.open_slice ht h with ⟨rfl, _⟩ | ⟨a, len, cap, m, n, D, Pl, rfl, _, hl, hm, hmm, rfl, hi⟩
  · exact ⟨[], ⟨_, rfl, Sl.nil _ _ _⟩, Nat.zero_le _, fun y hy => absurd hy (by simp)⟩
  · have hlm : len ≤ m := by rw [hmm]; split <;> omega
    have hzz : ∀ b ∈ DataW.weights Try.prog t (DataW.slice ((List.range len).map D) ((List.range (m - len)).map fun j => D (len + j))), b ≤ reachBytes := hz
    rw [DataW.weights, ht] at hzz
    have hz0 : (((List.range len).map D).length + ((List.range (m - len)).map fun j => D (len + j)).length) * Try.prog.bytesOf e ≤ reachBytes := hzz _ List.mem_cons_self
    have hlen8 : len ≤ 17592186044415 := by
      rw [List.length_map, List.length_map, List.length_range, List.length_range] at hz0
      have h1 : len * 8 ≤ (len + (m - len)) * Try.prog.bytesOf e := Nat.mul_le_mul (by omega) hb
      unfold reachBytes at hz0
      omega
    have hzi : ∀ i, i < len → ∀ b ∈ (D i).weights Try.prog e, b ≤ reachBytes := fun i hi b hb => hzz b (List.mem_cons_of_mem _ (List.mem_append_left _ (weightsAll_mem (List.mem_map.2 ⟨i, List.mem_range.2 hi, rfl⟩) hb)))
    have key : ∀ i, i < len → ∃ y, (∃ cs', E.rep (fun _ => True) w cs' y ∧ ∀ j, j < E.size → w.cell? (a.add (i * E.size + j)) = cs'[j]?) ∧ G y := by
      intro i hil
      obtain ⟨cs', hcell, htr⟩ := hi i (by omega)
      obtain ⟨y, hy, hG⟩ := hE htr (hzi i hil)
      obtain ⟨_, hlen, hat⟩ := World.cells?_some hcell
      rw [hc] at hat
      refine ⟨y, ⟨cs', hy, fun j hj => ?_⟩, hG⟩
      rw [← hat j hj, Go.Deep.add_add]
    have hcz : ∃ f : Fin len → α, ∀ i : Fin len, (∃ cs', E.rep (fun _ => True) w cs' (f i) ∧ ∀ j, j < E.size → w.cell? (a.add (i.1 * E.size + j)) = cs'[j]?) ∧ G (f i) :=
      ⟨fun i => Classical.choose (key i.1 i.2), fun i => Classical.choose_spec (key i.1 i.2)⟩
    obtain ⟨f, hf'⟩ := hcz
    have hf : ∀ i : Fin len, ∃ cs', E.rep (fun _ => True) w cs' (f i) ∧ ∀ j, j < E.size → w.cell? (a.add (i.1 * E.size + j)) = cs'[j]? := fun i => (hf' i).1
    have hlen : (List.ofFn f).length = len := List.length_ofFn
    refine ⟨List.ofFn f, ⟨_, rfl, some a, cap, by rw [hlen], by omega, by unfold maxLen at hm; omega, fun hn => ?_⟩, by rw [hlen]; exact hlen8, fun y hy => ?_⟩
    · have hpos : 0 < len := by rw [← hlen]; exact List.length_pos_iff.2 hn
      obtain ⟨cs0, hr0, hc0⟩ := hf ⟨0, hpos⟩
      have h00 := hc0 0 E.pos
      have hl0 := E.len hr0
      rw [List.getElem?_eq_getElem (by rw [hl0]; exact E.pos)] at h00
      obtain ⟨g, o, sp⟩ := a
      have hsp : sp = none := by simpa [Addr.add] using World.cell?_spot h00
      subst hsp
      have h00' : w.cell? ⟨g, o, none⟩ = some (cs0[0]'(by rw [hl0]; exact E.pos)) := by simpa [Addr.add] using h00
      have hgl : g < w.heap.size := by
        rcases Nat.lt_or_ge g w.heap.size with hlt | hge
        · exact hlt
        · simp [World.cell?, Array.getElem?_eq_none hge] at h00'
      refine ⟨g, o, rfl, hgl, trivial, fun i hi' => ?_⟩
      obtain ⟨cs', hr', hc'⟩ := hf ⟨i, by omega⟩
      refine ⟨cs', by simpa using hr', fun j u hu => ?_⟩
      have hj : j < E.size := by
        rw [← E.len hr']
        exact (List.getElem?_eq_some_iff.1 hu).1
      rw [← hu, ← hc' j hj]
      have : (⟨g, o, none⟩ : Addr).add (i * E.size + j) = ⟨g, o + i * E.size + j, none⟩ := by
        unfold Addr.add
        split
        · rename_i h0
          have : i * E.size + j = 0 := by simpa using h0
          rw [show o + i * E.size + j = o by omega]
        · rw [Nat.add_assoc]
      rw [this]
    · obtain ⟨i, rfl⟩ := List.mem_ofFn.1 hy
      exact (hf' i).2
/-- A slice that came in as an argument, within the bounds. -/
theorem open_slZ {α : Type} {E : Enc α} {t : TypeId} {G : List α → Prop} (hR : ReadsZ (encS E) t G) {H : Type} {enc : TypeId × Value → H} {w : World} {base : Nat} {spare : Nat → Bool} {held : Bool} {a : Option Addr} {len cap : Nat} {d : DataW H} {p : List MemPlace}
    (h : DataW.Trod enc Try.prog w base spare held t (.slice a len cap) d p) (hz : ∀ b ∈ d.weights Try.prog t, b ≤ reachBytes) : ∃ xs, Sl E (fun _ => True) w (.slice a len cap) xs ∧ G xs := by
  obtain ⟨fuel, hf⟩ := h
  obtain ⟨xs, ⟨v, e, hs⟩, hg⟩ := hR hf hz
  simp [Value.cells] at e
  exact ⟨xs, by rw [e]; exact hs, hg⟩
theorem weights_head {H : Type} {P : Program} {t : TypeId} {ts : List TypeId} {d : DataW H} {r : List (DataW H)} (h : (DataW.weightsEach P (t :: ts) (d :: r)).all (· ≤ reachBytes) = true) : ∀ b ∈ d.weights P t, b ≤ reachBytes := fun b hb => by
  have h2 := (List.all_eq_true.1 h) b (by rw [DataW.weightsEach]; exact List.mem_append_left _ hb)
  simpa using h2
theorem weights_tail {H : Type} {P : Program} {t : TypeId} {ts : List TypeId} {d : DataW H} {r : List (DataW H)} (h : (DataW.weightsEach P (t :: ts) (d :: r)).all (· ≤ reachBytes) = true) : (DataW.weightsEach P ts r).all (· ≤ reachBytes) = true :=
  List.all_eq_true.2 fun b hb => (List.all_eq_true.1 h) b (by rw [DataW.weightsEach]; exact List.mem_append_right _ hb)
theorem readsZ_nums : ReadsZ (encS encU) 28 (LG fun _ => True) := reads_slZ Try.underlying28 (Reads.z (reads_u64 Try.underlying22)) cells_u64 (of_decide_eq_true (by kernel_rfl))
theorem readsZ_pairs : ReadsZ (encS encP) 30 (LG fun _ => True) := reads_slZ Try.underlying30 (Reads.z (reads_pair Try.underlying47 ⟨rfl, rfl⟩ ⟨rfl, rfl⟩ Try.underlying22 cells_pair cells_u64)) cells_pair (of_decide_eq_true (by kernel_rfl))
theorem readsZ_rows : ReadsZ (encS (encS encU)) 34 (LG (LG fun _ => True)) := reads_slZ Try.underlying34 readsZ_nums cells_nums (of_decide_eq_true (by kernel_rfl))
theorem readsZ_prows : ReadsZ (encS (encS encP)) 26 (LG (LG fun _ => True)) := reads_slZ Try.underlying26 readsZ_pairs cells_pairs (of_decide_eq_true (by kernel_rfl))
theorem readsZ_ints : ReadsZ (encS encI) 25 (LG fun _ => True) := reads_slZ Try.underlying25 (Reads.z (reads_i64 Try.underlying3)) cells_int (of_decide_eq_true (by kernel_rfl))
end Go.Proofs.Ytlhjbllfcbojmaa

namespace Go.Proofs.Ytlhjbllfcbojmaa
open Go.ChangeShapes Go.WideShapes Go.RowKit

theorem cells_dealtD : Try.prog.cellsOf 51 = 2 := by kernel_rfl
theorem cells_rowsD : Try.prog.cellsOf 34 = 1 := by kernel_rfl
theorem cells_intD : Try.prog.cellsOf 3 = 1 := by kernel_rfl
theorem two_list {α : Type} : ∀ {l : List α}, l.length = 2 → ∃ a b, l = [a, b]
  | [a, b], _ => ⟨a, b, rfl⟩
theorem readsZ_dealt1 : ReadsZ encD 51 (fun d => LG (LG fun _ => True) d.2) := by
  intro H enc w base spare held fuel cs x h hz
  obtain ⟨xs, n, _, hx, hl, hlen, hf⟩ := DataW.trod_struct Try.underlying51 h
  rw [cells_dealtD] at hl
  obtain ⟨y0, y1, rfl⟩ := two_list hlen
  obtain ⟨c0, c1, rfl⟩ := two_list hl
  have g0 := hf 0 _ rfl
  have g1 := hf 1 _ rfl
  simp [cells_intD, cells_rowsD] at g0 g1
  obtain ⟨a0, e0, _, w0⟩ := DataW.trod_int Try.underlying3 g0
  have hz1 : ∀ b ∈ y1.1.weights Try.prog 34, b ≤ reachBytes := fun b hb => hz b (by
    rw [hx]
    show b ∈ DataW.weights Try.prog 51 (.agg [y0.1, y1.1])
    rw [DataW.weights, Try.underlying51]
    show b ∈ _ ++ (_ ++ _)
    exact List.mem_append_right _ (List.mem_append_left _ hb))
  obtain ⟨l, ⟨v, e1, hs⟩, hG⟩ := readsZ_rows g1 hz1
  simp at e0 e1
  subst e0 e1
  exact ⟨(a0, l), ⟨_, rfl, i64_wf w0, hs⟩, hG⟩
theorem readsZ_dealts : ReadsZ (encS encD) 27 (LG fun d => LG (LG fun _ => True) d.2) := reads_slZ Try.underlying27 readsZ_dealt1 cells_dealtD (of_decide_eq_true (by kernel_rfl))
end Go.Proofs.Ytlhjbllfcbojmaa

namespace Go.Proofs.Ytlhjbllfcbojmaa
open Go.RowKit
end Go.Proofs.Ytlhjbllfcbojmaa
