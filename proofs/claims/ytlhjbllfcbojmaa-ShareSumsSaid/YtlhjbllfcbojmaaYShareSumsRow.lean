/- consistorylaw20.ShareSums: true for every input: the row's statement, out of the law's contract. -/
import Derived.Test.YtlhjbllfcbojmaaZ5
import Derived.Test.YtlhjbllfcbojmaaRows
import Derived.WalkKit
import Derived.ProofKit
import Derived.OpenShut
import Derived.ShutString
import Derived.ChangeOld
import Derived.Below
import Derived.SizedLaws
namespace Go.Proofs.Ytlhjbllfcbojmaa.shareSums
open Go.ChangeShapes Go.WideShapes Go.ChangeAt Go.RowKit
set_option linter.unusedVariables false
theorem own : ownKnob Try.prog.godebug = none := by kernel_rfl
theorem laidOut : laidOutB Try.prog = true := by kernel_rfl
theorem walk (p0 : Par) (v1 : Value) (l1 : List Int) (v2 : Value) (l2 : List (List (Int × Int))) (v3 : Value) (l3 : List (Int × List (List Int))) (v4 : Value) (l4 : List Int) (w : World) (w0 : p0.ok) (w1 : Sl encI (fun _ => True) w v1 l1) (g1 : LG (fun _ => True) l1) (w2 : Sl (encS encP) (fun _ => True) w v2 l2) (g2 : LG (LG fun _ => True) l2) (w3 : Sl encD (fun _ => True) w v3 l3) (g3 : LG (fun d => LG (LG fun _ => True) d.2) l3) (w4 : Sl encU (fun _ => True) w v4 l4) (g4 : LG (fun _ => True) l4) :
    Calls Try.prog 3 #[p0.v, v1, v2, v3, v4] w fun e w' => e = .returned (.bool true) ∧ Below w.heap.size w w' :=
  (shareSums_any p0 v1 v2 v3 v4 l1 l2 l3 l4 w w0 w1 w2 w3 w4 g2.1 (fun x hx => (g2.2 x hx).1) g3.1 (fun d hd => ⟨(g3.2 d hd).1, fun c hc => ((g3.2 d hd).2 c hc).1⟩)).mono fun _ _ ⟨he, hg⟩ => ⟨he, below_grown hg⟩
set_option maxRecDepth 100000 in
theorem lifted (os : Os) (started : os.Started) (H : Type) (enc : TypeId × Value → H) :
    ReturnsInHanded {} Try.checked os 3 .any (Rows.shareSumsSpec.pre6 enc Try.prog Try.f3 Rows.shareSumsRow.domain false) (Rows.shareSumsSpec.post enc Try.prog Try.f3 false true false false) := by
  refine returnsInHanded_of_change_sized (C := Try.checked) own started (by kernel_rfl) Try.func3
    (ChangeSpec.witness6 (enc := enc) (C := Try.checked) false ⟨#[], #[.agg #[.int .u64 0, .int .u64 0, .int .u64 0, .int .u64 0, .int .i64 0, .int .i64 0, .int .i64 0, .int .i64 0, .int .i64 0, .int .i64 0, .int .i64 0, .int .i64 0], .slice none 0 0, .slice none 0 0, .slice none 0 0, .slice none 0 0], []⟩ 8 (by kernel_rfl) (by kernel_rfl) (by kernel_rfl) (by kernel_rfl)) ?_
  intro W base args ds gs before hval0 hW hcnd hZ0 _
  have hZ : (DataW.weightsEach Try.prog (Try.f3.params.toList ++ Rows.shareSumsSpec.plain.varTypes Try.prog) (ds ++ gs)).all (· ≤ reachBytes) = true := hZ0
  have hval : ∀ (j : Nat) t v, Try.f3.params[j]? = some t → args[j]? = some v → Value.okWide Try.prog W .any base t v := hval0
  have hW' := hW
  obtain ⟨p, q, hA0, hV, rfl, hfz, hnd⟩ := hW
  have hA : DataW.TrodAll enc Try.prog W 0 (fun _ => true) true Try.f3.params.toList args.toList ds p := hA0
  rw [Try.params3] at hA hval hZ
  obtain ⟨v0, vs0, d0, ds0, p0, q0, hargs, rfl, rfl, h0, r0⟩ := trodAll_cons hA
  obtain ⟨v1, vs1, d1, ds1, p1, q1, rfl, rfl, rfl, h1, r1⟩ := trodAll_cons r0
  obtain ⟨v2, vs2, d2, ds2, p2, q2, rfl, rfl, rfl, h2, r2⟩ := trodAll_cons r1
  obtain ⟨v3, vs3, d3, ds3, p3, q3, rfl, rfl, rfl, h3, r3⟩ := trodAll_cons r2
  obtain ⟨v4, vs4, d4, ds4, p4, q4, rfl, rfl, rfl, h4, r4⟩ := trodAll_cons r3
  obtain ⟨rfl, rfl, rfl⟩ := trodAll_nil r4
  obtain rfl : args = #[v0, v1, v2, v3, v4] := by cases args; simp_all
  obtain ⟨rfl, rfl⟩ := trodVars_none hV
  have z0 := weights_head (t := 24) (ts := _) (d := d0) (r := _) hZ
  have y0 := weights_tail (t := 24) (ts := _) (d := d0) (r := _) hZ
  have z1 := weights_head (t := 25) (ts := _) (d := d1) (r := _) y0
  have y1 := weights_tail (t := 25) (ts := _) (d := d1) (r := _) y0
  have z2 := weights_head (t := 26) (ts := _) (d := d2) (r := _) y1
  have y2 := weights_tail (t := 26) (ts := _) (d := d2) (r := _) y1
  have z3 := weights_head (t := 27) (ts := _) (d := d3) (r := _) y2
  have y3 := weights_tail (t := 27) (ts := _) (d := d3) (r := _) y2
  have z4 := weights_head (t := 28) (ts := _) (d := d4) (r := _) y3
  have y4 := weights_tail (t := 28) (ts := _) (d := d4) (r := _) y3
  have k0 := h0
  have lt0 : ∀ x ∈ p0, x.block < W.heap.size := by obtain ⟨m, hm⟩ := k0; exact DataW.trod_lt m _ _ _ hm
  obtain ⟨q0', rfl, w0⟩ := open_params (hval 0 24 v0 rfl rfl) k0
  obtain ⟨a1, len1, cap1, rfl⟩ := okWide_slice Try.underlying25 (hval 1 25 v1 rfl rfl)
  have k1 := h1
  have lt1 : ∀ x ∈ p1, x.block < W.heap.size := by obtain ⟨m, hm⟩ := k1; exact DataW.trod_lt m _ _ _ hm
  obtain ⟨l1, w1, g1⟩ := open_slZ readsZ_ints k1 z1
  obtain ⟨a2, len2, cap2, rfl⟩ := okWide_slice Try.underlying26 (hval 2 26 v2 rfl rfl)
  have k2 := h2
  have lt2 : ∀ x ∈ p2, x.block < W.heap.size := by obtain ⟨m, hm⟩ := k2; exact DataW.trod_lt m _ _ _ hm
  obtain ⟨l2, w2, g2⟩ := open_slZ readsZ_prows k2 z2
  obtain ⟨a3, len3, cap3, rfl⟩ := okWide_slice Try.underlying27 (hval 3 27 v3 rfl rfl)
  have k3 := h3
  have lt3 : ∀ x ∈ p3, x.block < W.heap.size := by obtain ⟨m, hm⟩ := k3; exact DataW.trod_lt m _ _ _ hm
  obtain ⟨l3, w3, g3⟩ := open_slZ readsZ_dealts k3 z3
  obtain ⟨a4, len4, cap4, rfl⟩ := okWide_slice Try.underlying28 (hval 4 28 v4 rfl rfl)
  have k4 := h4
  have lt4 : ∀ x ∈ p4, x.block < W.heap.size := by obtain ⟨m, hm⟩ := k4; exact DataW.trod_lt m _ _ _ hm
  obtain ⟨l4, w4, g4⟩ := open_slZ readsZ_nums k4 z4
  clear hA0 hval0
  refine (walk q0' _ l1 _ l2 _ l3 _ l4 W w0 w1 g1 w2 g2 w3 g3 w4 g4).mono fun e W' ⟨he, bel⟩ => ?_
  subst he
  exact ⟨_, rfl, _, _, _, [], _, [], hW', trodAll_mk1 (shut_bool Try.underlying4 _), (trodAll_cons_mk (Below.trod laidOut (by kernel_rfl) (of_decide_eq_true (by kernel_rfl)) k0 bel lt0) (trodAll_cons_mk (Below.trod laidOut (by kernel_rfl) (of_decide_eq_true (by kernel_rfl)) k1 bel lt1) (trodAll_cons_mk (Below.trod laidOut (by kernel_rfl) (of_decide_eq_true (by kernel_rfl)) k2 bel lt2) (trodAll_cons_mk (Below.trod laidOut (by kernel_rfl) (of_decide_eq_true (by kernel_rfl)) k3 bel lt3) (trodAll_cons_mk (Below.trod laidOut (by kernel_rfl) (of_decide_eq_true (by kernel_rfl)) k4 bel lt4) trodAll_mk0))))), rfl, bel.frame _, fun h => by cases h⟩
theorem proved : Rows.ShareSumsSaid :=
  OpenClaim.holds_of_wide 3 Try.f3 rfl rfl rfl rfl rfl rfl rfl ⟨rfl, rfl, rfl, rfl, rfl⟩ rfl rfl rfl rfl rfl (by kernel_rfl) Try.func3 (by kernel_rfl)
    (of_decide_eq_true (by kernel_rfl)) (by unfold Func.isWrapper; first | (rw [if_pos (by decide +kernel)]; kernel_rfl) | (rw [if_neg (by decide +kernel)]; exact ⟨rfl, rfl⟩))
    (fun os started H enc _ => lifted os started H enc)
end Go.Proofs.Ytlhjbllfcbojmaa.shareSums
