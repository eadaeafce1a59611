/- pedersen.secrets, all, Formed. -/
import Derived.Test.YtmbbahlenanpfaaPedH
namespace Go.Proofs.Ytmbbahlenanpfaa
open Go Go.RowKit

def secretsI (p : Par) : Int := wrap64 (p.K * wrap64 (p.D + 1))
set_option maxHeartbeats 400000 in
theorem secrets_any (p : Par) (w : World) :
    Calls Try.prog 18 #[p.v] w fun e w' => e = .returned (.int .i64 (secretsI p)) ∧ w.grownBy w' none := by
  go_enter Try.func18, Try.ntmps18
  go_wp2
  go_ret
  exact ⟨rfl, World.grownBy_alloc w _ none⟩
/-- As many lists, as long as that, all of the group. -/
def allB (p : Par) (l : List (List Int)) (many long : Int) : Bool := decide ((l.length : Int) = many) && !l.any fun x => rowBad p long x
set_option maxHeartbeats 400000 in
theorem all_any (p : Par) (v : Value) (l : List (List Int)) (many long : Int) (X : Nat → Prop) (w : World) (hp : p.ok) (h : Sl (encS encU) X w v l) :
    Calls Try.prog 21 #[p.v, v, .int .i64 many, .int .i64 long] w fun e w' => e = .returned (.bool (allB p l many long)) ∧ w.grownBy w' none := by
  have HB : Hid (Bk ((w.alloc (.cells p.cells 25)).alloc (.cells #[.int .i64 long] 3)) w.heap.size 25 p.cells) := Lib.hid ((Bk.new w _ _).alloc _)
  have HBN : Hid (Bk ((w.alloc (.cells p.cells 25)).alloc (.cells #[.int .i64 long] 3)) (w.heap.size + 1) 3 #[.int .i64 long]) := Lib.hid (by have := Bk.new (w.alloc (.cells p.cells 25)) 3 #[.int .i64 long]; simpa using this)
  have HG : Hid (w.grownBy ((w.alloc (.cells p.cells 25)).alloc (.cells #[.int .i64 long] 3)) none) := Lib.hid ((World.grownBy_alloc w _ none).trans (World.grownBy_alloc _ _ none))
  have HC := Lib.hid (containsRow_any p (w.heap.size + 1) w.heap.size long v l X _ hp HBN.out HB.out (h.kept HG.out))
  obtain ⟨A, c, rfl, _, _⟩ := h.form
  clear hp h HB HBN
  by_cases hne : (l.length : Int) = many
  · have HR : Hid (allB p l many long = !l.any fun x => rowBad p long x) := Lib.hid (by simp [allB, hne])
    go_enter Try.func21, Try.ntmps21
    go_wp2_with fail
    refine HC.out.mono ?_
    rintro e w1 ⟨rfl, hg⟩
    have HG1 := Lib.hid (HG.out.trans hg)
    clear hg
    go_wp2
    go_ret
    exact ⟨ret_bool HR.out.symm, HG1.out⟩
  · have HR : Hid (allB p l many long = false) := Lib.hid (by simp [allB, hne])
    go_enter Try.func21, Try.ntmps21
    go_wp2
    go_ret
    exact ⟨ret_bool HR.out.symm, HG.out⟩
def formedB (p : Par) (l : List (List Int)) : Bool := allB p l (secretsI p) (IntKind.i64.wrap (p.T + 1))
set_option maxHeartbeats 400000 in
theorem formed_any (p : Par) (v : Value) (l : List (List Int)) (X : Nat → Prop) (w : World) (hp : p.ok) (h : Sl (encS encU) X w v l) :
    Calls Try.prog 11 #[p.v, v] w fun e w' => e = .returned (.bool (formedB p l)) ∧ w.grownBy w' none := by
  have HP := Lib.hid hp
  have H := Lib.hid h
  obtain ⟨A, c, rfl, _, _⟩ := h.form
  have HGw : Hid (w.grownBy (w.alloc (.cells p.cells 25)).drew none) := Lib.hid ((World.grownBy_alloc w _ none).trans (grown_drewN' _ 1))
  have HBw : Hid (Bk (w.alloc (.cells p.cells 25)).drew w.heap.size 25 p.cells) := Lib.hid (Bk.new w _ _)
  clear hp h
  go_enter Try.func11, Try.ntmps11
  go_wp2_with fail
  go_region_held3 (fun w' => ∀ o, w'.cell? ⟨w.heap.size, o, none⟩ = (#[.int .u64 p.P, .int .u64 p.Q, .int .u64 p.G, .int .u64 p.H, .int .i64 p.Nodes, .int .i64 p.N, .int .i64 p.T, .int .i64 p.K, .int .i64 p.D, .int .i64 p.R, .int .i64 p.M, .int .i64 p.X] : Array Value)[o]?) (first | assumption | exact (Bk.new w 25 p.cells).prule | go_keep)
    (first
    | (go_at_call 18; (with_reducible refine (secrets_any p _).mono ?_); rintro e w1 ⟨rfl, hg⟩; have HG1 := Lib.hid (HGw.out.trans hg); have HB1 := Lib.hid (HBw.out.grown hg (by simp)); have hpx := HB1.out.prule; clear hg)
    | (go_at_call 21; (with_reducible refine (all_any p _ l _ _ X _ HP.out (H.out.kept HG1.out)).mono ?_); rintro e w2 ⟨rfl, hg⟩; have HG2 := Lib.hid (HG1.out.trans hg); have hpy := (HB1.out.grown hg (by simp)).prule; clear hg))
  go_wp2
  go_ret
  exact ⟨rfl, HG2.out⟩
end Go.Proofs.Ytmbbahlenanpfaa
