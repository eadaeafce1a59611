/- Part 7 of the proof of a card of AvssAnew. -/
import Derived.Test.YtkdfjkdphdfclaaGreatDoorV3
import Derived.Test.YtkdfjkdphdfclaaGreatDoorV4
import Derived.Test.YtkdfjkdphdfclaaGreatDoorV6
set_option maxRecDepth 100000
set_option maxHeartbeats 16000000
set_option linter.unusedVariables false
set_option linter.unusedSimpArgs false
namespace Go.Proofs.YtkdfjkdphdfclaaGreatDoor
open Tryz
section
open Go Go.RowKit Go.Shelf
attribute [local go_sem] Oper.semAt_some
theorem MF(A B:Option Addr)(m1 c1 m2 c2:Nat)(w:World):
  Calls prog 152 #[.slice A m1 c1, .slice B m2 c2] w fun e w'=>e= .returned (.func (.func 190) #[] #[.pointer (some ⟨w.heap.size,0,none⟩), .pointer (some ⟨w.heap.size+1,0,none⟩)])∧w'=(w.alloc (.cells #[.slice A m1 c1] 31)).alloc (.cells #[.slice B m2 c2] 31):=by
 go_enter func152,ntmps152;go_wp2;go_ret;exact ⟨rfl,rfl⟩
theorem MG(A B:Option Addr)(m1 c1 m2 c2:Nat)(w:World):
  Calls prog 151 #[.slice A m1 c1, .slice B m2 c2] w fun e w'=>e= .returned (.func (.func 188) #[] #[.pointer (some ⟨w.heap.size,0,none⟩), .pointer (some ⟨w.heap.size+1,0,none⟩)])∧w'=(w.alloc (.cells #[.slice A m1 c1] 43)).alloc (.cells #[.slice B m2 c2] 43):=by
 go_enter func151,ntmps151;go_wp2;go_ret;exact ⟨rfl,rfl⟩
theorem MH(A B:Option Addr)(m1 c1 m2 c2:Nat)(w:World):
  Calls prog 153 #[.slice A m1 c1, .slice B m2 c2] w fun e w'=>e= .returned (.func (.func 192) #[] #[.pointer (some ⟨w.heap.size,0,none⟩), .pointer (some ⟨w.heap.size+1,0,none⟩)])∧w'=(w.alloc (.cells #[.slice A m1 c1] 104)).alloc (.cells #[.slice B m2 c2] 104):=by
 go_enter func153,ntmps153;go_wp2;go_ret;exact ⟨rfl,rfl⟩
theorem xo.b{n₀ Ba Bb:Nat}{w:World}(hn:n₀≤w.heap.size)(ha:Ba< w.heap.size)(hb:Bb< w.heap.size)(W:World)(l:Nat)(o o':Obj)(hl:w.heap.size≤l)(h:W.heap[l]? =some o)(h1:o.isCells=false)(h2:o.isWalk=false):xo n₀ Ba Bb W (W.putObj l o'):=by
 have hlt:=(Array.getElem?_eq_some_iff.1 h).1;have hg:=grownBy_putObj' W l o';exact ⟨belowK_b hn W l o o' hl h h1 h2,hg.block _ (by omega) (fun e=>by injection e with e;omega),hg.block _ (by omega) (fun e=>by injection e with e;omega)⟩
theorem Yp{W:World}{B:Nat}{t:TypeId}{v:Value}(h:Boxed W B t v){row:Option Nat}(hr: ∀r,row=some r→ ∃o:Obj,W.heap[r]? =some o∧o.isCells=false):some B≠row:=Vq h.cell hr
theorem Acc.keeps{α:Type}{E:Enc α}{base:Nat}{e:TypeId}{X:Nat→Prop}{w w':World}{v:Value}{xs:List α}(h:Acc E base e X w v xs)(hg:w.grownBy w' v.ownBlock):KeepsOthers w w':=KeepsOthers.of_grownBy hg fun j o ej hj=>by
 obtain ⟨_,css,_,_,h3⟩:=h;rcases h3.2 with ⟨rfl,_⟩|⟨g,cap,cur,rfl,_,hgb,_⟩
 ·simp [Value.ownBlock] at ej
 ·obtain rfl:g=j:=by simpa [Value.ownBlock] using ej
  rw [hgb] at hj;cases hj;rfl
theorem Zf{w w':World}(hg:w.grownBy w' none):KeepsOthers w w':=KeepsOthers.of_grownBy hg (by simp)
section
variable {α:Type} {P:Program} {E:Enc α} {base:Nat} {e:TypeId} {X Y:Nat→Prop} {w:World} {v:Value} {xs:List α} {l0 n:Nat}
theorem Xp{cs:List Value}{y:α}{t:TypeId}{bytes:Nat}{ops:Array Oper}{rest:List Oper}{o:Oper}{a:Act}{Q:Exit→Act→World→Prop}(hgd:o.guard=none)(s x:Operand)
  (ho:o.op= .call {callee:= .builtin .append,args:= #[s,x],argTypes:= #[t,t]}) (hE:zM P t e E.size bytes) (hacc:Acc E base e X w v xs) (hs:a.eval s=v) (hx:a.eval x= .slice (some ⟨w.heap.size,0,none⟩) 1 1) (hrep:E.rep (fun g=>X g∧some g≠v.ownBlock) w cs y)
  (hlen:(xs.length+1)*bytes≤140737488355328) (hb:base≤w.heap.size) (hN: ∀g,w.heap.size≤g→X g)
  (h: ∀v' w',Acc E base e X w' v' (xs++ [y])→w.grownBy w' v.ownBlock→Zr w v v'→wpListIn (Fence.wide.inRound l0) n P ops Q rest (a.put o.dst v') w'):wpListIn (Fence.wide.inRound l0) n P ops Q (o::rest) a (w.alloc (.cells cs.toArray e)):=
 wpListIn_plain hgd fun K hK=>VA (R:=fun _ _=>True) (K:=K) (K':=K) (by rw [ho];intro c hc;cases hc) (fun _ _ h=>h) (Xw hE hacc hrep hlen hb hN s x ho hs hx fun v' w' h1 h2 h3=>hK _ _ (h v' w' h1 h2 h3))
end
theorem QI(n:Nat)(hn:1≤n)(Ba Bb:Nat)(va vb:Value)(a b:List (List Int))(X:Nat→Prop)(w₀ w1:World)(G:List Int→Prop)(hG0:G [])(hGa: ∀c∈a,G c)(hGb: ∀c∈b,G c)(h01:Below w₀.heap.size w₀ w1)(hBa:Boxed w1 Ba 43 va)(hBb:Boxed w1 Bb 43 vb)(hA:Sl (zh ze) X w₀ va a)(hB:Sl (zh ze) X w₀ vb b):
  SeqStopsK Fence.wide n prog 188 #[.pointer (some ⟨Ba,0,none⟩), .pointer (some ⟨Bb,0,none⟩)] (fun x:SS ze X w₀ G=> #[x.1.1.1,x.1.2.1]) (xo w₀.heap.size Ba Bb) (fun ys=>ys.map SS.lists=Zs a b) (fun _=>True) (Zs a b).length w1:=fun l J Jx W hW hJ _ hY h0=>
 KS n hn l Ba Bb va vb a b X w₀ G hG0 hGa hGb J Jx hY W hJ (h01.trans (hW.mono h01.size)) ((hW.5 Ba hBa.lt).trans hBa) ((hW.5 Bb hBb.lt).trans hBb) hA hB h0
theorem QH(n:Nat)(hn:1≤n)(Ba Bb:Nat)(va vb:Value)(a b:List Int)(X:Nat→Prop)(w₀ w1:World)(h01:Below w₀.heap.size w₀ w1)(hBa:Boxed w1 Ba 31 va)(hBb:Boxed w1 Bb 31 vb)(hA:Sl ze X w₀ va a)(hB:Sl ze X w₀ vb b):
  SeqStopsK Fence.wide n prog 190 #[.pointer (some ⟨Ba,0,none⟩), .pointer (some ⟨Bb,0,none⟩)] (fun x:UU=> #[.int .u64 x.1.1, .int .u64 x.1.2]) (xo w₀.heap.size Ba Bb) (fun ys=>ys.map Subtype.val=Ua a b) (fun _=>True) (Ua a b).length w1:=fun l J Jx W hW hJ _ hY h0=>
 KR n hn l Ba Bb va vb a b X J Jx w₀ hY W hJ (h01.trans (hW.mono h01.size)) ((hW.5 Ba hBa.lt).trans hBa) ((hW.5 Bb hBb.lt).trans hBb) hA hB h0
theorem QK(n:Nat)(hn:1≤n)(Ba Bb:Nat)(va vb:Value)(a b:List (List (List Int)))(X:Nat→Prop)(w₀ w1:World)(G:List (List Int)→Prop)(hG0:G [])(hGa: ∀c∈a,G c)(hGb: ∀c∈b,G c)(h01:Below w₀.heap.size w₀ w1)(hBa:Boxed w1 Ba 104 va)(hBb:Boxed w1 Bb 104 vb)(hA:Sl (zh (zh ze)) X w₀ va a)(hB:Sl (zh (zh ze)) X w₀ vb b):
  SeqStopsK Fence.wide n prog 192 #[.pointer (some ⟨Ba,0,none⟩), .pointer (some ⟨Bb,0,none⟩)] (fun x:SS (zh ze) X w₀ G=> #[x.1.1.1,x.1.2.1]) (xo w₀.heap.size Ba Bb) (fun ys=>ys.map SS.lists=Zs a b) (fun _=>True) (Zs a b).length w1:=fun l J Jx W hW hJ _ hY h0=>
 KU n hn l Ba Bb va vb a b X w₀ G hG0 hGa hGb J Jx hY W hJ (h01.trans (hW.mono h01.size)) ((hW.5 Ba hBa.lt).trans hBa) ((hW.5 Bb hBb.lt).trans hBb) hA hB h0
end
section
open Go Go.RowKit Go.Shelf
attribute [local go_sem] Oper.semAt_some
theorem xL{P:Program}{ops:Array Oper}{R:Act→World→Prop}{Q:Exit→Act→World→Prop}{l0 n id:Nat}{a:Act}{w:World}(hm:P.follows .mixedOrders=true)(hdf:Ru ops=true)(hR: ∀a w,R a w→Q .normal a w)
  (h:wpAny P .any ops (Cv R) ops.size (Array.replicate ops.size false) a w.drew):(Code.region id ops true).wpIn (Fence.wide.inRound l0) n P Q a w:=
 wpIn_region_any hm (Th (VC hdf) hR _ _ _ _ h)
def NV(p:Par)(x:List Int×List Int):List Int:=(Ua x.1 x.2).map (zj p)
def yy(p:Par)(f r:List (List Int)):List (List Int):=(Zs f r).map (NV p)
abbrev Ts(c:List Int):Prop:=c.length≤100000
theorem Tk(p:Par){ys:List UU}{z:List (Int×Int)}(h:ys.map Subtype.val=z):ys.map (fun y=>zj p y.1)=z.map (zj p):=by
 rw [←h,List.map_map];rfl
theorem Rz(p:Par){X:Nat→Prop}{w₀:World}{G:List Int→Prop}{ys:List (SS ze X w₀ G)}{z:List (List Int×List Int)}(h:ys.map SS.lists=z):ys.map (fun y=>NV p y.lists)=z.map (NV p):=by
 rw [←h,List.map_map];rfl
theorem Ia(n:Nat)(hn:6≤n)(p:Par)(vf vr:Value)(f r:List (List Int))(X:Nat→Prop)(w:World)(hp:p.ok)(hf:Sl (zh ze) X w vf f)(hr:Sl (zh ze) X w vr r)(B1:f.length≤100000)(v0:r.length≤100000)(q0: ∀c∈f,Ts c)(i1: ∀c∈r,Ts c):
  CallsIn Fence.wide n prog 100 #[p.v,vf,vr] w (zN (zh ze) (fun g=>w.heap.size≤g) w (yy p f r)):=by
 have h1:1≤n:=by omega
 have HF:=za hf;have HR:=za hr;have HP:=za hp;obtain ⟨A1,c1,rfl,_,_⟩:=hf.form;obtain ⟨A2,c2,rfl,_,_⟩:=hr.form;clear hf hr hp;have o1:Hid ((Zs f r).length≤100000):=za (by simp [Zs];omega);refine callsIn_of_wp_marks func100 rfl trivial ?_ rfl;simp only [ntmps100,List.size_toArray,List.length_cons,List.length_nil,Nat.reduceAdd,Nat.reduceSub,Array.replicate_succ,Array.replicate_zero,List.push_toArray,List.append_toArray,List.nil_append,List.cons_append]
 gi_wp2_with (refine ⟨trivial, ?_⟩;refine (callsIn_wide.2 (MG _ _ _ _ _ _ _)).mono ?_;rintro e w' ⟨rfl,rfl⟩)
 have C0:(w.alloc (.cells p.cells 39)).heap.size=w.heap.size+1:=by simp
 have B0:((w.alloc (.cells p.cells 39)).alloc (.cells #[.slice none 0 0] 43)).heap.size=w.heap.size+1+1:=by simp
 have Y0:(((w.alloc (.cells p.cells 39)).alloc (.cells #[.slice none 0 0] 43)).alloc (.cells #[.slice A1 f.length c1] 43)).heap.size=w.heap.size+1+1+1:=by simp
 have bP:Bk _ w.heap.size 39 p.cells:=(((Bk.new w 39 p.cells).alloc (.cells #[.slice none 0 0] 43)).alloc (.cells #[.slice A1 f.length c1] 43)).alloc (.cells #[.slice A2 r.length c2] 43);have bO:=((Boxed.new (w.alloc (.cells p.cells 39)) 43 (.slice none 0 0)).alloc (.cells #[.slice A1 f.length c1] 43)).alloc (.cells #[.slice A2 r.length c2] 43);have bA:=(Boxed.new ((w.alloc (.cells p.cells 39)).alloc (.cells #[.slice none 0 0] 43)) 43 (.slice A1 f.length c1)).alloc (.cells #[.slice A2 r.length c2] 43);have bB:=Boxed.new (((w.alloc (.cells p.cells 39)).alloc (.cells #[.slice none 0 0] 43)).alloc (.cells #[.slice A1 f.length c1] 43)) 43 (.slice A2 r.length c2);rw [C0] at bO;rw [B0] at bA;rw [Y0] at bB;have N0:Below w.heap.size w ((((w.alloc (.cells p.cells 39)).alloc (.cells #[.slice none 0 0] 43)).alloc (.cells #[.slice A1 f.length c1] 43)).alloc (.cells #[.slice A2 r.length c2] 43)):=zG (((gAl w _ none).trans (gAl _ _ none)).trans ((gAl _ _ none).trans (gAl _ _ none)));have a1:((((w.alloc (.cells p.cells 39)).alloc (.cells #[.slice none 0 0] 43)).alloc (.cells #[.slice A1 f.length c1] 43)).alloc (.cells #[.slice A2 r.length c2] 43)).heap.size=w.heap.size+4:=by simp
 obtain ⟨W0,h0⟩: ∃W0,(((w.alloc (.cells p.cells 39)).alloc (.cells #[.slice none 0 0] 43)).alloc (.cells #[.slice A1 f.length c1] 43)).alloc (.cells #[.slice A2 r.length c2] 43)=W0:=⟨_,rfl⟩;rw [h0] at bP bO bA bB N0 a1 ⊢;clear h0 C0 B0 Y0;have F1:Hid (∀c∈f,Ts c):=za q0;refine wpIn_rangeFunc_ownH rfl h1 (gf:=188) (lb:= #[.pointer (some ⟨w.heap.size+1+1,0,none⟩), .pointer (some ⟨w.heap.size+1+1+1,0,none⟩)]) rfl trivial (enters_of func188 (by kernel_rfl) rfl)
  (QI (n - 1) (by omega) (w.heap.size+1+1) (w.heap.size+1+1+1) _ _ f r X w W0 Ts (by simp) q0 i1 N0 bA bB HF.z HR.z) xo.trans (xo.b (by omega) (by omega) (by omega)) (Below.refl _ _) (fun _=>rfl)
  (fun pre W=>(∃v,Boxed W (w.heap.size+1) 43 v∧Acc (zh ze) (w.heap.size+4) 31 (fun g=>w.heap.size+4≤g) W v (pre.map fun x=>NV p x.lists))∧Bk W w.heap.size 39 p.cells∧Below w.heap.size w W∧Boxed W (w.heap.size+1+1) 43 (.slice A1 f.length c1)∧Boxed W (w.heap.size+1+1+1) 43 (.slice A2 r.length c2))
  (fun _ _ _=>False)
  (fun pre X Y V0 hs hg g0=>by
   obtain ⟨⟨v,hb,ha⟩,hk,hB,v0,q0⟩:=hs;have j0:=fun r e=>(g0 r e).2
   exact ⟨⟨v,hb.kept hg (Yp hb j0),ha.keepc hg j0⟩,hk.grown hg (Vq (hk.cell 0) j0),hB.grown hg hB.size (fun k e=>by have:=(g0 k e).1;omega),v0.kept hg (Yp v0 j0),q0.kept hg (Yp q0 j0)⟩)
  (fun _ _ _ _ _ hs _ _=>hs)
  ⟨⟨_,bO,Acc.nil _ _ _ _ _⟩,bP,N0,bA,bB⟩
  (fun x a' _=>a'={tmps:= #[p.v, .slice A1 f.length c1, .slice A2 r.length c2, .pointer (some ⟨w.heap.size,0,none⟩),undef,undef, .slice none 0 0, .pointer (some ⟨w.heap.size+1,0,none⟩),x.1.1.1,x.1.2.1,undef,undef,undef, .slice A1 f.length c1, .slice A2 r.length c2, .func (.func 188) #[] #[.pointer (some ⟨w.heap.size+1+1,0,none⟩), .pointer (some ⟨w.heap.size+1+1+1,0,none⟩)],x.1.1.1,x.1.2.1,undef,undef,undef,undef,undef,undef,undef,undef,undef,undef,undef,undef,undef,undef,undef,undef,undef,undef],defers:= []})
  (fun _ _ _ _ _ _ hs _ _=>hs)
  ?assign ?body ?done ?stop
 case assign=>
  rintro l pre x W K hi hK
  gi_wp2
  exact hK _ _ (KeepsFrom.refl _ _) (xo.refl _ _ _ _) hi rfl
 case body=>
  rintro l pre ⟨⟨⟨v1,l1⟩,⟨v2,l2⟩⟩,⟨hv1,hg1⟩,⟨hv2,p0⟩⟩ a' W hl ⟨r0,hr0⟩ ⟨⟨v,hbo,hao⟩,hbp,hbl,hba,hbb⟩ rfl hlt;have k1:Sl ze X w v1 l1:=hv1;have k2:Sl ze X w v2 l2:=hv2;have k3:l1.length≤100000:=hg1;have k4:l2.length≤100000:=p0;have q1:=za k1;have p1:=za k2;obtain ⟨D1,d1,rfl,_,_⟩:=k1.form;obtain ⟨D2,d2,rfl,_,_⟩:=k2.form;have r1:Hid ((Ua l1 l2).length≤100000):=za (by simp [Ua];omega);have s1:Hid (pre.length< 100000):=za (nLl hlt o1.z);clear k1 k2 k3 k4 hlt;dsimp only
  gi_wp2_with (refine ⟨trivial,fun _=>by omega, ?_⟩;refine (CallsIn.inRound l (callsIn_wide.2 (MF _ _ _ _ _ _ _))).mono ?_;rintro e w' ⟨rfl,rfl⟩)
  have C0:(W.alloc (.cells #[.slice none 0 0] 31)).heap.size=W.heap.size+1:=by simp
  have B0:((W.alloc (.cells #[.slice none 0 0] 31)).alloc (.cells #[.slice D1 l1.length d1] 31)).heap.size=W.heap.size+1+1:=by simp
  have bL:=((Boxed.new W 31 (.slice none 0 0)).alloc (.cells #[.slice D1 l1.length d1] 31)).alloc (.cells #[.slice D2 l2.length d2] 31);have bC:=(Boxed.new (W.alloc (.cells #[.slice none 0 0] 31)) 31 (.slice D1 l1.length d1)).alloc (.cells #[.slice D2 l2.length d2] 31);have bD:=Boxed.new ((W.alloc (.cells #[.slice none 0 0] 31)).alloc (.cells #[.slice D1 l1.length d1] 31)) 31 (.slice D2 l2.length d2);rw [C0] at bC;rw [B0] at bD;have p0:W.grownBy (((W.alloc (.cells #[.slice none 0 0] 31)).alloc (.cells #[.slice D1 l1.length d1] 31)).alloc (.cells #[.slice D2 l2.length d2] 31)) none:=((gAl W _ none).trans (gAl _ _ none)).trans (gAl _ _ none);have K0:(((W.alloc (.cells #[.slice none 0 0] 31)).alloc (.cells #[.slice D1 l1.length d1] 31)).alloc (.cells #[.slice D2 l2.length d2] 31)).heap.size=W.heap.size+3:=by simp
  obtain ⟨W2,e0⟩: ∃W2,((W.alloc (.cells #[.slice none 0 0] 31)).alloc (.cells #[.slice D1 l1.length d1] 31)).alloc (.cells #[.slice D2 l2.length d2] 31)=W2:=⟨_,rfl⟩;rw [e0] at bL bC bD p0 K0 ⊢;clear e0 C0 B0;have w0:=hbl.size;have M0:Below w.heap.size w W2:=hbl.trans ((zG p0).mono w0);have j0:W2.heap[l]? =some (.loop r0):=(p0.block l (Array.getElem?_eq_some_iff.1 hr0).1 (by simp)).trans hr0;have L0:KeepsFrom W0.heap.size W W2:=(Zf p0).from _;refine wpIn_rangeFunc_ownN (l₀:=l) (r₀:=r0) rfl j0 (by omega) (gf:=190) (lb:= #[.pointer (some ⟨W.heap.size+1,0,none⟩), .pointer (some ⟨W.heap.size+1+1,0,none⟩)]) rfl trivial (enters_of func190 (by kernel_rfl) rfl)
   ((QH (n - 1 - 1 - 1) (by omega) (W.heap.size+1) (W.heap.size+1+1) _ _ l1 l2 X w W2 M0 bC bD q1.z p1.z).inRound l) xo.trans (xo.b (by omega) (by omega) (by omega)) (Below.refl _ _) (fun _=>rfl)
   (fun pre' W'=>(∃u,Boxed W' W.heap.size 31 u∧Acc ze (W.heap.size+3) 22 (fun g=>W.heap.size+3≤g) W' u (pre'.map fun y=>zj p y.1))∧Below W.heap.size W W'∧KeepsFrom W0.heap.size W W'∧Boxed W' (W.heap.size+1) 31 (.slice D1 l1.length d1)∧Boxed W' (W.heap.size+1+1) 31 (.slice D2 l2.length d2))
   (fun _ _ _=>False)
   (fun pre' X' Y V0 hs hg g0=>by
    obtain ⟨⟨u,hb,ha⟩,hB,hK,v0,q0⟩:=hs;have j0:=fun r e=>(g0 r e).2
    exact ⟨⟨u,hb.kept hg (Yp hb j0),ha.keepc hg j0⟩,hB.grown hg hB.size (fun k e=>by have:=(g0 k e).1;omega),ownFrom_keepsFrom (B':=W2.heap.size) p0.size () X' Y V0 hK hg g0,v0.kept hg (Yp v0 j0),q0.kept hg (Yp q0 j0)⟩)
   (fun _ _ _ _ _ hs _ _=>hs)
   ⟨⟨_,bL,Acc.nil _ _ _ _ _⟩,zG p0,L0,bC,bD⟩
   (fun y a'' _=>a''={tmps:= #[p.v, .slice A1 f.length c1, .slice A2 r.length c2, .pointer (some ⟨w.heap.size,0,none⟩),undef,undef, .slice none 0 0, .pointer (some ⟨w.heap.size+1,0,none⟩), .slice D1 l1.length d1, .slice D2 l2.length d2, .pointer (some ⟨W.heap.size,0,none⟩), .int .u64 y.1.1, .int .u64 y.1.2, .slice A1 f.length c1, .slice A2 r.length c2, .func (.func 188) #[] #[.pointer (some ⟨w.heap.size+1+1,0,none⟩), .pointer (some ⟨w.heap.size+1+1+1,0,none⟩)], .slice D1 l1.length d1, .slice D2 l2.length d2, .slice D1 l1.length d1, .slice D2 l2.length d2, .func (.func 190) #[] #[.pointer (some ⟨W.heap.size+1,0,none⟩), .pointer (some ⟨W.heap.size+1+1,0,none⟩)], .int .u64 y.1.1, .int .u64 y.1.2,undef,undef,undef,undef,undef,undef,undef,undef,undef,undef,undef,undef,undef],defers:= []})
   (fun _ _ _ _ _ _ hs _ _=>hs)
   ?assign2 ?body2 ?done2 ?stop2
  case assign2=>
   rintro lq pre' y W' K hi hK
   gi_wp2
   exact hK _ _ (KeepsFrom.refl _ _) (xo.refl _ _ _ _) hi rfl
  case body2=>
   rintro lq pre' ⟨⟨y1,y2⟩,hu1,hu2⟩ a'' W' hl2 _ ⟨⟨u,hbu,hau⟩,hBW,hKF,hbc,hbd⟩ rfl hlt2;have Q0:Hid (U64 y1):=za hu1;have P0:Hid (U64 y2):=za hu2;obtain ⟨A3,c3,e3,_,_⟩:=hau.sl.form;rw [lLm] at e3;subst e3;have U0:=za hau;have T0:=za hbu;have X0:=za hbc;have E0:=za hbd;have x0:=za hBW;have S0:=za hKF;have g1:W.heap.size< W'.heap.size:=hbu.lt;have f1:w.heap.size< W'.heap.size:=by omega
   have R0:Hid (W.heap.size+3≤W'.heap.size):=za (by have:=hbd.lt;omega);have z1:=(hbp.grown (zl hBW) (by simp)).prule;have cU:=hbu.cell;have J0:Hid (U64 (zj p (y1,y2))):=za (xf _ _);have A0:Hid (((pre'.map fun y:UU=>zj p y.1).length+1)*8≤140737488355328):=za (by rw [lLm];have:=r1.z;omega);clear hau hbc hbd hBW hKF hbu hlt2;have FIN: ∀(w3 w4:World) (A4:Option Addr) (n4 c4:Nat),W'.grownBy w3 none→w3.grownBy w4 (Value.slice A3 pre'.length c3).ownBlock→Acc ze (W.heap.size+3) 22 (fun g=>W.heap.size+3≤g) w3 (.slice A3 pre'.length c3) (pre'.map fun y:UU=>zj p y.1)→Acc ze (W.heap.size+3) 22 (fun g=>W.heap.size+3≤g) w4 (.slice A4 n4 c4) ((pre'.map fun y:UU=>zj p y.1)++ [zj p (y1,y2)])→Boxed w4 W.heap.size 31 (.slice A3 pre'.length c3)→(fun w5:World=>KeepsFrom W2.heap.size W' w5∧xo w.heap.size (W.heap.size+1) (W.heap.size+1+1) W' w5∧(∃u,Boxed w5 W.heap.size 31 u∧Acc ze (W.heap.size+3) 22 (fun g=>W.heap.size+3≤g) w5 u ((pre'++ [(⟨(y1,y2),hu1,hu2⟩:UU)]).map fun y=>zj p y.1))∧Below W.heap.size W w5∧KeepsFrom W0.heap.size W w5∧Boxed w5 (W.heap.size+1) 31 (.slice D1 l1.length d1)∧Boxed w5 (W.heap.size+1+1) 31 (.slice D2 l2.length d2)) (w4.setCell ⟨W.heap.size,0,none⟩ (.slice A4 n4 c4)):=by
    intro w3 w4 A4 n4 c4 z0 G0 O0 n1 b0;have y0: ∀k,k< W.heap.size+3→some k≠(Value.slice A3 pre'.length c3).ownBlock:=fun k hk e=>by have:=(O0.lt k e.symm).1;omega
    have F0: ∀k,(Value.slice A3 pre'.length c3).ownBlock=some k→W.heap.size+3≤k:=fun k e=>(O0.lt k e).1
    have I0:KeepsOthers W' (w4.setCell ⟨W.heap.size,0,none⟩ (.slice A4 n4 c4)):=((Zf z0).trans (O0.keeps G0)).trans (KeepsOthers.setCell _ _ _);have b1:=((X0.z.kept z0 (by simp)).kept G0 (y0 _ (by omega))).other (B':=W.heap.size) (by omega) (.slice A4 n4 c4);have b2:=((E0.z.kept z0 (by simp)).kept G0 (y0 _ (by omega))).other (B':=W.heap.size) (by omega) (.slice A4 n4 c4);have j1:W'.heap.size≤w3.heap.size:=z0.size;refine ⟨I0.from _,⟨(((Below.refl _ W').grown z0 (by omega) (by simp)).grown G0 (by omega) (fun k e=>by have:=F0 k e;omega)).setCell (p:=⟨W.heap.size,0,none⟩) w0 _,Eq.trans b1 (Eq.symm X0.z),Eq.trans b2 (Eq.symm E0.z)⟩,⟨_,b0.set _, ?_⟩,((x0.z.grown z0 (by omega) (by simp)).grown G0 (by omega) (fun k e=>by have:=F0 k e;omega)).setCell (p:=⟨W.heap.size,0,none⟩) (nRf _) _,S0.z.trans (I0.from _),b1,b2⟩;rw [lMa];exact n1.keep (grownBy_setCell' w4 W.heap.size _) (fun g hg e=>by injection e with e;omega)
   dsimp only
   gi_wp2
   refine xL (l0:=lq) (R:=fun _ w5=>KeepsFrom W2.heap.size W' w5∧xo w.heap.size (W.heap.size+1) (W.heap.size+1+1) W' w5∧(∃u,Boxed w5 W.heap.size 31 u∧Acc ze (W.heap.size+3) 22 (fun g=>W.heap.size+3≤g) w5 u ((pre'++ [(⟨(y1,y2),hu1,hu2⟩:UU)]).map fun y=>zj p y.1))∧Below W.heap.size W w5∧KeepsFrom W0.heap.size W w5∧Boxed w5 (W.heap.size+1) 31 (.slice D1 l1.length d1)∧Boxed w5 (W.heap.size+1+1) 31 (.slice D2 l2.length d2)) (by kernel_rfl) (by kernel_rfl) (fun a w h=>h) ?_;refine wpAny_take (i:=2) (oi:=({dst:=some 25,op:=Op.move (Operand.tmp 11),type:=22,pos:= "pedersen.go:41",after:= #[],guard:=none}:Oper)) (v:= ?vq1) rfl (by kernel_rfl) (by kernel_rfl) (by kernel_rfl) (fun _ _ _ h=>h) (Or.inl ⟨by rfl, ?hq1⟩) ?rq1
   case hq1=>(intro w;go_simp;first|done|with_reducible rfl)
   try simp only [Act.put,sAa,sAb,sAc]
   refine wpAny_take (i:=3) (oi:=({dst:=some 26,op:=Op.move (Operand.tmp 12),type:=22,pos:= "pedersen.go:41",after:= #[],guard:=none}:Oper)) (v:= ?vq2) rfl (by kernel_rfl) (by kernel_rfl) (by kernel_rfl) (fun _ _ _ h=>h) (Or.inl ⟨by rfl, ?hq2⟩) ?rq2
   case hq2=>(intro w;go_simp;first|done|with_reducible rfl)
   try simp only [Act.put,sAa,sAb,sAc]
   refine wpAny_take (i:=4) (oi:=({dst:=some 27,op:=Op.build 153 #[(0,Operand.tmp 25),(1,Operand.tmp 26)],type:=153,pos:= "pedersen.go:41",after:= #[{on:=2,ground:=Ground.data},{on:=3,ground:=Ground.data}],guard:=none}:Oper)) (v:= ?vq3) rfl (by kernel_rfl) (by kernel_rfl) (by kernel_rfl) (fun _ _ _ h=>h) (Or.inl ⟨by rfl, ?hq3⟩) ?rq3
   case hq3=>(intro w;go_simp;first|done|with_reducible rfl)
   try simp only [Act.put,sAa,sAb,sAc]
   refine wpAny_ready (rs:= [0,1]) (by kernel_rfl) (by simp) ?_;refine AllReady.cons (o:=({dst:=some 23,op:=Op.load 31 (Operand.tmp 10),type:=31,pos:= "pedersen.go:41",after:= #[],guard:=none}:Oper)) rfl (fun K hK=> ?_) ?_
   ·skip
    go_simp;refine hK _ _ ?_;clear hK K
    try simp only [Act.put,sAa,sAb,sAc]
    refine wpAny_ready (rs:= [1]) (by kernel_rfl) (by simp) ?_;refine AllReady.cons (o:=({dst:=some 24,op:=Op.load 39 (Operand.tmp 3),type:=39,pos:= "pedersen.go:41",after:= #[],guard:=none}:Oper)) rfl (fun K hK=> ?_) AllReady.nil;go_simp;refine hK _ _ ?_;clear hK K
    try simp only [Act.put,sAa,sAb,sAc]
    refine wpAny_ready (rs:= [5]) (by kernel_rfl) (by simp) ?_;refine AllReady.cons (o:=({dst:=some 28,op:=Op.call {callee:=Callee.value (Operand.func 95),args:= #[Operand.tmp 24,Operand.tmp 27],argTypes:= #[39,153]},type:=22,pos:= "pedersen.go:41",after:= #[{on:=1,ground:=Ground.data},{on:=4,ground:=Ground.data}],guard:=none}:Oper)) rfl (fun K hK=> ?_) AllReady.nil;go_simp
    (go_at_call 95;(with_reducible refine (ZS p (y1,y2) _ HP.z Q0.z P0.z).mono ?_);rintro e w3 ⟨rfl,hg3⟩)
    have d0:Hid (W'.grownBy w3 none):=za ((zb W' 1).trans hg3);have i0:=za (U0.z.kept d0.z);have m0:=za (T0.z.kept d0.z (by simp));have k0:Hid (W.heap.size+3≤w3.heap.size):=za (nLT R0.z d0.z.size);have s0:Hid (∀g,w3.heap.size≤g→W.heap.size+3≤g):=za (fun g hg=>nLT k0.z hg);have t0:Hid (some W.heap.size≠(Value.slice A3 pre'.length c3).ownBlock):=za (fun e=>by have:=(i0.z.lt _ e.symm).1;omega);have Z0:=m0.z.cell;have D0:=(m0.z.alloc (.cells #[.int .u64 (zj p (y1,y2))] 22)).cell;clear hg3;dsimp only;refine hK _ _ ?_;clear hK K
    try simp only [Act.put,sAa,sAb,sAc]
    refine wpAny_ready (rs:= [6]) (by kernel_rfl) (by simp) ?_;refine AllReady.cons (o:=({dst:=some 29,op:=Op.buildSlice 31 1 #[(0,Operand.tmp 28)],type:=31,pos:= "pedersen.go:41",after:= #[{on:=5,ground:=Ground.data}],guard:=none}:Oper)) rfl (fun K hK=> ?_) AllReady.nil;go_simp;refine hK _ _ ?_;clear hK K
    try simp only [Act.put,sAa,sAb,sAc]
    refine wpAny_ready (rs:= [7]) (by kernel_rfl) (by simp) ?_;refine AllReady.cons (o:=({dst:=some 30,op:=Op.call {callee:=Callee.builtin Builtin.append,args:= #[Operand.tmp 23,Operand.tmp 29],argTypes:= #[31,31]},type:=31,pos:= "pedersen.go:41",after:= #[{on:=0,ground:=Ground.data},{on:=6,ground:=Ground.data},{on:=5,ground:=Ground.chain}],guard:=none}:Oper)) rfl (fun K hK=> ?_) AllReady.nil;refine xr rfl (.tmp 23) (.tmp 29) rfl (E:=ze) (y:=zj p (y1,y2)) xD i0.z rfl rfl ⟨rfl,J0.z⟩ A0.z k0.z s0.z ?_;intro v4 w4 a0 f0 _;obtain ⟨A4,c4,e4,_,_⟩:=a0.sl.form;generalize (List.map (fun y:UU=>zj p y.1) pre'++ [zj p (y1,y2)]).length=n4 at e4;subst e4;have o0:=za a0;have c0:=za f0;have b0:=m0.z.kept c0.z t0.z;have cB4:=b0.cell;have fB4:=b0.frozen;have n0:=za b0;clear a0 f0 b0;refine hK _ _ ?_;clear hK K
    try simp only [Act.put,sAa,sAb,sAc]
    refine wpAny_ready (rs:= [8]) (by kernel_rfl) (by simp) ?_;refine AllReady.cons (o:=({dst:=none,op:=Op.store 31 (Operand.tmp 10) (Operand.tmp 30),type:=0,pos:= "pedersen.go:41",after:= #[{on:=7,ground:=Ground.data},{on:=7,ground:=Ground.chain},{on:=0,ground:=Ground.phase},{on:=1,ground:=Ground.phase},{on:=2,ground:=Ground.phase},{on:=3,ground:=Ground.phase},{on:=4,ground:=Ground.phase},{on:=5,ground:=Ground.phase},{on:=6,ground:=Ground.phase},{on:=7,ground:=Ground.phase}],guard:=none}:Oper)) rfl (fun K hK=> ?_) AllReady.nil;go_simp;refine hK _ _ ?_;clear hK K
    try simp only [Act.put,sAa,sAb,sAc]
    refine wpAny_done (by kernel_rfl) ?_ _;exact ⟨rfl,FIN w3 w4 A4 n4 c4 d0.z c0.z i0.z o0.z n0.z⟩
   refine AllReady.cons (o:=({dst:=some 24,op:=Op.load 39 (Operand.tmp 3),type:=39,pos:= "pedersen.go:41",after:= #[],guard:=none}:Oper)) rfl (fun K hK=> ?_) AllReady.nil;go_simp;refine hK _ _ ?_;clear hK K
   try simp only [Act.put,sAa,sAb,sAc]
   refine wpAny_ready (rs:= [0,5]) (by kernel_rfl) (by simp) ?_;refine AllReady.cons (o:=({dst:=some 23,op:=Op.load 31 (Operand.tmp 10),type:=31,pos:= "pedersen.go:41",after:= #[],guard:=none}:Oper)) rfl (fun K hK=> ?_) ?_
   ·skip
    go_simp;refine hK _ _ ?_;clear hK K
    try simp only [Act.put,sAa,sAb,sAc]
    refine wpAny_ready (rs:= [5]) (by kernel_rfl) (by simp) ?_;refine AllReady.cons (o:=({dst:=some 28,op:=Op.call {callee:=Callee.value (Operand.func 95),args:= #[Operand.tmp 24,Operand.tmp 27],argTypes:= #[39,153]},type:=22,pos:= "pedersen.go:41",after:= #[{on:=1,ground:=Ground.data},{on:=4,ground:=Ground.data}],guard:=none}:Oper)) rfl (fun K hK=> ?_) AllReady.nil;go_simp
    (go_at_call 95;(with_reducible refine (ZS p (y1,y2) _ HP.z Q0.z P0.z).mono ?_);rintro e w3 ⟨rfl,hg3⟩)
    have d0:Hid (W'.grownBy w3 none):=za ((zb W' 1).trans hg3);have i0:=za (U0.z.kept d0.z);have m0:=za (T0.z.kept d0.z (by simp));have k0:Hid (W.heap.size+3≤w3.heap.size):=za (nLT R0.z d0.z.size);have s0:Hid (∀g,w3.heap.size≤g→W.heap.size+3≤g):=za (fun g hg=>nLT k0.z hg);have t0:Hid (some W.heap.size≠(Value.slice A3 pre'.length c3).ownBlock):=za (fun e=>by have:=(i0.z.lt _ e.symm).1;omega);have Z0:=m0.z.cell;have D0:=(m0.z.alloc (.cells #[.int .u64 (zj p (y1,y2))] 22)).cell;clear hg3;dsimp only;refine hK _ _ ?_;clear hK K
    try simp only [Act.put,sAa,sAb,sAc]
    refine wpAny_ready (rs:= [6]) (by kernel_rfl) (by simp) ?_;refine AllReady.cons (o:=({dst:=some 29,op:=Op.buildSlice 31 1 #[(0,Operand.tmp 28)],type:=31,pos:= "pedersen.go:41",after:= #[{on:=5,ground:=Ground.data}],guard:=none}:Oper)) rfl (fun K hK=> ?_) AllReady.nil;go_simp;refine hK _ _ ?_;clear hK K
    try simp only [Act.put,sAa,sAb,sAc]
    refine wpAny_ready (rs:= [7]) (by kernel_rfl) (by simp) ?_;refine AllReady.cons (o:=({dst:=some 30,op:=Op.call {callee:=Callee.builtin Builtin.append,args:= #[Operand.tmp 23,Operand.tmp 29],argTypes:= #[31,31]},type:=31,pos:= "pedersen.go:41",after:= #[{on:=0,ground:=Ground.data},{on:=6,ground:=Ground.data},{on:=5,ground:=Ground.chain}],guard:=none}:Oper)) rfl (fun K hK=> ?_) AllReady.nil;refine xr rfl (.tmp 23) (.tmp 29) rfl (E:=ze) (y:=zj p (y1,y2)) xD i0.z rfl rfl ⟨rfl,J0.z⟩ A0.z k0.z s0.z ?_;intro v4 w4 a0 f0 _;obtain ⟨A4,c4,e4,_,_⟩:=a0.sl.form;generalize (List.map (fun y:UU=>zj p y.1) pre'++ [zj p (y1,y2)]).length=n4 at e4;subst e4;have o0:=za a0;have c0:=za f0;have b0:=m0.z.kept c0.z t0.z;have cB4:=b0.cell;have fB4:=b0.frozen;have n0:=za b0;clear a0 f0 b0;refine hK _ _ ?_;clear hK K
    try simp only [Act.put,sAa,sAb,sAc]
    refine wpAny_ready (rs:= [8]) (by kernel_rfl) (by simp) ?_;refine AllReady.cons (o:=({dst:=none,op:=Op.store 31 (Operand.tmp 10) (Operand.tmp 30),type:=0,pos:= "pedersen.go:41",after:= #[{on:=7,ground:=Ground.data},{on:=7,ground:=Ground.chain},{on:=0,ground:=Ground.phase},{on:=1,ground:=Ground.phase},{on:=2,ground:=Ground.phase},{on:=3,ground:=Ground.phase},{on:=4,ground:=Ground.phase},{on:=5,ground:=Ground.phase},{on:=6,ground:=Ground.phase},{on:=7,ground:=Ground.phase}],guard:=none}:Oper)) rfl (fun K hK=> ?_) AllReady.nil;go_simp;refine hK _ _ ?_;clear hK K
    try simp only [Act.put,sAa,sAb,sAc]
    refine wpAny_done (by kernel_rfl) ?_ _;exact ⟨rfl,FIN w3 w4 A4 n4 c4 d0.z c0.z i0.z o0.z n0.z⟩
   refine AllReady.cons (o:=({dst:=some 28,op:=Op.call {callee:=Callee.value (Operand.func 95),args:= #[Operand.tmp 24,Operand.tmp 27],argTypes:= #[39,153]},type:=22,pos:= "pedersen.go:41",after:= #[{on:=1,ground:=Ground.data},{on:=4,ground:=Ground.data}],guard:=none}:Oper)) rfl (fun K hK=> ?_) AllReady.nil;go_simp
   (go_at_call 95;(with_reducible refine (ZS p (y1,y2) _ HP.z Q0.z P0.z).mono ?_);rintro e w3 ⟨rfl,hg3⟩)
   have d0:Hid (W'.grownBy w3 none):=za ((zb W' 1).trans hg3);have i0:=za (U0.z.kept d0.z);have m0:=za (T0.z.kept d0.z (by simp));have k0:Hid (W.heap.size+3≤w3.heap.size):=za (nLT R0.z d0.z.size);have s0:Hid (∀g,w3.heap.size≤g→W.heap.size+3≤g):=za (fun g hg=>nLT k0.z hg);have t0:Hid (some W.heap.size≠(Value.slice A3 pre'.length c3).ownBlock):=za (fun e=>by have:=(i0.z.lt _ e.symm).1;omega);have Z0:=m0.z.cell;have D0:=(m0.z.alloc (.cells #[.int .u64 (zj p (y1,y2))] 22)).cell;clear hg3;dsimp only;refine hK _ _ ?_;clear hK K
   try simp only [Act.put,sAa,sAb,sAc]
   refine wpAny_ready (rs:= [0,6]) (by kernel_rfl) (by simp) ?_;refine AllReady.cons (o:=({dst:=some 23,op:=Op.load 31 (Operand.tmp 10),type:=31,pos:= "pedersen.go:41",after:= #[],guard:=none}:Oper)) rfl (fun K hK=> ?_) ?_
   ·skip
    go_simp;refine hK _ _ ?_;clear hK K
    try simp only [Act.put,sAa,sAb,sAc]
    refine wpAny_ready (rs:= [6]) (by kernel_rfl) (by simp) ?_;refine AllReady.cons (o:=({dst:=some 29,op:=Op.buildSlice 31 1 #[(0,Operand.tmp 28)],type:=31,pos:= "pedersen.go:41",after:= #[{on:=5,ground:=Ground.data}],guard:=none}:Oper)) rfl (fun K hK=> ?_) AllReady.nil;go_simp;refine hK _ _ ?_;clear hK K
    try simp only [Act.put,sAa,sAb,sAc]
    refine wpAny_ready (rs:= [7]) (by kernel_rfl) (by simp) ?_;refine AllReady.cons (o:=({dst:=some 30,op:=Op.call {callee:=Callee.builtin Builtin.append,args:= #[Operand.tmp 23,Operand.tmp 29],argTypes:= #[31,31]},type:=31,pos:= "pedersen.go:41",after:= #[{on:=0,ground:=Ground.data},{on:=6,ground:=Ground.data},{on:=5,ground:=Ground.chain}],guard:=none}:Oper)) rfl (fun K hK=> ?_) AllReady.nil;refine xr rfl (.tmp 23) (.tmp 29) rfl (E:=ze) (y:=zj p (y1,y2)) xD i0.z rfl rfl ⟨rfl,J0.z⟩ A0.z k0.z s0.z ?_;intro v4 w4 a0 f0 _;obtain ⟨A4,c4,e4,_,_⟩:=a0.sl.form;generalize (List.map (fun y:UU=>zj p y.1) pre'++ [zj p (y1,y2)]).length=n4 at e4;subst e4;have o0:=za a0;have c0:=za f0;have b0:=m0.z.kept c0.z t0.z;have cB4:=b0.cell;have fB4:=b0.frozen;have n0:=za b0;clear a0 f0 b0;refine hK _ _ ?_;clear hK K
    try simp only [Act.put,sAa,sAb,sAc]
    refine wpAny_ready (rs:= [8]) (by kernel_rfl) (by simp) ?_;refine AllReady.cons (o:=({dst:=none,op:=Op.store 31 (Operand.tmp 10) (Operand.tmp 30),type:=0,pos:= "pedersen.go:41",after:= #[{on:=7,ground:=Ground.data},{on:=7,ground:=Ground.chain},{on:=0,ground:=Ground.phase},{on:=1,ground:=Ground.phase},{on:=2,ground:=Ground.phase},{on:=3,ground:=Ground.phase},{on:=4,ground:=Ground.phase},{on:=5,ground:=Ground.phase},{on:=6,ground:=Ground.phase},{on:=7,ground:=Ground.phase}],guard:=none}:Oper)) rfl (fun K hK=> ?_) AllReady.nil;go_simp;refine hK _ _ ?_;clear hK K
    try simp only [Act.put,sAa,sAb,sAc]
    refine wpAny_done (by kernel_rfl) ?_ _;exact ⟨rfl,FIN w3 w4 A4 n4 c4 d0.z c0.z i0.z o0.z n0.z⟩
   refine AllReady.cons (o:=({dst:=some 29,op:=Op.buildSlice 31 1 #[(0,Operand.tmp 28)],type:=31,pos:= "pedersen.go:41",after:= #[{on:=5,ground:=Ground.data}],guard:=none}:Oper)) rfl (fun K hK=> ?_) AllReady.nil;go_simp;refine hK _ _ ?_;clear hK K
   try simp only [Act.put,sAa,sAb,sAc]
   refine wpAny_ready (rs:= [0]) (by kernel_rfl) (by simp) ?_;refine AllReady.cons (o:=({dst:=some 23,op:=Op.load 31 (Operand.tmp 10),type:=31,pos:= "pedersen.go:41",after:= #[],guard:=none}:Oper)) rfl (fun K hK=> ?_) AllReady.nil;go_simp;refine hK _ _ ?_;clear hK K
   try simp only [Act.put,sAa,sAb,sAc]
   refine wpAny_ready (rs:= [7]) (by kernel_rfl) (by simp) ?_;refine AllReady.cons (o:=({dst:=some 30,op:=Op.call {callee:=Callee.builtin Builtin.append,args:= #[Operand.tmp 23,Operand.tmp 29],argTypes:= #[31,31]},type:=31,pos:= "pedersen.go:41",after:= #[{on:=0,ground:=Ground.data},{on:=6,ground:=Ground.data},{on:=5,ground:=Ground.chain}],guard:=none}:Oper)) rfl (fun K hK=> ?_) AllReady.nil;refine xr rfl (.tmp 23) (.tmp 29) rfl (E:=ze) (y:=zj p (y1,y2)) xD i0.z rfl rfl ⟨rfl,J0.z⟩ A0.z k0.z s0.z ?_;intro v4 w4 a0 f0 _;obtain ⟨A4,c4,e4,_,_⟩:=a0.sl.form;generalize (List.map (fun y:UU=>zj p y.1) pre'++ [zj p (y1,y2)]).length=n4 at e4;subst e4;have o0:=za a0;have c0:=za f0;have b0:=m0.z.kept c0.z t0.z;have cB4:=b0.cell;have fB4:=b0.frozen;have n0:=za b0;clear a0 f0 b0;refine hK _ _ ?_;clear hK K
   try simp only [Act.put,sAa,sAb,sAc]
   refine wpAny_ready (rs:= [8]) (by kernel_rfl) (by simp) ?_;refine AllReady.cons (o:=({dst:=none,op:=Op.store 31 (Operand.tmp 10) (Operand.tmp 30),type:=0,pos:= "pedersen.go:41",after:= #[{on:=7,ground:=Ground.data},{on:=7,ground:=Ground.chain},{on:=0,ground:=Ground.phase},{on:=1,ground:=Ground.phase},{on:=2,ground:=Ground.phase},{on:=3,ground:=Ground.phase},{on:=4,ground:=Ground.phase},{on:=5,ground:=Ground.phase},{on:=6,ground:=Ground.phase},{on:=7,ground:=Ground.phase}],guard:=none}:Oper)) rfl (fun K hK=> ?_) AllReady.nil;go_simp;refine hK _ _ ?_;clear hK K
   try simp only [Act.put,sAa,sAb,sAc]
   refine wpAny_done (by kernel_rfl) ?_ _;exact ⟨rfl,FIN w3 w4 A4 n4 c4 d0.z c0.z i0.z o0.z n0.z⟩
  case done2=>
   rintro ys' W' hys ⟨⟨u,hbu,hau⟩,hBW,hKF,hbc,hbd⟩;rw [Tk p hys] at hau;obtain ⟨A3,c3,e3,_,_⟩:=hau.sl.form;rw [lLm] at e3;subst e3;obtain ⟨A5,c5,e5,_,_⟩:=hao.sl.form;rw [lLm] at e5;subst e5;have hG:=zl hBW;have HG:=za hG;have u0:=hbo.kept hG (by simp);have H0:=za (hao.kept hG);have u1:=za u0;have t1:=za hao.lt;have cO:=u0.cell;have cU:=hbu.cell;have C1:w.heap.size+4≤W.heap.size:=by have:=hbb.lt;omega
   have HU:Hid (Sl ze (fun g=>w.heap.size+4≤g∧some g≠(Value.slice A5 pre.length c5).ownBlock) W' (.slice A3 (Ua l1 l2).length c3) (NV p (l1,l2))):=za (hau.sl.more (fun g _ hg=>⟨by omega,fun e=>by have:=(t1.z g e.symm).2;omega⟩));have A0:Hid (((pre.map fun x:SS ze X w Ts=>NV p x.lists).length+1)*24≤140737488355328):=za (by rw [lLm];have:=s1.z;omega);have k0:Hid (w.heap.size+4≤W'.heap.size):=za (by have:=hG.size;omega);have s0:Hid (∀g,W'.heap.size≤g→w.heap.size+4≤g):=za (fun g hg=>nLT k0.z hg);have S0:=za hKF;have x0:=za hBW;have t0:Hid (some (w.heap.size+1)≠(Value.slice A5 pre.length c5).ownBlock):=za (fun e=>by have:=(H0.z.lt _ e.symm).1;omega);clear hau hao u0 hBW hKF hbc hbd
   gi_wp2_with (gi_at_builtin;refine Xp rfl (.tmp 31) (.tmp 33) rfl (E:=zh ze) (y:=NV p (l1,l2)) Zo H0.z rfl rfl ⟨_,rfl,HU.z⟩ A0.z k0.z s0.z ?_)
   intro v4 w4 a0 f0 _;obtain ⟨A4,c4,e4,_,_⟩:=a0.sl.form;generalize (List.map (fun x:SS ze X w Ts=>NV p x.lists) pre++ [NV p (l1,l2)]).length=n4 at e4;subst e4;have o0:=za a0;have c0:=za f0;have b0:=u1.z.kept c0.z t0.z;have cB4:=b0.cell;have fB4:=b0.frozen;have n0:=za b0;clear a0 f0 b0
   gi_wp2
   have y0: ∀k,k< w.heap.size+4→some k≠(Value.slice A5 pre.length c5).ownBlock:=fun k hk e=>by have:=(H0.z.lt k e.symm).1;omega
   have F0: ∀k,(Value.slice A5 pre.length c5).ownBlock=some k→w.heap.size+4≤k:=fun k e=>(H0.z.lt k e).1
   have I0:KeepsFrom W0.heap.size W (w4.setCell ⟨w.heap.size+1,0,none⟩ (.slice A4 n4 c4)):=S0.z.trans ((H0.z.keeps c0.z).trans (KeepsOthers.setCell _ _ _)|>.from _);have b1:=((hba.kept HG.z (by simp)).kept c0.z (y0 _ (by omega))).other (B':=w.heap.size+1) (by omega) (.slice A4 n4 c4);have b2:=((hbb.kept HG.z (by simp)).kept c0.z (y0 _ (by omega))).other (B':=w.heap.size+1) (by omega) (.slice A4 n4 c4);have j1:W.heap.size≤W'.heap.size:=HG.z.size;refine ⟨I0,⟨(((Below.refl _ W).grown HG.z (by omega) (by simp)).grown c0.z (by omega) (fun k e=>by have:=F0 k e;omega)).setCell (p:=⟨w.heap.size+1,0,none⟩) (by simp) _,Eq.trans b1 (Eq.symm hba),Eq.trans b2 (Eq.symm hbb)⟩,⟨_,n0.z.set _, ?_⟩, ?_,((hbl.grown HG.z (by omega) (by simp)).grown c0.z (by omega) (fun k e=>by have:=F0 k e;omega)).setCell (p:=⟨w.heap.size+1,0,none⟩) (by simp) _,b1,b2⟩
   ·rw [lMa];exact o0.z.keep (grownBy_setCell' w4 (w.heap.size+1) _) (fun g hg e=>by injection e with e;omega)
   ·exact ((hbp.grown HG.z (by simp)).grown c0.z (y0 _ (by omega))).grown (grownBy_setCell' w4 (w.heap.size+1) _) (fun e=>by injection e with e;omega)
  case stop2=>
   rintro c pre' W' _ h;exact h.elim
 case done=>
  rintro D zs W hD hzs ⟨⟨v,hbo,hao⟩,hbp,hbl,hba,hbb⟩ hK;have cO:=hbo.cell;rw [Rz p hzs] at hao;obtain ⟨A3,c3,e3,_,_⟩:=hao.sl.form;rw [lLm] at e3;subst e3
  gi_wp2
  refine ⟨by simp, .inl ⟨_,_,rfl,run_takeDeferred hK, ?_⟩⟩;refine ⟨_,results_tmp rfl _ _ _, .slice A3 (Zs f r).length c3,rfl, ?_, ?_⟩
  ·exact (hao.sl.keepc (grownBy_putObj' W D _) (fun r e=>⟨.deferred (some []),by cases e;exact hK,rfl⟩)).more (Y:=fun g=>w.heap.size≤g) (fun g _ h=>nLT (Nat.le_add_right _ 4) h)
  ·exact zl (hbl.trans (belowK_b (w:=w) (nRf _) W D _ _ (by omega) hK rfl rfl))
 case stop=>
  rintro D c pre W _ _ h _;exact h.elim
end
section
open Go Go.RowKit Go.Shelf
attribute [local go_sem] Oper.semAt_some
def Ep(p:Par)(f r:List (List (List Int))):List (List (List Int)):=(Zs f r).map fun x=>yy p x.1 x.2
abbrev ZN(m:List (List Int)):Prop:=m.length≤100000∧ ∀c∈m,c.length≤100000
theorem Ry(p:Par){X:Nat→Prop}{w₀:World}{G:List (List Int)→Prop}{ys:List (SS (zh ze) X w₀ G)}{z:List (List (List Int)×List (List Int))}(h:ys.map SS.lists=z):ys.map (fun y=>yy p y.lists.1 y.lists.2)=z.map (fun x=>yy p x.1 x.2):=by
 rw [←h,List.map_map];rfl
theorem Ji(n:Nat)(hn:6≤n)(p:Par)(vf vr:Value)(f r:List (List (List Int)))(X:Nat→Prop)(w:World)(hp:p.ok)(hf:Sl (zh (zh ze)) X w vf f)(hr:Sl (zh (zh ze)) X w vr r)(Z0:f.length≤100000)(C0:r.length≤100000)(A0: ∀c∈f,ZN c)(Q0: ∀c∈r,ZN c):
  CallsIn Fence.wide n prog 102 #[p.v,vf,vr] w (zN (zh (zh ze)) (fun g=>w.heap.size≤g) w (Ep p f r)):=by
 have h1:1≤n:=by omega
 have HF:=za hf;have HR:=za hr;have HP:=za hp;obtain ⟨A1,c1,rfl,_,_⟩:=hf.form;obtain ⟨A2,c2,rfl,_,_⟩:=hr.form;clear hf hr hp;have T0:Hid ((Zs f r).length≤100000):=za (by simp [Zs];omega);refine callsIn_of_wp_marks func102 rfl trivial ?_ rfl;simp only [ntmps102,List.size_toArray,List.length_cons,List.length_nil,Nat.reduceAdd,Nat.reduceSub,Array.replicate_succ,Array.replicate_zero,List.push_toArray,List.append_toArray,List.nil_append,List.cons_append]
 gi_wp2_with (refine ⟨trivial, ?_⟩;refine (callsIn_wide.2 (MH _ _ _ _ _ _ _)).mono ?_;rintro e w' ⟨rfl,rfl⟩)
 have K0:(w.alloc (.cells p.cells 39)).heap.size=w.heap.size+1:=by simp
 have J0:((w.alloc (.cells p.cells 39)).alloc (.cells #[.slice none 0 0] 104)).heap.size=w.heap.size+1+1:=by simp
 have d0:(((w.alloc (.cells p.cells 39)).alloc (.cells #[.slice none 0 0] 104)).alloc (.cells #[.slice A1 f.length c1] 104)).heap.size=w.heap.size+1+1+1:=by simp
 have bP:Bk _ w.heap.size 39 p.cells:=(((Bk.new w 39 p.cells).alloc (.cells #[.slice none 0 0] 104)).alloc (.cells #[.slice A1 f.length c1] 104)).alloc (.cells #[.slice A2 r.length c2] 104);have bO:=((Boxed.new (w.alloc (.cells p.cells 39)) 104 (.slice none 0 0)).alloc (.cells #[.slice A1 f.length c1] 104)).alloc (.cells #[.slice A2 r.length c2] 104);have bA:=(Boxed.new ((w.alloc (.cells p.cells 39)).alloc (.cells #[.slice none 0 0] 104)) 104 (.slice A1 f.length c1)).alloc (.cells #[.slice A2 r.length c2] 104);have bB:=Boxed.new (((w.alloc (.cells p.cells 39)).alloc (.cells #[.slice none 0 0] 104)).alloc (.cells #[.slice A1 f.length c1] 104)) 104 (.slice A2 r.length c2);rw [K0] at bO;rw [J0] at bA;rw [d0] at bB;have F0:Below w.heap.size w ((((w.alloc (.cells p.cells 39)).alloc (.cells #[.slice none 0 0] 104)).alloc (.cells #[.slice A1 f.length c1] 104)).alloc (.cells #[.slice A2 r.length c2] 104)):=zG (((gAl w _ none).trans (gAl _ _ none)).trans ((gAl _ _ none).trans (gAl _ _ none)));have O0:((((w.alloc (.cells p.cells 39)).alloc (.cells #[.slice none 0 0] 104)).alloc (.cells #[.slice A1 f.length c1] 104)).alloc (.cells #[.slice A2 r.length c2] 104)).heap.size=w.heap.size+4:=by simp
 obtain ⟨W0,M0⟩: ∃W0,(((w.alloc (.cells p.cells 39)).alloc (.cells #[.slice none 0 0] 104)).alloc (.cells #[.slice A1 f.length c1] 104)).alloc (.cells #[.slice A2 r.length c2] 104)=W0:=⟨_,rfl⟩;rw [M0] at bP bO bA bB F0 O0 ⊢;clear M0 K0 J0 d0;have w0:Hid (∀c∈f,ZN c):=za A0;refine wpIn_rangeFunc_ownH rfl h1 (gf:=192) (lb:= #[.pointer (some ⟨w.heap.size+1+1,0,none⟩), .pointer (some ⟨w.heap.size+1+1+1,0,none⟩)]) rfl trivial (enters_of func192 (by kernel_rfl) rfl)
  (QK (n - 1) (by omega) (w.heap.size+1+1) (w.heap.size+1+1+1) _ _ f r X w W0 ZN ⟨by simp,by simp⟩ A0 Q0 F0 bA bB HF.z HR.z) xo.trans (xo.b (by omega) (by omega) (by omega)) (Below.refl _ _) (fun _=>rfl)
  (fun pre W=>(∃v,Boxed W (w.heap.size+1) 104 v∧Acc (zh (zh ze)) (w.heap.size+4) 43 (fun g=>w.heap.size+4≤g) W v (pre.map fun x=>yy p x.lists.1 x.lists.2))∧Bk W w.heap.size 39 p.cells∧Below w.heap.size w W∧Boxed W (w.heap.size+1+1) 104 (.slice A1 f.length c1)∧Boxed W (w.heap.size+1+1+1) 104 (.slice A2 r.length c2))
  (fun _ _ _=>False)
  (fun pre X Y V0 hs hg v0=>by
   obtain ⟨⟨v,hb,ha⟩,hk,hB,C0,A0⟩:=hs;have y0:=fun r e=>(v0 r e).2
   exact ⟨⟨v,hb.kept hg (Yp hb y0),ha.keepc hg y0⟩,hk.grown hg (Vq (hk.cell 0) y0),hB.grown hg hB.size (fun k e=>by have:=(v0 k e).1;omega),C0.kept hg (Yp C0 y0),A0.kept hg (Yp A0 y0)⟩)
  (fun _ _ _ _ _ hs _ _=>hs)
  ⟨⟨_,bO,Acc.nil _ _ _ _ _⟩,bP,F0,bA,bB⟩
  (fun x a' _=>a'={tmps:= #[p.v, .slice A1 f.length c1, .slice A2 r.length c2, .pointer (some ⟨w.heap.size,0,none⟩),undef,undef, .slice none 0 0, .pointer (some ⟨w.heap.size+1,0,none⟩),x.1.1.1,x.1.2.1, .slice A1 f.length c1, .slice A2 r.length c2, .func (.func 192) #[] #[.pointer (some ⟨w.heap.size+1+1,0,none⟩), .pointer (some ⟨w.heap.size+1+1+1,0,none⟩)],x.1.1.1,x.1.2.1,undef,undef,undef,undef,undef,undef,undef,undef],defers:= []})
  (fun _ _ _ _ _ _ hs _ _=>hs)
  ?assign ?body ?done ?stop
 case assign=>
  rintro l pre x W K hi hK
  gi_wp2
  exact hK _ _ (KeepsFrom.refl _ _) (xo.refl _ _ _ _) hi rfl
 case body=>
  rintro lq pre ⟨⟨⟨v1,l1⟩,⟨v2,l2⟩⟩,⟨hv1,hg1⟩,⟨hv2,hg2⟩⟩ a' W hl _ ⟨⟨v,hbo,hao⟩,hbp,hbl,hba,hbb⟩ rfl hlt;have k1:Sl (zh ze) X w v1 l1:=hv1;have k2:Sl (zh ze) X w v2 l2:=hv2;have k3:l1.length≤100000∧ ∀c∈l1,c.length≤100000:=hg1;have k4:l2.length≤100000∧ ∀c∈l2,c.length≤100000:=hg2;have h0:=hbl.size;have n0:Hid (∀w',W.grownBy w' none→Calls prog 100 #[p.v,v1,v2] w' (zN (zh ze) (fun g=>w'.heap.size≤g) w' (yy p l1 l2))):=za (fun w' hw=>callsIn_wide.1 (Ia 6 (nRf _) p v1 v2 l1 l2 X w' HP.z (k1.kept ((zl hbl).trans hw)) (k2.kept ((zl hbl).trans hw)) k3.1 k4.1 k3.2 k4.2));obtain ⟨D1,d1,rfl,_,_⟩:=k1.form;obtain ⟨D2,d2,rfl,_,_⟩:=k2.form;have U0:Hid (pre.length< 100000):=za (nLl hlt T0.z);obtain ⟨A5,c5,e5,_,_⟩:=hao.sl.form;rw [lLm] at e5;subst e5;have u0:=za hao;have H0:Hid (W.grownBy W.drew none):=za (zb W 1);have I0:=za hbo;have P0:w.heap.size+1< W.heap.size:=hbo.lt;have r0:Hid (w.heap.size+4≤W.heap.size):=za (by have:=hbb.lt;omega);have Y0:=hbp.prule;have cO:=hbo.cell;have B0:Hid (((pre.map fun x:SS (zh ze) X w ZN=>yy p x.lists.1 x.lists.2).length+1)*24≤140737488355328):=za (by rw [lLm];have:=U0.z;omega);have FIN: ∀(w3 w4:World) (A4:Option Addr) (n4 c4:Nat),W.grownBy w3 none→w3.grownBy w4 (Value.slice A5 pre.length c5).ownBlock→Acc (zh (zh ze)) (w.heap.size+4) 43 (fun g=>w.heap.size+4≤g) w3 (.slice A5 pre.length c5) (pre.map fun x:SS (zh ze) X w ZN=>yy p x.lists.1 x.lists.2)→Acc (zh (zh ze)) (w.heap.size+4) 43 (fun g=>w.heap.size+4≤g) w4 (.slice A4 n4 c4) ((pre.map fun x:SS (zh ze) X w ZN=>yy p x.lists.1 x.lists.2)++ [yy p l1 l2])→Boxed w4 (w.heap.size+1) 104 (.slice A5 pre.length c5)→(fun w5:World=>KeepsFrom W0.heap.size W w5∧xo w.heap.size (w.heap.size+1+1) (w.heap.size+1+1+1) W w5∧(∃u,Boxed w5 (w.heap.size+1) 104 u∧Acc (zh (zh ze)) (w.heap.size+4) 43 (fun g=>w.heap.size+4≤g) w5 u ((pre++ [(⟨((.slice D1 l1.length d1,l1),(.slice D2 l2.length d2,l2)),⟨hv1,hg1⟩,⟨hv2,hg2⟩⟩:SS (zh ze) X w ZN)]).map fun x=>yy p x.lists.1 x.lists.2))∧Bk w5 w.heap.size 39 p.cells∧Below w.heap.size w w5∧Boxed w5 (w.heap.size+1+1) 104 (.slice A1 f.length c1)∧Boxed w5 (w.heap.size+1+1+1) 104 (.slice A2 r.length c2)) (w4.setCell ⟨w.heap.size+1,0,none⟩ (.slice A4 n4 c4)):=by
   intro w3 w4 A4 n4 c4 m0 q0 G0 S0 b0;have D0: ∀k,k< w.heap.size+4→some k≠(Value.slice A5 pre.length c5).ownBlock:=fun k hk e=>by have:=(G0.lt k e.symm).1;omega
   have N0: ∀k,(Value.slice A5 pre.length c5).ownBlock=some k→w.heap.size+4≤k:=fun k e=>(G0.lt k e).1
   have R0:KeepsOthers W (w4.setCell ⟨w.heap.size+1,0,none⟩ (.slice A4 n4 c4)):=((Zf m0).trans (G0.keeps q0)).trans (KeepsOthers.setCell _ _ _);have b1:=((hba.kept m0 (by simp)).kept q0 (D0 _ (by omega))).other (B':=w.heap.size+1) (by omega) (.slice A4 n4 c4);have b2:=((hbb.kept m0 (by simp)).kept q0 (D0 _ (by omega))).other (B':=w.heap.size+1) (by omega) (.slice A4 n4 c4);have e0:W.heap.size≤w3.heap.size:=m0.size;refine ⟨R0.from _,⟨(((Below.refl _ W).grown m0 (by omega) (by simp)).grown q0 (by omega) (fun k e=>by have:=N0 k e;omega)).setCell (p:=⟨w.heap.size+1,0,none⟩) (by simp) _,Eq.trans b1 (Eq.symm hba),Eq.trans b2 (Eq.symm hbb)⟩,⟨_,b0.set _, ?_⟩, ?_,((hbl.grown m0 (by omega) (by simp)).grown q0 (by omega) (fun k e=>by have:=N0 k e;omega)).setCell (p:=⟨w.heap.size+1,0,none⟩) (by simp) _,b1,b2⟩
   ·rw [lMa];exact S0.keep (grownBy_setCell' w4 (w.heap.size+1) _) (fun g hg e=>by injection e with e;omega)
   ·exact ((hbp.grown m0 (by simp)).grown q0 (D0 _ (by omega))).grown (grownBy_setCell' w4 (w.heap.size+1) _) (fun e=>by injection e with e;omega)
  clear k1 k2 k3 k4 hlt;dsimp only
  gi_wp2
  refine xL (l0:=lq) (R:=fun _ w5=>KeepsFrom W0.heap.size W w5∧xo w.heap.size (w.heap.size+1+1) (w.heap.size+1+1+1) W w5∧(∃u,Boxed w5 (w.heap.size+1) 104 u∧Acc (zh (zh ze)) (w.heap.size+4) 43 (fun g=>w.heap.size+4≤g) w5 u ((pre++ [(⟨((.slice D1 l1.length d1,l1),(.slice D2 l2.length d2,l2)),⟨hv1,hg1⟩,⟨hv2,hg2⟩⟩:SS (zh ze) X w ZN)]).map fun x=>yy p x.lists.1 x.lists.2))∧Bk w5 w.heap.size 39 p.cells∧Below w.heap.size w w5∧Boxed w5 (w.heap.size+1+1) 104 (.slice A1 f.length c1)∧Boxed w5 (w.heap.size+1+1+1) 104 (.slice A2 r.length c2)) (by kernel_rfl) (by kernel_rfl) (fun a w h=>h) ?_;refine wpAny_take (i:=2) (oi:=({dst:=some 17,op:=Op.move (Operand.tmp 8),type:=43,pos:= "pedersen.go:80",after:= #[],guard:=none}:Oper)) (v:= ?vq1) rfl (by kernel_rfl) (by kernel_rfl) (by kernel_rfl) (fun _ _ _ h=>h) (Or.inl ⟨by rfl, ?hq1⟩) ?rq1
  case hq1=>(intro w;go_simp;first|done|with_reducible rfl)
  try simp only [Act.put,sAa,sAb,sAc]
  refine wpAny_take (i:=3) (oi:=({dst:=some 18,op:=Op.move (Operand.tmp 9),type:=43,pos:= "pedersen.go:80",after:= #[],guard:=none}:Oper)) (v:= ?vq2) rfl (by kernel_rfl) (by kernel_rfl) (by kernel_rfl) (fun _ _ _ h=>h) (Or.inl ⟨by rfl, ?hq2⟩) ?rq2
  case hq2=>(intro w;go_simp;first|done|with_reducible rfl)
  try simp only [Act.put,sAa,sAb,sAc]
  refine wpAny_ready (rs:= [0,1]) (by kernel_rfl) (by simp) ?_;refine AllReady.cons (o:=({dst:=some 15,op:=Op.load 104 (Operand.tmp 7),type:=104,pos:= "pedersen.go:80",after:= #[],guard:=none}:Oper)) rfl (fun K hK=> ?_) ?_
  ·skip
   go_simp;refine hK _ _ ?_;clear hK K
   try simp only [Act.put,sAa,sAb,sAc]
   refine wpAny_ready (rs:= [1]) (by kernel_rfl) (by simp) ?_;refine AllReady.cons (o:=({dst:=some 16,op:=Op.load 39 (Operand.tmp 3),type:=39,pos:= "pedersen.go:80",after:= #[],guard:=none}:Oper)) rfl (fun K hK=> ?_) AllReady.nil;go_simp;refine hK _ _ ?_;clear hK K
   try simp only [Act.put,sAa,sAb,sAc]
   refine wpAny_ready (rs:= [4]) (by kernel_rfl) (by simp) ?_;refine AllReady.cons (o:=({dst:=some 19,op:=Op.call {callee:=Callee.value (Operand.func 100),args:= #[Operand.tmp 16,Operand.tmp 17,Operand.tmp 18],argTypes:= #[39,43,43]},type:=43,pos:= "pedersen.go:80",after:= #[{on:=1,ground:=Ground.data},{on:=2,ground:=Ground.data},{on:=3,ground:=Ground.data}],guard:=none}:Oper)) rfl (fun K hK=> ?_) AllReady.nil;go_simp
   (go_at_call 100;(with_reducible refine (n0.z _ H0.z).mono ?_);rintro e w3 ⟨v3,rfl,d0,hg3⟩)
   obtain ⟨A6,c6,e6,_,_⟩:=d0.form;generalize (yy p l1 l2).length=n6 at e6;subst e6;have c0:Hid (W.grownBy w3 none):=za ((zb W 1).trans hg3);have f0:=za (u0.z.kept c0.z);have g0:=za (I0.z.kept c0.z (by simp));have k0:Hid (w.heap.size+4≤w3.heap.size):=za (nLT r0.z c0.z.size);have s0:Hid (∀g,w3.heap.size≤g→w.heap.size+4≤g):=za (fun g hg=>nLT k0.z hg);have t0:Hid (some (w.heap.size+1)≠(Value.slice A5 pre.length c5).ownBlock):=za (fun e=>by have:=(f0.z.lt _ e.symm).1;omega);have HU:Hid (Sl (zh ze) (fun g=>w.heap.size+4≤g∧some g≠(Value.slice A5 pre.length c5).ownBlock) w3 (.slice A6 n6 c6) (yy p l1 l2)):=za (d0.more (fun g _ hg=>⟨nLT r0.z hg,fun e=>by have h1:=(u0.z.lt g e.symm).2;have h2:W.heap.size≤g:=hg;omega⟩));have L0:=g0.z.cell;have z0:=(g0.z.alloc (.cells #[.slice A6 n6 c6] 43)).cell;clear hg3 d0;dsimp only;refine hK _ _ ?_;clear hK K
   try simp only [Act.put,sAa,sAb,sAc]
   refine wpAny_ready (rs:= [5]) (by kernel_rfl) (by simp) ?_;refine AllReady.cons (o:=({dst:=some 20,op:=Op.buildSlice 104 1 #[(0,Operand.tmp 19)],type:=104,pos:= "pedersen.go:80",after:= #[{on:=4,ground:=Ground.data}],guard:=none}:Oper)) rfl (fun K hK=> ?_) AllReady.nil;go_simp;refine hK _ _ ?_;clear hK K
   try simp only [Act.put,sAa,sAb,sAc]
   refine wpAny_ready (rs:= [6]) (by kernel_rfl) (by simp) ?_;refine AllReady.cons (o:=({dst:=some 21,op:=Op.call {callee:=Callee.builtin Builtin.append,args:= #[Operand.tmp 15,Operand.tmp 20],argTypes:= #[104,104]},type:=104,pos:= "pedersen.go:80",after:= #[{on:=0,ground:=Ground.data},{on:=5,ground:=Ground.data},{on:=4,ground:=Ground.chain}],guard:=none}:Oper)) rfl (fun K hK=> ?_) AllReady.nil;refine xr rfl (.tmp 15) (.tmp 20) rfl (E:=zh (zh ze)) (y:=yy p l1 l2) Xc f0.z rfl rfl ⟨_,rfl,HU.z⟩ B0.z k0.z s0.z ?_;intro v4 w4 a0 i0 _;obtain ⟨A4,c4,e4,_,_⟩:=a0.sl.form;generalize (List.map (fun x:SS (zh ze) X w ZN=>yy p x.lists.1 x.lists.2) pre++ [yy p l1 l2]).length=n4 at e4;subst e4;have p0:=za a0;have j0:=za i0;have b0:=g0.z.kept j0.z t0.z;have cB4:=b0.cell;have fB4:=b0.frozen;have o0:=za b0;clear a0 i0 b0;refine hK _ _ ?_;clear hK K
   try simp only [Act.put,sAa,sAb,sAc]
   refine wpAny_ready (rs:= [7]) (by kernel_rfl) (by simp) ?_;refine AllReady.cons (o:=({dst:=none,op:=Op.store 104 (Operand.tmp 7) (Operand.tmp 21),type:=0,pos:= "pedersen.go:80",after:= #[{on:=6,ground:=Ground.data},{on:=6,ground:=Ground.chain},{on:=0,ground:=Ground.phase},{on:=1,ground:=Ground.phase},{on:=2,ground:=Ground.phase},{on:=3,ground:=Ground.phase},{on:=4,ground:=Ground.phase},{on:=5,ground:=Ground.phase},{on:=6,ground:=Ground.phase}],guard:=none}:Oper)) rfl (fun K hK=> ?_) AllReady.nil;go_simp;refine hK _ _ ?_;clear hK K
   try simp only [Act.put,sAa,sAb,sAc]
   refine wpAny_done (by kernel_rfl) ?_ _;exact ⟨rfl,FIN w3 w4 A4 n4 c4 c0.z j0.z f0.z p0.z o0.z⟩
  refine AllReady.cons (o:=({dst:=some 16,op:=Op.load 39 (Operand.tmp 3),type:=39,pos:= "pedersen.go:80",after:= #[],guard:=none}:Oper)) rfl (fun K hK=> ?_) AllReady.nil;go_simp;refine hK _ _ ?_;clear hK K
  try simp only [Act.put,sAa,sAb,sAc]
  refine wpAny_ready (rs:= [0,4]) (by kernel_rfl) (by simp) ?_;refine AllReady.cons (o:=({dst:=some 15,op:=Op.load 104 (Operand.tmp 7),type:=104,pos:= "pedersen.go:80",after:= #[],guard:=none}:Oper)) rfl (fun K hK=> ?_) ?_
  ·skip
   go_simp;refine hK _ _ ?_;clear hK K
   try simp only [Act.put,sAa,sAb,sAc]
   refine wpAny_ready (rs:= [4]) (by kernel_rfl) (by simp) ?_;refine AllReady.cons (o:=({dst:=some 19,op:=Op.call {callee:=Callee.value (Operand.func 100),args:= #[Operand.tmp 16,Operand.tmp 17,Operand.tmp 18],argTypes:= #[39,43,43]},type:=43,pos:= "pedersen.go:80",after:= #[{on:=1,ground:=Ground.data},{on:=2,ground:=Ground.data},{on:=3,ground:=Ground.data}],guard:=none}:Oper)) rfl (fun K hK=> ?_) AllReady.nil;go_simp
   (go_at_call 100;(with_reducible refine (n0.z _ H0.z).mono ?_);rintro e w3 ⟨v3,rfl,d0,hg3⟩)
   obtain ⟨A6,c6,e6,_,_⟩:=d0.form;generalize (yy p l1 l2).length=n6 at e6;subst e6;have c0:Hid (W.grownBy w3 none):=za ((zb W 1).trans hg3);have f0:=za (u0.z.kept c0.z);have g0:=za (I0.z.kept c0.z (by simp));have k0:Hid (w.heap.size+4≤w3.heap.size):=za (nLT r0.z c0.z.size);have s0:Hid (∀g,w3.heap.size≤g→w.heap.size+4≤g):=za (fun g hg=>nLT k0.z hg);have t0:Hid (some (w.heap.size+1)≠(Value.slice A5 pre.length c5).ownBlock):=za (fun e=>by have:=(f0.z.lt _ e.symm).1;omega);have HU:Hid (Sl (zh ze) (fun g=>w.heap.size+4≤g∧some g≠(Value.slice A5 pre.length c5).ownBlock) w3 (.slice A6 n6 c6) (yy p l1 l2)):=za (d0.more (fun g _ hg=>⟨nLT r0.z hg,fun e=>by have h1:=(u0.z.lt g e.symm).2;have h2:W.heap.size≤g:=hg;omega⟩));have L0:=g0.z.cell;have z0:=(g0.z.alloc (.cells #[.slice A6 n6 c6] 43)).cell;clear hg3 d0;dsimp only;refine hK _ _ ?_;clear hK K
   try simp only [Act.put,sAa,sAb,sAc]
   refine wpAny_ready (rs:= [5]) (by kernel_rfl) (by simp) ?_;refine AllReady.cons (o:=({dst:=some 20,op:=Op.buildSlice 104 1 #[(0,Operand.tmp 19)],type:=104,pos:= "pedersen.go:80",after:= #[{on:=4,ground:=Ground.data}],guard:=none}:Oper)) rfl (fun K hK=> ?_) AllReady.nil;go_simp;refine hK _ _ ?_;clear hK K
   try simp only [Act.put,sAa,sAb,sAc]
   refine wpAny_ready (rs:= [6]) (by kernel_rfl) (by simp) ?_;refine AllReady.cons (o:=({dst:=some 21,op:=Op.call {callee:=Callee.builtin Builtin.append,args:= #[Operand.tmp 15,Operand.tmp 20],argTypes:= #[104,104]},type:=104,pos:= "pedersen.go:80",after:= #[{on:=0,ground:=Ground.data},{on:=5,ground:=Ground.data},{on:=4,ground:=Ground.chain}],guard:=none}:Oper)) rfl (fun K hK=> ?_) AllReady.nil;refine xr rfl (.tmp 15) (.tmp 20) rfl (E:=zh (zh ze)) (y:=yy p l1 l2) Xc f0.z rfl rfl ⟨_,rfl,HU.z⟩ B0.z k0.z s0.z ?_;intro v4 w4 a0 i0 _;obtain ⟨A4,c4,e4,_,_⟩:=a0.sl.form;generalize (List.map (fun x:SS (zh ze) X w ZN=>yy p x.lists.1 x.lists.2) pre++ [yy p l1 l2]).length=n4 at e4;subst e4;have p0:=za a0;have j0:=za i0;have b0:=g0.z.kept j0.z t0.z;have cB4:=b0.cell;have fB4:=b0.frozen;have o0:=za b0;clear a0 i0 b0;refine hK _ _ ?_;clear hK K
   try simp only [Act.put,sAa,sAb,sAc]
   refine wpAny_ready (rs:= [7]) (by kernel_rfl) (by simp) ?_;refine AllReady.cons (o:=({dst:=none,op:=Op.store 104 (Operand.tmp 7) (Operand.tmp 21),type:=0,pos:= "pedersen.go:80",after:= #[{on:=6,ground:=Ground.data},{on:=6,ground:=Ground.chain},{on:=0,ground:=Ground.phase},{on:=1,ground:=Ground.phase},{on:=2,ground:=Ground.phase},{on:=3,ground:=Ground.phase},{on:=4,ground:=Ground.phase},{on:=5,ground:=Ground.phase},{on:=6,ground:=Ground.phase}],guard:=none}:Oper)) rfl (fun K hK=> ?_) AllReady.nil;go_simp;refine hK _ _ ?_;clear hK K
   try simp only [Act.put,sAa,sAb,sAc]
   refine wpAny_done (by kernel_rfl) ?_ _;exact ⟨rfl,FIN w3 w4 A4 n4 c4 c0.z j0.z f0.z p0.z o0.z⟩
  refine AllReady.cons (o:=({dst:=some 19,op:=Op.call {callee:=Callee.value (Operand.func 100),args:= #[Operand.tmp 16,Operand.tmp 17,Operand.tmp 18],argTypes:= #[39,43,43]},type:=43,pos:= "pedersen.go:80",after:= #[{on:=1,ground:=Ground.data},{on:=2,ground:=Ground.data},{on:=3,ground:=Ground.data}],guard:=none}:Oper)) rfl (fun K hK=> ?_) AllReady.nil;go_simp
  (go_at_call 100;(with_reducible refine (n0.z _ H0.z).mono ?_);rintro e w3 ⟨v3,rfl,d0,hg3⟩)
  obtain ⟨A6,c6,e6,_,_⟩:=d0.form;generalize (yy p l1 l2).length=n6 at e6;subst e6;have c0:Hid (W.grownBy w3 none):=za ((zb W 1).trans hg3);have f0:=za (u0.z.kept c0.z);have g0:=za (I0.z.kept c0.z (by simp));have k0:Hid (w.heap.size+4≤w3.heap.size):=za (nLT r0.z c0.z.size);have s0:Hid (∀g,w3.heap.size≤g→w.heap.size+4≤g):=za (fun g hg=>nLT k0.z hg);have t0:Hid (some (w.heap.size+1)≠(Value.slice A5 pre.length c5).ownBlock):=za (fun e=>by have:=(f0.z.lt _ e.symm).1;omega);have HU:Hid (Sl (zh ze) (fun g=>w.heap.size+4≤g∧some g≠(Value.slice A5 pre.length c5).ownBlock) w3 (.slice A6 n6 c6) (yy p l1 l2)):=za (d0.more (fun g _ hg=>⟨nLT r0.z hg,fun e=>by have h1:=(u0.z.lt g e.symm).2;have h2:W.heap.size≤g:=hg;omega⟩));have L0:=g0.z.cell;have z0:=(g0.z.alloc (.cells #[.slice A6 n6 c6] 43)).cell;clear hg3 d0;dsimp only;refine hK _ _ ?_;clear hK K
  try simp only [Act.put,sAa,sAb,sAc]
  refine wpAny_ready (rs:= [0,5]) (by kernel_rfl) (by simp) ?_;refine AllReady.cons (o:=({dst:=some 15,op:=Op.load 104 (Operand.tmp 7),type:=104,pos:= "pedersen.go:80",after:= #[],guard:=none}:Oper)) rfl (fun K hK=> ?_) ?_
  ·skip
   go_simp;refine hK _ _ ?_;clear hK K
   try simp only [Act.put,sAa,sAb,sAc]
   refine wpAny_ready (rs:= [5]) (by kernel_rfl) (by simp) ?_;refine AllReady.cons (o:=({dst:=some 20,op:=Op.buildSlice 104 1 #[(0,Operand.tmp 19)],type:=104,pos:= "pedersen.go:80",after:= #[{on:=4,ground:=Ground.data}],guard:=none}:Oper)) rfl (fun K hK=> ?_) AllReady.nil;go_simp;refine hK _ _ ?_;clear hK K
   try simp only [Act.put,sAa,sAb,sAc]
   refine wpAny_ready (rs:= [6]) (by kernel_rfl) (by simp) ?_;refine AllReady.cons (o:=({dst:=some 21,op:=Op.call {callee:=Callee.builtin Builtin.append,args:= #[Operand.tmp 15,Operand.tmp 20],argTypes:= #[104,104]},type:=104,pos:= "pedersen.go:80",after:= #[{on:=0,ground:=Ground.data},{on:=5,ground:=Ground.data},{on:=4,ground:=Ground.chain}],guard:=none}:Oper)) rfl (fun K hK=> ?_) AllReady.nil;refine xr rfl (.tmp 15) (.tmp 20) rfl (E:=zh (zh ze)) (y:=yy p l1 l2) Xc f0.z rfl rfl ⟨_,rfl,HU.z⟩ B0.z k0.z s0.z ?_;intro v4 w4 a0 i0 _;obtain ⟨A4,c4,e4,_,_⟩:=a0.sl.form;generalize (List.map (fun x:SS (zh ze) X w ZN=>yy p x.lists.1 x.lists.2) pre++ [yy p l1 l2]).length=n4 at e4;subst e4;have p0:=za a0;have j0:=za i0;have b0:=g0.z.kept j0.z t0.z;have cB4:=b0.cell;have fB4:=b0.frozen;have o0:=za b0;clear a0 i0 b0;refine hK _ _ ?_;clear hK K
   try simp only [Act.put,sAa,sAb,sAc]
   refine wpAny_ready (rs:= [7]) (by kernel_rfl) (by simp) ?_;refine AllReady.cons (o:=({dst:=none,op:=Op.store 104 (Operand.tmp 7) (Operand.tmp 21),type:=0,pos:= "pedersen.go:80",after:= #[{on:=6,ground:=Ground.data},{on:=6,ground:=Ground.chain},{on:=0,ground:=Ground.phase},{on:=1,ground:=Ground.phase},{on:=2,ground:=Ground.phase},{on:=3,ground:=Ground.phase},{on:=4,ground:=Ground.phase},{on:=5,ground:=Ground.phase},{on:=6,ground:=Ground.phase}],guard:=none}:Oper)) rfl (fun K hK=> ?_) AllReady.nil;go_simp;refine hK _ _ ?_;clear hK K
   try simp only [Act.put,sAa,sAb,sAc]
   refine wpAny_done (by kernel_rfl) ?_ _;exact ⟨rfl,FIN w3 w4 A4 n4 c4 c0.z j0.z f0.z p0.z o0.z⟩
  refine AllReady.cons (o:=({dst:=some 20,op:=Op.buildSlice 104 1 #[(0,Operand.tmp 19)],type:=104,pos:= "pedersen.go:80",after:= #[{on:=4,ground:=Ground.data}],guard:=none}:Oper)) rfl (fun K hK=> ?_) AllReady.nil;go_simp;refine hK _ _ ?_;clear hK K
  try simp only [Act.put,sAa,sAb,sAc]
  refine wpAny_ready (rs:= [0]) (by kernel_rfl) (by simp) ?_;refine AllReady.cons (o:=({dst:=some 15,op:=Op.load 104 (Operand.tmp 7),type:=104,pos:= "pedersen.go:80",after:= #[],guard:=none}:Oper)) rfl (fun K hK=> ?_) AllReady.nil;go_simp;refine hK _ _ ?_;clear hK K
  try simp only [Act.put,sAa,sAb,sAc]
  refine wpAny_ready (rs:= [6]) (by kernel_rfl) (by simp) ?_;refine AllReady.cons (o:=({dst:=some 21,op:=Op.call {callee:=Callee.builtin Builtin.append,args:= #[Operand.tmp 15,Operand.tmp 20],argTypes:= #[104,104]},type:=104,pos:= "pedersen.go:80",after:= #[{on:=0,ground:=Ground.data},{on:=5,ground:=Ground.data},{on:=4,ground:=Ground.chain}],guard:=none}:Oper)) rfl (fun K hK=> ?_) AllReady.nil;refine xr rfl (.tmp 15) (.tmp 20) rfl (E:=zh (zh ze)) (y:=yy p l1 l2) Xc f0.z rfl rfl ⟨_,rfl,HU.z⟩ B0.z k0.z s0.z ?_;intro v4 w4 a0 i0 _;obtain ⟨A4,c4,e4,_,_⟩:=a0.sl.form;generalize (List.map (fun x:SS (zh ze) X w ZN=>yy p x.lists.1 x.lists.2) pre++ [yy p l1 l2]).length=n4 at e4;subst e4;have p0:=za a0;have j0:=za i0;have b0:=g0.z.kept j0.z t0.z;have cB4:=b0.cell;have fB4:=b0.frozen;have o0:=za b0;clear a0 i0 b0;refine hK _ _ ?_;clear hK K
  try simp only [Act.put,sAa,sAb,sAc]
  refine wpAny_ready (rs:= [7]) (by kernel_rfl) (by simp) ?_;refine AllReady.cons (o:=({dst:=none,op:=Op.store 104 (Operand.tmp 7) (Operand.tmp 21),type:=0,pos:= "pedersen.go:80",after:= #[{on:=6,ground:=Ground.data},{on:=6,ground:=Ground.chain},{on:=0,ground:=Ground.phase},{on:=1,ground:=Ground.phase},{on:=2,ground:=Ground.phase},{on:=3,ground:=Ground.phase},{on:=4,ground:=Ground.phase},{on:=5,ground:=Ground.phase},{on:=6,ground:=Ground.phase}],guard:=none}:Oper)) rfl (fun K hK=> ?_) AllReady.nil;go_simp;refine hK _ _ ?_;clear hK K
  try simp only [Act.put,sAa,sAb,sAc]
  refine wpAny_done (by kernel_rfl) ?_ _;exact ⟨rfl,FIN w3 w4 A4 n4 c4 c0.z j0.z f0.z p0.z o0.z⟩
 case done=>
  rintro D zs W hD hzs ⟨⟨v,hbo,hao⟩,hbp,hbl,hba,hbb⟩ hK;have cO:=hbo.cell;rw [Ry p hzs] at hao;obtain ⟨A3,c3,e3,_,_⟩:=hao.sl.form;rw [lLm] at e3;subst e3
  gi_wp2
  refine ⟨by simp, .inl ⟨_,_,rfl,run_takeDeferred hK, ?_⟩⟩;refine ⟨_,results_tmp rfl _ _ _, .slice A3 (Zs f r).length c3,rfl, ?_, ?_⟩
  ·exact (hao.sl.keepc (grownBy_putObj' W D _) (fun r e=>⟨.deferred (some []),by cases e;exact hK,rfl⟩)).more (Y:=fun g=>w.heap.size≤g) (fun g _ h=>nLT (Nat.le_add_right _ 4) h)
  ·exact zl (hbl.trans (belowK_b (w:=w) (nRf _) W D _ _ (by omega) hK rfl rfl))
 case stop=>
  rintro D c pre W _ _ h _;exact h.elim
end
section
open Go Go.RowKit
def XW(b:Bool)(w:World)(e:Ending)(w':World):Prop:= ∃n:Int,e= .returned (.int .i64 n)∧decide (0≤n)=b∧I64 n∧w.grownBy w' none
theorem Jb(p:Par)(B:Nat)(x:Int)(w:World)(hp:p.ok)(hb:Bk w B 39 p.cells)(hx:U64 x):
  Calls prog 147 #[.int .u64 x, .pointer (some ⟨B,0,none⟩)] w fun e w'=>e= .returned (.bool (!isB p x))∧w.grownBy w' none:=by
 have HC:=za (Jq p x w hp hx);have hpr:=hb.prule;clear hp hb hx;go_enter func147,ntmps147;go_wp2_with fail;refine HC.z.mono ?_;rintro e w1 ⟨rfl,hg⟩;have HG:=za hg;clear hg hpr;go_wp2;go_ret;exact ⟨rfl,HG.z⟩
theorem QX(p:Par)(B:Nat)(v:Value)(l:List Int)(X:Nat→Prop)(w:World)(hp:p.ok)(hb:Bk w B 39 p.cells)(h:Sl ze X w v l):
  Calls prog 186 #[v, .func (.func 147) #[] #[.pointer (some ⟨B,0,none⟩)]] w (XW (l.any fun x=> !isB p x) w):=by
 have HP:=za hp;have HB:=za hb;have H:=za h;have hl:=h.bound;obtain ⟨A,c,rfl,_,_⟩:=h.form;clear hp hb h;go_enter func186,ntmps186;go_wp2_with fail;go_loopg [8] l.length (fun n s8 wx=> ∃j:Nat,j+n=l.length∧s8= .int .i64 j∧Hid (w.grownBy wx none∧ ∀i (h:i< l.length),i< j→isB p l[i]=true))
 case atStart=>exact ⟨0,by omega,rfl,za ⟨gRr w none,fun i hi h=>absurd h (by omega)⟩⟩
 case round=>
  obtain ⟨j,hj,rfl,HX⟩:=hrel;cases gk with
  |zero=>
   obtain rfl:j=l.length:=by omega
   have HE:Hid (XW (l.any fun x=> !isB p x) w (.returned (.int .i64 (-1))) wr):=za ⟨-1,rfl,by
    have:(l.any fun x=> !isB p x)=false:=by
     rw [List.any_eq_false];intro b hb;obtain ⟨i,hi,rfl⟩:=List.getElem_of_mem hb;simp [HX.z.2 i hi hi]
    rw [this];rfl,⟨by decide,by decide⟩,HX.z.1⟩
   clear HX;go_wp2;go_ret;exact HE.z
  |succ k=>
   have hjn:(j:Int)< (l.length:Int):=by omega
   have hjN:j< l.length:=by omega
   obtain ⟨g,o,c',e,_,_,hcu,hu⟩:=(H.out.kept HX.z.1).atU hjN;injection e with e1 e2 e3
   subst e1 e3;have HC:=za (Jb p B l[j] wr HP.z (HB.z.grown HX.z.1 (by simp)) hu);have HV:Hid (isB p l[j]=true∨isB p l[j]=false):=za (by cases isB p l[j]<;>simp);have HR:Hid (isB p l[j]=true→ ∀i (h:i< l.length),i< j+1→isB p l[i]=true):=za (fun h i hi hl=>by
    rcases Nat.lt_or_ge i j with h1|h1
    ·exact HX.z.2 i hi h1
    ·obtain rfl:i=j:=by omega
     exact h)
   have HN:Hid (isB p l[j]=false→(l.any fun x=> !isB p x)=true):=za (fun h=>List.any_eq_true.2 ⟨_,lGm hjN,by simp [h]⟩);have HG:=za HX.z.1;clear HX hu e2;generalize isB p l[j]=b at *;generalize l[j]=x at *;rcases HV.z with rfl|rfl
   ·go_wp2_with fail;refine HC.z.mono ?_;rintro e w1 ⟨rfl,hg⟩;have HG1:=za (HG.z.trans hg);clear hg;go_wp2;go_roundg k
    case measure=>omega
    case rel=>exact ⟨j+1,by omega,by go_num,za ⟨HG1.z,HR.z (by simp)⟩⟩
   ·have HE:Hid (∀w1,w.grownBy w1 none→XW (l.any fun x=> !isB p x) w (.returned (.int .i64 j)) w1):=za (fun w1 hg=>⟨j,rfl,by rw [HN.z rfl];simp,⟨by omega,by omega⟩,hg⟩);go_wp2_with fail;refine HC.z.mono ?_;rintro e w1 ⟨rfl,hg⟩;have HG1:=za (HG.z.trans hg);clear hg;go_wp2;go_ret;exact HE.z _ HG1.z
theorem UP(p:Par)(B:Nat)(v:Value)(l:List Int)(X:Nat→Prop)(w:World)(hp:p.ok)(hb:Bk w B 39 p.cells)(h:Sl ze X w v l):
  Calls prog 146 #[v, .func (.func 147) #[] #[.pointer (some ⟨B,0,none⟩)]] w fun e w'=>e= .returned (.bool (l.any fun x=> !isB p x))∧w.grownBy w' none:=by
 have HC:=za (QX p B v l X w hp hb h);obtain ⟨A,c,rfl,_,_⟩:=h.form;clear hp hb h;go_enter func146,ntmps146;go_wp2_with fail;refine HC.z.mono ?_;rintro e w1 ⟨r,rfl,hr,_,hg⟩;have HG:=za hg;have HR:=za hr;clear hg hr;go_wp2;go_ret;exact ⟨zn HR.z,HG.z⟩
def yB(p:Par)(long:Int)(l:List Int):Bool:=decide ((l.length:Int)≠long)||l.any fun x=> !isB p x
theorem LI(p:Par)(Bn B:Nat)(long:Int)(v:Value)(l:List Int)(X:Nat→Prop)(w:World)(hp:p.ok)(hn:Bk w Bn 3 #[.int .i64 long])(hb:Bk w B 39 p.cells)(h:Sl ze X w v l):
  Calls prog 145 #[v, .pointer (some ⟨Bn,0,none⟩), .pointer (some ⟨B,0,none⟩)] w fun e w'=>e= .returned (.bool (yB p long l))∧w.grownBy w' none:=by
 have HC:=za (UP p B v l X w hp hb h);have hc:=hn.cell 0;have hc':w.cell? ⟨Bn,0,none⟩=some (.int .i64 long):=hc;obtain ⟨A,c,rfl,_,_⟩:=h.form;clear hp hb h hn hc;by_cases hne:(l.length:Int)=long
 ·have HR:Hid (yB p long l=l.any fun x=> !isB p x):=za (by simp [yB,hne]);go_enter func145,ntmps145;go_wp2_with fail;refine HC.z.mono ?_;rintro e w1 ⟨rfl,hg⟩;have HG:=za hg;clear hg;go_wp2;go_ret;exact ⟨zn HR.z.symm,HG.z⟩
 ·have HR:Hid (yB p long l=true):=za (by simp [yB,hne]);go_enter func145,ntmps145;go_wp2;go_ret;exact ⟨zn HR.z.symm,gRr w none⟩
theorem QW(p:Par)(Bn B:Nat)(long:Int)(v:Value)(l:List (List Int))(X:Nat→Prop)(w:World)(hp:p.ok)(hn:Bk w Bn 3 #[.int .i64 long])(hb:Bk w B 39 p.cells)(h:Sl (zh ze) X w v l):
  Calls prog 185 #[v, .func (.func 145) #[] #[.pointer (some ⟨Bn,0,none⟩), .pointer (some ⟨B,0,none⟩)]] w (XW (l.any fun x=>yB p long x) w):=by
 have HP:=za hp;have HB:=za hb;have HBN:=za hn;have H:=za h;have hl:=h.bound;obtain ⟨A,c,rfl,_,_⟩:=h.form;clear hp hb hn h;go_enter func185,ntmps185;go_wp2_with fail;go_loopg [8] l.length (fun n s8 wx=> ∃j:Nat,j+n=l.length∧s8= .int .i64 j∧Hid (w.grownBy wx none∧ ∀i (h:i< l.length),i< j→yB p long l[i]=false))
 case atStart=>exact ⟨0,by omega,rfl,za ⟨gRr w none,fun i hi h=>absurd h (by omega)⟩⟩
 case round=>
  obtain ⟨j,hj,rfl,HX⟩:=hrel;cases gk with
  |zero=>
   obtain rfl:j=l.length:=by omega
   have HE:Hid (XW (l.any fun x=>yB p long x) w (.returned (.int .i64 (-1))) wr):=za ⟨-1,rfl,by
    have:(l.any fun x=>yB p long x)=false:=by
     rw [List.any_eq_false];intro b hb;obtain ⟨i,hi,rfl⟩:=List.getElem_of_mem hb;simp [HX.z.2 i hi hi]
    rw [this];rfl,⟨by decide,by decide⟩,HX.z.1⟩
   clear HX;go_wp2;go_ret;exact HE.z
  |succ k=>
   have hjn:(j:Int)< (l.length:Int):=by omega
   have hjN:j< l.length:=by omega
   obtain ⟨g,o,c',u,e,_,_,hcu,hu⟩:=(H.out.kept HX.z.1).atS hjN;injection e with e1 e2 e3
   subst e1 e3;have HC:=za (LI p Bn B long u l[j] X wr HP.z (HBN.z.grown HX.z.1 (by simp)) (HB.z.grown HX.z.1 (by simp)) hu);have HV:Hid (yB p long l[j]=false∨yB p long l[j]=true):=za (by cases yB p long l[j]<;>simp);have HR:Hid (yB p long l[j]=false→ ∀i (h:i< l.length),i< j+1→yB p long l[i]=false):=za (fun h i hi hl=>by
    rcases Nat.lt_or_ge i j with h1|h1
    ·exact HX.z.2 i hi h1
    ·obtain rfl:i=j:=by omega
     exact h)
   have HN:Hid (yB p long l[j]=true→(l.any fun x=>yB p long x)=true):=za (fun h=>List.any_eq_true.2 ⟨_,lGm hjN,by simp [h]⟩);obtain ⟨A7,c7,e7,_,_⟩:=hu.form;generalize l[j].length=n7 at e7;subst e7;have HG:=za HX.z.1;clear HX hu e2;generalize yB p long l[j]=b at *;generalize l[j]=x at *;rcases HV.z with rfl|rfl
   ·go_wp2_with fail;refine HC.z.mono ?_;rintro e w1 ⟨rfl,hg⟩;have HG1:=za (HG.z.trans hg);clear hg;go_wp2;go_roundg k
    case measure=>omega
    case rel=>exact ⟨j+1,by omega,by go_num,za ⟨HG1.z,HR.z (by simp)⟩⟩
   ·have HE:Hid (∀w1,w.grownBy w1 none→XW (l.any fun x=>yB p long x) w (.returned (.int .i64 j)) w1):=za (fun w1 hg=>⟨j,rfl,by rw [HN.z rfl];simp,⟨by omega,by omega⟩,hg⟩);go_wp2_with fail;refine HC.z.mono ?_;rintro e w1 ⟨rfl,hg⟩;have HG1:=za (HG.z.trans hg);clear hg;go_wp2;go_ret;exact HE.z _ HG1.z
theorem UO(p:Par)(Bn B:Nat)(long:Int)(v:Value)(l:List (List Int))(X:Nat→Prop)(w:World)(hp:p.ok)(hn:Bk w Bn 3 #[.int .i64 long])(hb:Bk w B 39 p.cells)(h:Sl (zh ze) X w v l):
  Calls prog 144 #[v, .func (.func 145) #[] #[.pointer (some ⟨Bn,0,none⟩), .pointer (some ⟨B,0,none⟩)]] w fun e w'=>e= .returned (.bool (l.any fun x=>yB p long x))∧w.grownBy w' none:=by
 have HC:=za (QW p Bn B long v l X w hp hn hb h);obtain ⟨A,c,rfl,_,_⟩:=h.form;clear hp hb hn h;go_enter func144,ntmps144;go_wp2_with fail;refine HC.z.mono ?_;rintro e w1 ⟨r,rfl,hr,_,hg⟩;have HG:=za hg;have HR:=za hr;clear hg hr;go_wp2;go_ret;exact ⟨zn HR.z,HG.z⟩
def zU(p:Par):Int:=wrap64 (p.K*wrap64 (p.D+1))
theorem Um(p:Par)(w:World):
  Calls prog 94 #[p.v] w fun e w'=>e= .returned (.int .i64 (zU p))∧w.grownBy w' none:=by
 go_enter func94,ntmps94;go_wp2;go_ret;exact ⟨rfl,gAl w _ none⟩
def LR(p:Par)(l:List (List Int))(many long:Int):Bool:=decide ((l.length:Int)=many) && !l.any fun x=>yB p long x
theorem IC(p:Par)(v:Value)(l:List (List Int))(many long:Int)(X:Nat→Prop)(w:World)(hp:p.ok)(h:Sl (zh ze) X w v l):
  Calls prog 93 #[p.v,v, .int .i64 many, .int .i64 long] w fun e w'=>e= .returned (.bool (LR p l many long))∧w.grownBy w' none:=by
 have HB:Hid (Bk ((w.alloc (.cells p.cells 39)).alloc (.cells #[.int .i64 long] 3)) w.heap.size 39 p.cells):=za ((Bk.new w _ _).alloc _);have HBN:Hid (Bk ((w.alloc (.cells p.cells 39)).alloc (.cells #[.int .i64 long] 3)) (w.heap.size+1) 3 #[.int .i64 long]):=za (by have:=Bk.new (w.alloc (.cells p.cells 39)) 3 #[.int .i64 long];simpa using this);have HG:Hid (w.grownBy ((w.alloc (.cells p.cells 39)).alloc (.cells #[.int .i64 long] 3)) none):=za ((gAl w _ none).trans (gAl _ _ none));have HC:=za (UO p (w.heap.size+1) w.heap.size long v l X _ hp HBN.z HB.z (h.kept HG.z));obtain ⟨A,c,rfl,_,_⟩:=h.form;clear hp h HB HBN;by_cases hne:(l.length:Int)=many
 ·have HR:Hid (LR p l many long= !l.any fun x=>yB p long x):=za (by simp [LR,hne]);go_enter func93,ntmps93;go_wp2_with fail;refine HC.z.mono ?_;rintro e w1 ⟨rfl,hg⟩;have HG1:=za (HG.z.trans hg);clear hg;go_wp2;go_ret;exact ⟨zn HR.z.symm,HG1.z⟩
 ·have HR:Hid (LR p l many long=false):=za (by simp [LR,hne]);go_enter func93,ntmps93;go_wp2;go_ret;exact ⟨zn HR.z.symm,HG.z⟩
def xt(p:Par)(l:List (List Int)):Bool:=LR p l (zU p) (IntKind.i64.wrap (p.T+1))
theorem Vj(p:Par)(v:Value)(l:List (List Int))(X:Nat→Prop)(w:World)(hp:p.ok)(h:Sl (zh ze) X w v l):
  Calls prog 42 #[p.v,v] w fun e w'=>e= .returned (.bool (xt p l))∧w.grownBy w' none:=by
 have HP:=za hp;have H:=za h;obtain ⟨A,c,rfl,_,_⟩:=h.form;have HGw:Hid (w.grownBy (w.alloc (.cells p.cells 39)).drew none):=za ((gAl w _ none).trans (zb _ 1));have HBw:Hid (Bk (w.alloc (.cells p.cells 39)).drew w.heap.size 39 p.cells):=za (Bk.new w _ _);clear hp h;go_enter func42,ntmps42;go_wp2_with fail;go_region_held3 (fun w'=> ∀o,w'.cell? ⟨w.heap.size,o,none⟩=(#[.int .u64 p.P, .int .u64 p.Q, .int .u64 p.G, .int .u64 p.H, .int .i64 p.Nodes, .int .i64 p.N, .int .i64 p.T, .int .i64 p.K, .int .i64 p.D, .int .i64 p.R, .int .i64 p.M, .int .i64 p.X]:Array Value)[o]?) (first|assumption|exact (Bk.new w 39 p.cells).prule|go_keep)
  (first
  |(go_at_call 94;(with_reducible refine (Um p _).mono ?_);rintro e w1 ⟨rfl,hg⟩;have HG1:=za (HGw.z.trans hg);have HB1:=za (HBw.z.grown hg (by simp));have hpx:=HB1.z.prule;clear hg)
  |(go_at_call 93;(with_reducible refine (IC p _ l _ _ X _ HP.z (H.out.kept HG1.z)).mono ?_);rintro e w2 ⟨rfl,hg⟩;have HG2:=za (HG1.z.trans hg);have hpy:=(HB1.z.grown hg (by simp)).prule;clear hg))
 go_wp2;go_ret;exact ⟨rfl,HG2.z⟩
def ZY(p:Par)(l:List (List Int)):Bool:= !LR p l (wrap64 (p.T+1)) (wrap64 (p.T+1))
theorem Kw(p:Par)(B:Nat)(v:Value)(l:List (List Int))(X:Nat→Prop)(w:World)(hp:p.ok)(hb:Bk w B 39 p.cells)(h:Sl (zh ze) X w v l):
  Calls prog 228 #[v, .pointer (some ⟨B,0,none⟩)] w fun e w'=>e= .returned (.bool (ZY p l))∧w.grownBy w' none:=by
 have HC:=za (fun w' (hw:w.grownBy w' none)=>IC p v l (wrap64 (p.T+1)) (wrap64 (p.T+1)) X w' hp (h.kept hw));have HG:Hid (w.grownBy w none):=za (gRr w none);have HGd:Hid (w.grownBy w.drew none):=za (zb w 1);have hc:=hb.prule;obtain ⟨A,c,rfl,_,_⟩:=h.form;clear hp hb h;go_enter func228,ntmps228;go_wp2_with fail;refine (HC.z _ (by first|exact HG.z|exact HGd.z)).mono ?_;rintro e w1 ⟨rfl,hg⟩;have HG1:=za hg;clear hg;go_wp2;go_ret;exact ⟨rfl,by first|exact HG1.z|exact HGd.z.trans HG1.z⟩
theorem Ez(p:Par)(B:Nat)(v:Value)(l:List (List (List Int)))(X:Nat→Prop)(w:World)(hp:p.ok)(hb:Bk w B 39 p.cells)(h:Sl (zh (zh ze)) X w v l):
  Calls prog 240 #[v, .func (.func 228) #[] #[.pointer (some ⟨B,0,none⟩)]] w (XW (l.any fun x=>ZY p x) w):=by
 have Hhp:=za hp;have Hhb:=za hb;have H:=za h;have hl:=h.bound;obtain ⟨A,c,rfl,_,_⟩:=h.form;clear h hp hb;go_enter func240,ntmps240;go_wp2_with fail;go_loopg [8] l.length (fun n s8 wx=> ∃j:Nat,j+n=l.length∧s8= .int .i64 j∧Hid (w.grownBy wx none∧ ∀i (h:i< l.length),i< j→ZY p l[i]=false))
 case atStart=>exact ⟨0,by omega,rfl,za ⟨gRr w none,fun i hi h=>absurd h (by omega)⟩⟩
 case round=>
  obtain ⟨j,hj,rfl,HX⟩:=hrel;cases gk with
  |zero=>
   obtain rfl:j=l.length:=by omega
   have HE:Hid (XW (l.any fun x=>ZY p x) w (.returned (.int .i64 (-1))) wr):=za ⟨-1,rfl,by
    have:(l.any fun x=>ZY p x)=false:=by
     rw [List.any_eq_false];intro b hb;obtain ⟨i,hi,rfl⟩:=List.getElem_of_mem hb;simp [HX.z.2 i hi hi]
    rw [this];rfl,⟨by decide,by decide⟩,HX.z.1⟩
   clear HX;go_wp2;go_ret;exact HE.z
  |succ k=>
   have hjn:(j:Int)< (l.length:Int):=by omega
   have hjN:j< l.length:=by omega
   obtain ⟨g,o,c',u,e,_,_,hcu,hu⟩:=(H.out.kept HX.z.1).atS hjN;injection e with e1 e2 e3
   subst e1 e3;have HC:=za (Kw p B u l[j] X wr (Hhp.out) (Hhb.out.grown HX.z.1 (by simp)) hu);have HV:Hid (ZY p l[j]=false∨ZY p l[j]=true):=za (by cases ZY p l[j]<;>simp);have HR:Hid (ZY p l[j]=false→ ∀i (h:i< l.length),i< j+1→ZY p l[i]=false):=za (fun h i hi hl=>by
    rcases Nat.lt_or_ge i j with h1|h1
    ·exact HX.z.2 i hi h1
    ·obtain rfl:i=j:=by omega
     exact h)
   have HN:Hid (ZY p l[j]=true→(l.any fun x=>ZY p x)=true):=za (fun h=>List.any_eq_true.2 ⟨_,lGm hjN,by simp [h]⟩);obtain ⟨A7,c7,e7,_,_⟩:=hu.form;generalize l[j].length=n7 at e7;subst e7;have HG:=za HX.z.1;clear HX hu e2;generalize ZY p l[j]=b at *;generalize l[j]=x at *;rcases HV.z with rfl|rfl
   ·go_wp2_with fail;refine HC.z.mono ?_;rintro e w1 ⟨rfl,hg⟩;have HG1:=za (HG.z.trans hg);clear hg;go_wp2;go_roundg k
    case measure=>omega
    case rel=>exact ⟨j+1,by omega,by go_num,za ⟨HG1.z,HR.z (by simp)⟩⟩
   ·have HE:Hid (∀w1,w.grownBy w1 none→XW (l.any fun x=>ZY p x) w (.returned (.int .i64 j)) w1):=za (fun w1 hg=>⟨j,rfl,by rw [HN.z rfl];simp,⟨by omega,by omega⟩,hg⟩);go_wp2_with fail;refine HC.z.mono ?_;rintro e w1 ⟨rfl,hg⟩;have HG1:=za (HG.z.trans hg);clear hg;go_wp2;go_ret;exact HE.z _ HG1.z
theorem Lp(p:Par)(B:Nat)(v:Value)(l:List (List (List Int)))(X:Nat→Prop)(w:World)(hp:p.ok)(hb:Bk w B 39 p.cells)(h:Sl (zh (zh ze)) X w v l):
  Calls prog 227 #[v, .func (.func 228) #[] #[.pointer (some ⟨B,0,none⟩)]] w fun e w'=>e= .returned (.bool (l.any fun x=>ZY p x))∧w.grownBy w' none:=by
 have HC:=za (Ez p B v l X w hp hb h);obtain ⟨A,c,rfl,_,_⟩:=h.form;clear h hp hb;go_enter func227,ntmps227;go_wp2_with fail;refine HC.z.mono ?_;rintro e w1 ⟨r,rfl,hr,_,hg⟩;have HG:=za hg;have HR:=za hr;clear hg hr;go_wp2;go_ret;exact ⟨zn HR.z,HG.z⟩
def xT(p:Par)(m:List (List (List Int))):Bool:=decide ((m.length:Int)=zU p) && !m.any fun x=>ZY p x
theorem My(p:Par)(v:Value)(m:List (List (List Int)))(X:Nat→Prop)(w:World)(hp:p.ok)(h:Sl (zh (zh ze)) X w v m):
  Calls prog 203 #[p.v,v] w fun e w'=>e= .returned (.bool (xT p m))∧w.grownBy w' none:=by
 have HP:=za hp;have H:=za h;have HB:Hid (Bk (w.alloc (.cells p.cells 39)) w.heap.size 39 p.cells):=za (Bk.new w _ _);have HG:Hid (w.grownBy (w.alloc (.cells p.cells 39)) none):=za (gAl w _ none);have HS:=za (Um p);obtain ⟨A,c,rfl,_,_⟩:=h.form;clear hp h;by_cases hne:(m.length:Int)=zU p
 ·have HR:Hid (xT p m= !m.any fun x=>ZY p x):=za (by simp [xT,hne]);have hd:((m.length:Int)==zU p)=true:=by simp [hne]
  go_enter func203,ntmps203;go_wp2_with fail;refine (HS.z _).mono ?_;rintro e w1 ⟨rfl,hg⟩;have HG1:=zJ hg HG;have HB1:=xw hg HB;clear hg;go_wp2_with fail;refine (Lp p w.heap.size _ m X w1 HP.z HB1.z (H.out.kept HG1.z)).mono ?_;rintro e w2 ⟨rfl,hg⟩;have HG2:=zJ hg HG1;clear hg;go_wp2;go_ret;exact ⟨zn HR.z.symm,HG2.z⟩
 ·have HR:Hid (xT p m=false):=za (by simp [xT,hne]);have hd:((m.length:Int)==zU p)=false:=by simp [hne]
  go_enter func203,ntmps203;go_wp2_with fail;refine (HS.z _).mono ?_;rintro e w1 ⟨rfl,hg⟩;have HG1:=zJ hg HG;clear hg;go_wp2;go_ret;exact ⟨zn HR.z.symm,HG1.z⟩
def Gy(M:List (List Int)):Int:=((M[0]?.getD [])[0]?).getD 0
def ZI(_p:Par)(m:List (List (List Int)))(sh:List Int)(s:Nat):Bool:=decide ((m[s]?.getD []).length≠0) && decide (Gy (m[s]?.getD [])=sh[s]?.getD 0)
def yx(p:Par)(m:List (List (List Int)))(coms:List (List Int))(i:Int):Bool:=xT p m && xt p coms && (List.range coms.length).all (ZI p m (zC p coms i))
theorem Qr{p:Par}{m:List (List (List Int))}(h:xT p m=true):(m.length:Int)=zU p∧ ∀M∈m, ∀r∈M,r.length=M.length:=by
 simp only [xT,Bool.and_eq_true,decide_eq_true_eq,Bool.not_eq_true',List.any_eq_false] at h;refine ⟨h.1,fun M hM r hr=> ?_⟩;have h1:=h.2 M hM;simp only [ZY,LR,Bool.not_eq_true'] at h1;rw [Bool.not_eq_false] at h1;simp only [Bool.and_eq_true,decide_eq_true_eq,Bool.not_eq_true',List.any_eq_false] at h1;have h2:=h1.2 r hr;simp only [yB,Bool.or_eq_true,decide_eq_true_eq,not_or,Decidable.not_not] at h2
 have:=h1.1
 have:=h2.1
 omega
theorem Lw(p:Par)(v1 v2:Value)(m:List (List (List Int)))(a0:List (List Int))(i:Int)(X Y:Nat→Prop)(w:World)(hp:p.ok)(h1:Sl (zh (zh ze)) X w v1 m)(h2:Sl (zh ze) Y w v2 a0)(hi:U64 i)(hb:a0.length≤100000):
  Calls prog 161 #[p.v,v1,v2, .int .u64 i] w fun e w'=>e= .returned (.bool (yx p m a0 i))∧w.grownBy w' none:=by
 have H1:=za h1;have H2:=za h2;have HB:Hid (Bk (w.alloc (.cells p.cells 39)) w.heap.size 39 p.cells):=za (Bk.new w _ _);have HG:Hid (w.grownBy (w.alloc (.cells p.cells 39)) none):=za (gAl w _ none);have i0:=za (fun w' (hw:w.grownBy w' none)=>My p v1 m X w' hp (h1.kept hw));have s0:=za (fun w' (hw:w.grownBy w' none)=>Vj p v2 a0 Y w' hp (h2.kept hw));have P0:=za (fun w' (hw:w.grownBy w' none)=>Xt p v2 a0 i Y w' (h2.kept hw) hi hb);obtain ⟨A1,c1,rfl,_,_⟩:=h1.form;obtain ⟨A2,c2,rfl,_,_⟩:=h2.form;clear h1 h2 hp hi;cases b0:xT p m with
 |false=>
  have HR:Hid (yx p m a0 i=false):=za (by simp [yx,b0]);rw [b0] at i0;clear b0;go_enter func161,ntmps161;go_wp2_with fail;refine (i0.z _ HG.z).mono ?_;rintro e w1 ⟨rfl,hg⟩;have f0:=zJ hg HG;clear hg;go_wp2;go_ret;exact ⟨zn HR.z.symm,f0.z⟩
 |true=>
  have D0:=za (Qr b0);cases c0:xt p a0 with
  |false=>
   have HR:Hid (yx p m a0 i=false):=za (by simp [yx,c0]);rw [b0] at i0;rw [c0] at s0;clear b0 c0;go_enter func161,ntmps161;go_wp2_with fail;refine (i0.z _ HG.z).mono ?_;rintro e w1 ⟨rfl,hg⟩;have f0:=zJ hg HG;have u0:=(xw hg HB).out.prule;clear hg;go_wp2_with fail;refine (s0.z _ f0.z).mono ?_;rintro e w2 ⟨rfl,hg⟩;have r0:=zJ hg f0;clear hg u0;go_wp2;go_ret;exact ⟨zn HR.z.symm,r0.z⟩
  |true=>
   have HR:Hid (yx p m a0 i=(List.range a0.length).all (ZI p m (zC p a0 i))):=za (by simp [yx,c0,b0]);have R0:Hid ((a0.length:Int)=zU p):=za (by simp only [xt,LR,Bool.and_eq_true,decide_eq_true_eq] at c0;exact c0.1);rw [b0] at i0;rw [c0] at s0;clear b0 c0;obtain ⟨N,hN⟩:=exq (a0.length);have F0:Hid ((zC p a0 i).length=N):=za (by simp [zC,hN]);have Q0:Hid (m.length=N):=za (by have:=D0.z.1;have:=R0.z;omega);rw [←hN] at HR;have Z0:N≤100000:=by omega
   clear hN;go_enter func161,ntmps161;go_wp2_with fail;refine (i0.z _ HG.z).mono ?_;rintro e w1 ⟨rfl,hg⟩;have f0:=zJ hg HG;have g0:=xw hg HB;have u0:=g0.z.prule;clear hg;go_wp2_with fail;refine (s0.z _ f0.z).mono ?_;rintro e w2 ⟨rfl,hg⟩;have r0:=zJ hg f0;have S0:=xw hg g0;have I0:=S0.z.prule;clear hg u0;go_wp2_with fail;refine (P0.z _ r0.z).mono ?_;rintro e w3 ⟨v3,rfl,h3,hg⟩;have q0:=zJ hg r0;obtain ⟨A3,c3,e3,_,_⟩:=h3.form;rw [F0.z] at e3;subst e3;have H3:=za h3;have y0:Hid (∀q,q< 0→ZI p m (zC p a0 i) q=true):=za (fun q h=>absurd h (Nat.not_lt_zero _));clear hg I0 h3;go_wp2_with fail;go_loopg [26] N (fun g s26 wx=> ∃j:Nat,j+g=N∧s26= .int .i64 j∧Hid (wx=w3)∧Hid (∀q,q< j→ZI p m (zC p a0 i) q=true))
   case atStart=>exact ⟨0,by omega,rfl,za rfl,y0⟩
   case round=>
    obtain ⟨j,hj,rfl,HW,HX⟩:=hrel;obtain rfl:w3=wr:=HW.z.symm;cases gk with
    |zero=>
     obtain rfl:j=N:=by omega
     have HE:Hid (yx p m a0 i=true):=za (by rw [HR.z,List.all_eq_true];exact fun q hq=>HX.z q (List.mem_range.1 hq));clear HX y0 HW;go_wp2;go_ret;exact ⟨zn HE.z.symm,q0.z⟩
    |succ k=>
     have T0:(j:Int)< (N:Int):=by omega
     have U0:(0:Int)≤(j:Int):=by omega
     have v0:j< m.length:=by rw [Q0.z];omega
     have C0:j< (zC p a0 i).length:=by rw [F0.z];omega
     have J0:(j:Int)< (m.length:Int):=by omega
     obtain ⟨g,o,c',e,_,_,V0,_⟩:=H3.z.atU C0;injection e with e1 e2 e3
     subst e1 e3;obtain ⟨g1,o1,c1',u,e,_,_,Y0,l0⟩:=(H1.z.kept q0.z).atS v0;injection e with e11 e12 e13
     subst e11 e13;obtain ⟨A4,c4,e4,_,_⟩:=l0.form;have g0:Hid (ZI p m (zC p a0 i) j=(decide (m[j].length≠0) && decide (Gy m[j]=(zC p a0 i)[j]))):=za (by simp [ZI,List.getElem?_eq_getElem v0,List.getElem?_eq_getElem C0]);have k0:Hid (ZI p m (zC p a0 i) j=false→yx p m a0 i=false):=za (fun h=>by
      rw [HR.z,List.all_eq_false];exact ⟨j,List.mem_range.2 (by omega),by simp [h]⟩)
     have p0:Hid (ZI p m (zC p a0 i) j=true→ ∀q,q< j+1→ZI p m (zC p a0 i) q=true):=za (fun h q hq=>by
      rcases Nat.lt_or_ge q j with h1|h1
      ·exact HX.z q h1
      ·obtain rfl:q=j:=by omega
       exact h)
     have d0:=za (D0.z.2 m[j] (lGm v0));generalize (zC p a0 i)[j]=want at *;generalize m[j]=M at *;clear HX y0 e2 e12;by_cases m0:M.length=0
     ·have hd:((M.length:Int)==0)=true:=by simp [m0]
      have z0:Hid (yx p m a0 i=false):=za (k0.z (by rw [g0.z];simp [m0]));subst e4;clear l0 g0 k0 p0 d0;go_wp2;go_ret;exact ⟨zn z0.z.symm,q0.z⟩
     ·have hd:((M.length:Int)==0)=false:=by simp [m0]
      have o0:0< M.length:=by omega
      have N0:(0:Int)< (M.length:Int):=by omega
      clear e4;obtain ⟨g2,o2,c2',u2,eu,_,_,M0,A0⟩:=l0.atS o0;subst eu;have B0:0< M[0].length:=by rw [d0.z M[0] (lGm o0)];exact o0
      have H0:(0:Int)< (M[0].length:Int):=by omega
      obtain ⟨g3,o3,c3',e5,_,_,L0,_⟩:=A0.atU B0;subst e5;have G0:Hid (Gy M=M[0][0]):=za (by simp [Gy,List.getElem?_eq_getElem o0,List.getElem?_eq_getElem B0]);have hB:ZI p m (zC p a0 i) j=decide (M[0][0]=want):=by rw [g0.z,G0.z];simp [m0]
      have t0:=za hB;simp only [Nat.add_zero] at M0 L0;clear l0 A0 g0 d0 G0 hB;generalize M[0][0]=y at *;generalize M[0].length=n0 at *;generalize M.length=nM at *;by_cases j0:y=want
      ·have K0:(y !=want)=false:=by simp [j0]
       have O0:=za (p0.z (by rw [t0.z];simp [j0]));subst j0;clear k0 p0 t0;go_wp2_with fail;go_roundg k
       case measure=>omega
       case rel=>exact ⟨j+1,by omega,by go_num,za rfl,O0⟩
      ·have K0:(y !=want)=true:=by simp [j0]
       have z0:Hid (yx p m a0 i=false):=za (k0.z (by rw [t0.z];simp [j0]));clear k0 p0 t0;go_wp2;go_ret;exact ⟨zn z0.z.symm,q0.z⟩
end
section
open Go Go.RowKit Go.Shelf
attribute [local go_sem] Oper.semAt_some
def xc(q:Int)(xs:List Int)(i:Nat)(at_:Int)(k:Nat):List (Int×Int):=((List.range k).filter fun j=>j !=i).map fun j=>(YQ (xs[i]?.getD 0) (xs[j]?.getD 0) q,YQ at_ (xs[j]?.getD 0) q)
def Zm(q:Int)(xs:List Int)(i:Nat)(at_:Int):List (Int×Int):=xc q xs i at_ xs.length
theorem Rr(q:Int)(xs:List Int)(i:Nat)(at_:Int):xc q xs i at_ (i+1)=xc q xs i at_ i:=by simp [xc,List.range_succ]
theorem Rq(q:Int)(xs:List Int)(i:Nat)(at_:Int)(k:Nat)(h:k≠i):xc q xs i at_ (k+1)=xc q xs i at_ k++ [(YQ (xs[i]?.getD 0) (xs[k]?.getD 0) q,YQ at_ (xs[k]?.getD 0) q)]:=by simp [xc,List.range_succ,h]
theorem Ux(q:Int)(xs:List Int)(i:Nat)(at_:Int)(k:Nat):(xc q xs i at_ k).length≤k:=by
 simp only [xc,List.length_map];exact nLT (List.length_filter_le _ _) (by simp)
theorem MK(A:Option Addr)(n c:Nat)(i at_ q:Int)(w:World):
  Calls prog 241 #[.slice A n c, .int .i64 i, .int .u64 at_, .int .u64 q] w fun e w'=>e= .returned (.func (.func 244) #[] #[.pointer (some ⟨w.heap.size,0,none⟩), .pointer (some ⟨w.heap.size+1,0,none⟩), .pointer (some ⟨w.heap.size+1+1+1,0,none⟩), .pointer (some ⟨w.heap.size+1+1,0,none⟩)])∧w'=(((w.alloc (.cells #[.slice A n c] 31)).alloc (.cells #[.int .i64 i] 3)).alloc (.cells #[.int .u64 at_] 22)).alloc (.cells #[.int .u64 q] 22):=by
 go_enter func241,ntmps241;go_wp2;go_ret;exact ⟨rfl,rfl⟩
def Kp4(n₀ B1 B2 B3 B4:Nat)(A B:World):Prop:=Below n₀ A B∧B.heap[B1]? =A.heap[B1]? ∧B.heap[B2]? =A.heap[B2]? ∧B.heap[B3]? =A.heap[B3]? ∧B.heap[B4]? =A.heap[B4]?
theorem Kp4.refl(n₀ B1 B2 B3 B4:Nat)(A:World):Kp4 n₀ B1 B2 B3 B4 A A:=⟨Below.refl _ _,rfl,rfl,rfl,rfl⟩
theorem Kp4.trans{n₀ B1 B2 B3 B4:Nat}{A B C:World}(h:Kp4 n₀ B1 B2 B3 B4 A B)(k:Kp4 n₀ B1 B2 B3 B4 B C):Kp4 n₀ B1 B2 B3 B4 A C:=⟨h.1.trans k.1,k.2.1.trans h.2.1,k.2.2.1.trans h.2.2.1,k.2.2.2.1.trans h.2.2.2.1,k.2.2.2.2.trans h.2.2.2.2⟩
theorem Kp4.grown{n₀ B1 B2 B3 B4:Nat}{A B:World}(hg:A.grownBy B none)(hn:n₀≤A.heap.size)(h1:B1< A.heap.size)(h2:B2< A.heap.size)(h3:B3< A.heap.size)(h4:B4< A.heap.size):Kp4 n₀ B1 B2 B3 B4 A B:=
 ⟨(zG hg).mono hn,hg.block _ h1 (by simp),hg.block _ h2 (by simp),hg.block _ h3 (by simp),hg.block _ h4 (by simp)⟩
theorem Kp4.b{n₀ B1 B2 B3 B4:Nat}{w:World}(hn:n₀≤w.heap.size)(h1:B1< w.heap.size)(h2:B2< w.heap.size)(h3:B3< w.heap.size)(h4:B4< w.heap.size)(W:World)(l:Nat)(o o':Obj)(hl:w.heap.size≤l)(h:W.heap[l]? =some o)(k1:o.isCells=false)(k2:o.isWalk=false):Kp4 n₀ B1 B2 B3 B4 W (W.putObj l o'):=by
 have hlt:=(Array.getElem?_eq_some_iff.1 h).1;have hg:=grownBy_putObj' W l o';exact ⟨belowK_b hn W l o o' hl h k1 k2,hg.block _ (by omega) (fun e=>by injection e with e;omega),hg.block _ (by omega) (fun e=>by injection e with e;omega),hg.block _ (by omega) (fun e=>by injection e with e;omega),hg.block _ (by omega) (fun e=>by injection e with e;omega)⟩
theorem OD(nn:Nat)(hn:1≤nn)(B1 B2 B3 B4:Nat)(v:Value)(xs:List Int)(i:Nat)(at_ q:Int)(X:Nat→Prop)(w₀ w1:World)(P0:Below w₀.heap.size w₀ w1)(I0:Boxed w1 B1 31 v)(H0:Boxed w1 B2 3 (.int .i64 i))(G0:Boxed w1 B3 22 (.int .u64 q))(F0:Boxed w1 B4 22 (.int .u64 at_))(v0:Sl ze X w₀ v xs)(hi:i< xs.length)(hu:U64 at_):
  Nd Fence.wide nn prog 244 #[.pointer (some ⟨B1,0,none⟩), .pointer (some ⟨B2,0,none⟩), .pointer (some ⟨B3,0,none⟩), .pointer (some ⟨B4,0,none⟩)] (fun x:Int×Int=> #[.int .u64 x.1, .int .u64 x.2]) (fun x _=>U64 x.1∧U64 x.2) (Kp4 w₀.heap.size B1 B2 B3 B4) (fun ys=>ys=Zm q xs i at_) xs.length w1:=by
 intro l J W hW hJ hY h0;refine callsIn_of_wp func244 rfl trivial ?_ rfl;simp only [ntmps244,List.size_toArray,List.length_cons,List.length_nil,Nat.reduceAdd,Nat.reduceSub,Array.replicate_succ,Array.replicate_zero,List.push_toArray,List.append_toArray,List.nil_append,List.cons_append];have J0:Hid (Boxed W B1 31 v):=za ((hW.5 B1 I0.lt).trans I0);have x0:Hid (Boxed W B2 3 (.int .i64 i)):=za ((hW.5 B2 H0.lt).trans H0);have w0:Hid (Boxed W B3 22 (.int .u64 q)):=za ((hW.5 B3 G0.lt).trans G0);have Z0:Hid (Boxed W B4 22 (.int .u64 at_)):=za ((hW.5 B4 F0.lt).trans F0);have b1:Hid (w₀.grownBy W none):=za (zl (P0.trans (hW.mono P0.size)));have Q0:=za v0;have E0:=za hu;obtain ⟨g,o,c,_,e,_,_,_,_⟩:=v0.at (k:=i) hi;subst e;obtain ⟨n,z0⟩:=exq (xs.length);have HN:=za z0;rw [←z0] at Q0 J0 hY hi;have ca:=J0.z.cell;have d1:n≤9223372036854775807:=by rw [z0];exact v0.bound
 have a1:=za h0;have U0:(i:Int)< (n:Int):=by omega
 have i1:(0:Int)≤(i:Int):=by omega
 clear I0 H0 G0 F0 v0 h0 z0 hu
 gi_wp2
 gi_loopw [10] (fun s10 wr=> ∃(k:Nat) (pre:List (Int×Int)),k≤n∧s10= .int .i64 k∧Hid (pre=xc q xs i at_ k∧J pre wr∧Kp4 w₀.heap.size B1 B2 B3 B4 W wr)) (fun s10 _=>n - (intOf s10).toNat)
 case atStart=>exact ⟨0, [],by omega,rfl,za ⟨rfl,a1.z,Kp4.refl _ _ _ _ _ _⟩⟩
 case round=>
  rename World=>wr
  obtain ⟨k,pre,hk,rfl,HX⟩:=hrel;by_cases T0:k< n
  ·have f1:(k:Int)< (n:Int):=by omega
   have g1:(0:Int)≤(k:Int):=by omega
   have c1:pre.length≤k:=by rw [HX.z.1];exact Ux _ _ _ _ _
   have A0:J pre wr.drew:=hJ _ wr wr.drew none HX.z.2.1 (zf (gRr wr none) 1) (by simp);have N0:Hid (w₀.grownBy wr.drew none):=za (zf (zl ((zG b1.z).trans HX.z.2.2.1)) 1);have f0:Hid (Boxed wr.drew B1 31 (.slice (some ⟨g,o,none⟩) n c)):=za (HX.z.2.2.2.1.trans J0.z);have d0:Hid (Boxed wr.drew B2 3 (.int .i64 i)):=za (HX.z.2.2.2.2.1.trans x0.z);have c0:Hid (Boxed wr.drew B3 22 (.int .u64 q)):=za (HX.z.2.2.2.2.2.1.trans w0.z);have b0:Hid (Boxed wr.drew B4 22 (.int .u64 at_)):=za (HX.z.2.2.2.2.2.2.trans Z0.z);have S0:Hid (Kp4 w₀.heap.size B1 B2 B3 B4 W wr.drew):=za (HX.z.2.2.trans ⟨⟨rfl,rfl,rfl,nRf _,fun _ _=>rfl⟩,rfl,rfl,rfl,rfl⟩);have a0: ∀j (hj:j< xs.length), ∀w',wr.drew.grownBy w' none→w'.cell? ⟨g,o+j,none⟩=some (.int .u64 xs[j])∧U64 xs[j]:=fun j hj w' hw=>by
    obtain ⟨g',o',c',e,_,_,V0,hu⟩:=(Q0.z.kept (N0.z.trans hw)).atU hj;injection e with e1 e2 e3
    injection e1 with e1
    injection e1 with e4 e5
    subst e4 e5;exact ⟨V0,hu⟩
   have C0:k< xs.length:=by rw [←HN.z];exact T0
   have D0:i< xs.length:=by rw [←HN.z];exact hi
   have Y0:wr.cell? ⟨g,o+k,none⟩=some (.int .u64 xs[k]):=(a0 k C0 wr.drew (gRr _ _)).1;have K0:=za (a0 k C0 wr.drew (gRr _ _)).2;have R0:=za (a0 i D0 wr.drew (gRr _ _)).2;have i0:Hid (∀w',wr.drew.grownBy w' none→w'.cell? ⟨g,o+i,none⟩=some (.int .u64 xs[i])):=za (fun w' hw=>(a0 i D0 w' hw).1);clear a0 ca;by_cases s0:k=i
   ·subst s0;have t0:Hid (pre=xc q xs k at_ (k+1)):=za (by rw [Rr];exact HX.z.1);have hd:((k:Int) !=(k:Int))=false:=by simp
    have W0:=za (fun w' (hw:wr.drew.grownBy w' none)=>hJ pre wr.drew w' none A0 hw (by simp));have L0:=za (fun w' (hw:wr.drew.grownBy w' none)=>S0.z.trans (Kp4.grown hw N0.z.size f0.z.lt d0.z.lt c0.z.lt b0.z.lt));generalize xs[k]=xk at *;clear A0 HX
    gi_wp2
    refine wpIn_wide.2 ?_;refine ZF 19 ?_;refine mP0 (.int .i64 (k:Int)) ?_;refine mQ0 (.int .i64 (k:Int)) (fun w' hw' K hK=> ?_) ?_
    ·have o0:=(f0.z.kept hw' (by simp)).cell;have n0:=(d0.z.kept hw' (by simp)).cell;have m0:=(c0.z.kept hw' (by simp)).cell;have l0:=(b0.z.kept hw' (by simp)).cell;go_simp;exact hK _ rfl rfl
    refine zm.step (Pv.eq (.bool false)) [(0,15),(1,16)] (by kernel_rfl) (fun w' hw'=> ?_) ?_
    ·rintro _ rfl;rintro _ rfl;refine zr rfl fun K hK=> ?_
     go_simp;exact hK _ _ rfl rfl gRf
    refine zm.step (Pv.eq (.bool false)) [(2,17)] (by kernel_rfl) (fun w' hw'=> ?_) ?_
    ·rintro _ rfl;refine zr rfl fun K hK=> ?_
     go_simp;exact hK _ _ rfl rfl gRf
    refine zm.step (Pv.eq (undef)) [(3,18)] (by kernel_rfl) (fun w' hw'=> ?_) ?_
    ·rintro _ rfl;exact zc rfl rfl rfl
    refine zm.step (Pv.eq (undef)) [(3,18)] (by kernel_rfl) (fun w' hw'=> ?_) ?_
    ·rintro _ rfl;exact zc rfl rfl rfl
    refine zm.step (Pv.eq (undef)) [(3,18)] (by kernel_rfl) (fun w' hw'=> ?_) ?_
    ·rintro _ rfl;exact zc rfl rfl rfl
    refine zm.step (Pv.eq (undef)) [(3,18),(5,20),(6,21)] (by kernel_rfl) (fun w' hw'=> ?_) ?_
    ·rintro _ rfl;rintro _ rfl;rintro _ rfl;exact zc rfl rfl rfl
    refine zm.step (Pv.eq (undef)) [(3,18),(7,22)] (by kernel_rfl) (fun w' hw'=> ?_) ?_
    ·rintro _ rfl;rintro _ rfl;exact zc rfl rfl rfl
    refine zm.step (Pv.eq (undef)) [(3,18)] (by kernel_rfl) (fun w' hw'=> ?_) ?_
    ·rintro _ rfl;exact zc rfl rfl rfl
    refine zm.step (Pv.eq (undef)) [(3,18)] (by kernel_rfl) (fun w' hw'=> ?_) ?_
    ·rintro _ rfl;exact zc rfl rfl rfl
    refine zm.step (Pv.eq (undef)) [(3,18),(8,23),(9,24),(10,25)] (by kernel_rfl) (fun w' hw'=> ?_) ?_
    ·rintro _ rfl;rintro _ rfl;rintro _ rfl;rintro _ rfl;exact zc rfl rfl rfl
    refine zm.step (Pv.eq (undef)) [(3,18)] (by kernel_rfl) (fun w' hw'=> ?_) ?_
    ·rintro _ rfl;exact zc rfl rfl rfl
    refine zm.step (Pv.eq (undef)) [(3,18)] (by kernel_rfl) (fun w' hw'=> ?_) ?_
    ·rintro _ rfl;exact zc rfl rfl rfl
    refine zm.step (Pv.eq (undef)) [(3,18)] (by kernel_rfl) (fun w' hw'=> ?_) ?_
    ·rintro _ rfl;exact zc rfl rfl rfl
    refine zm.step (Pv.eq (undef)) [(3,18),(12,27),(13,28),(14,29)] (by kernel_rfl) (fun w' hw'=> ?_) ?_
    ·rintro _ rfl;rintro _ rfl;rintro _ rfl;rintro _ rfl;exact zc rfl rfl rfl
    refine zm.step (Pv.eq (undef)) [(3,18),(4,19),(11,26),(15,30)] (by kernel_rfl) (fun w' hw'=> ?_) ?_
    ·rintro _ rfl;rintro _ rfl;rintro _ rfl;rintro _ rfl;exact zc rfl rfl rfl
    refine zm.step (Pv.eq (undef)) [(3,18),(16,31)] (by kernel_rfl) (fun w' hw'=> ?_) ?_
    ·rintro _ rfl;rintro _ rfl;exact zc rfl rfl rfl
    refine zm.step (Pv.eq (.bool false)) [(3,18),(17,32)] (by kernel_rfl) (fun w' hw'=> ?_) ?_
    ·rintro _ rfl;rintro _ rfl;refine zr rfl fun K hK=> ?_
     go_simp;exact hK _ _ rfl rfl gRf
    intro w3 k0
    iterate 18 (intro _ _)
    rintro _ rfl;have X0:=za (W0.z w3 k0);have M0:=za (L0.z w3 k0);clear k0;refine wpList_nil ?_;simp only [Act.put,sAa,sAb,sAc];go_wp2_with fail
    gi_wp2
    exact ⟨⟨k+1,pre,by omega,by go_num,za ⟨t0.z,X0.z,M0.z⟩⟩,by simp [intOf];omega⟩
   ·have t0:Hid (pre++ [(YQ xs[i] xs[k] q,YQ at_ xs[k] q)]=xc q xs i at_ (k+1)):=za (by rw [Rq _ _ _ _ _ s0,HX.z.1,List.getElem?_eq_getElem C0,List.getElem?_eq_getElem D0];rfl);have hd:((k:Int) !=(i:Int))=true:=by simp;omega
    have B0:=za (fun w' (hw:wr.drew.grownBy w' none)=>hY pre (YQ xs[i] xs[k] q,YQ at_ xs[k] q) w' (hJ pre wr.drew w' none A0 hw (by simp)) ⟨Ri _ _ _,Ri _ _ _⟩ (by omega));have L0:=za (fun w' (hw:wr.drew.grownBy w' none)=>S0.z.trans (Kp4.grown hw N0.z.size f0.z.lt d0.z.lt c0.z.lt b0.z.lt));obtain ⟨xk,O0⟩:=exq (xs[k]);obtain ⟨xi,g0⟩:=exq (xs[i]);rw [←O0] at Y0 K0 t0 B0;rw [←g0] at R0 i0 t0 B0;clear A0 HX O0 g0
    gi_wp2
    refine Yk 16 (by kernel_rfl) (by kernel_rfl) (by kernel_rfl) ?_;refine mP0 (.int .i64 (k:Int)) ?_;refine mQ0 (.int .i64 (i:Int)) (fun w' hw' K hK=> ?_) ?_
    ·have o0:=(f0.z.kept hw' (by simp)).cell;have n0:=(d0.z.kept hw' (by simp)).cell;have m0:=(c0.z.kept hw' (by simp)).cell;have l0:=(b0.z.kept hw' (by simp)).cell;have g0:=i0.z w' hw';go_simp;exact hK _ rfl rfl
    refine zm.step (Pv.eq (.bool true)) [(0,15),(1,16)] (by kernel_rfl) (fun w' hw'=> ?_) ?_
    ·rintro _ rfl;rintro _ rfl;refine zr rfl fun K hK=> ?_
     go_simp;exact hK _ _ rfl rfl gRf
    refine zm.step (Pv.eq (.bool true)) [(2,17)] (by kernel_rfl) (fun w' hw'=> ?_) ?_
    ·rintro _ rfl;refine zr rfl fun K hK=> ?_
     go_simp;exact hK _ _ rfl rfl gRf
    refine zm.step (Pv.eq (.func (.yield l) #[] #[])) [(3,18)] (by kernel_rfl) (fun w' hw'=> ?_) ?_
    ·rintro _ rfl;refine zr rfl fun K hK=> ?_
     go_simp;exact hK _ _ rfl rfl gRf
    refine zm.step (Pv.eq (.slice (some ⟨g,o,none⟩) n c)) [(3,18)] (by kernel_rfl) (fun w' hw'=> ?_) ?_
    ·rintro _ rfl;refine zr rfl fun K hK=> ?_
     have o0:=(f0.z.kept hw' (by simp)).cell;have n0:=(d0.z.kept hw' (by simp)).cell;have m0:=(c0.z.kept hw' (by simp)).cell;have l0:=(b0.z.kept hw' (by simp)).cell;have g0:=i0.z w' hw';go_simp;exact hK _ _ rfl rfl gRf
    refine zm.step (Pv.eq (.int .i64 (i:Int))) [(3,18)] (by kernel_rfl) (fun w' hw'=> ?_) ?_
    ·rintro _ rfl;refine zr rfl fun K hK=> ?_
     have o0:=(f0.z.kept hw' (by simp)).cell;have n0:=(d0.z.kept hw' (by simp)).cell;have m0:=(c0.z.kept hw' (by simp)).cell;have l0:=(b0.z.kept hw' (by simp)).cell;have g0:=i0.z w' hw';go_simp;exact hK _ _ rfl rfl gRf
    refine zm.step (Pv.eq (.pointer (some ⟨g,o+i,none⟩))) [(3,18),(5,20),(6,21)] (by kernel_rfl) (fun w' hw'=> ?_) ?_
    ·rintro _ rfl;rintro _ rfl;rintro _ rfl;refine zr rfl fun K hK=> ?_
     go_simp;exact hK _ _ rfl rfl gRf
    refine zm.step (Pv.eq (.int .u64 xi)) [(3,18),(7,22)] (by kernel_rfl) (fun w' hw'=> ?_) ?_
    ·rintro _ rfl;rintro _ rfl;refine zr rfl fun K hK=> ?_
     have o0:=(f0.z.kept hw' (by simp)).cell;have n0:=(d0.z.kept hw' (by simp)).cell;have m0:=(c0.z.kept hw' (by simp)).cell;have l0:=(b0.z.kept hw' (by simp)).cell;have g0:=i0.z w' hw';go_simp;exact hK _ _ rfl rfl gRf
    refine zm.step (Pv.eq (.int .u64 xk)) [(3,18)] (by kernel_rfl) (fun w' hw'=> ?_) ?_
    ·rintro _ rfl;refine zr rfl fun K hK=> ?_
     go_simp;exact hK _ _ rfl rfl gRf
    refine zm.step (Pv.eq (.int .u64 q)) [(3,18)] (by kernel_rfl) (fun w' hw'=> ?_) ?_
    ·rintro _ rfl;refine zr rfl fun K hK=> ?_
     have o0:=(f0.z.kept hw' (by simp)).cell;have n0:=(d0.z.kept hw' (by simp)).cell;have m0:=(c0.z.kept hw' (by simp)).cell;have l0:=(b0.z.kept hw' (by simp)).cell;have g0:=i0.z w' hw';go_simp;exact hK _ _ rfl rfl gRf
    refine zm.step (Pv.eq (.int .u64 (YQ xi xk q))) [(3,18),(8,23),(9,24),(10,25)] (by kernel_rfl) (fun w' hw'=> ?_) ?_
    ·rintro _ rfl;rintro _ rfl;rintro _ rfl;rintro _ rfl;refine zr rfl fun K hK=> ?_
     go_simp;refine (Kt xi xk q w' R0.z K0.z).mono ?_;rintro e w3 ⟨rfl,hg⟩;exact hK _ _ rfl rfl hg
    refine zm.step (Pv.eq (.int .u64 at_)) [(3,18)] (by kernel_rfl) (fun w' hw'=> ?_) ?_
    ·rintro _ rfl;refine zr rfl fun K hK=> ?_
     have o0:=(f0.z.kept hw' (by simp)).cell;have n0:=(d0.z.kept hw' (by simp)).cell;have m0:=(c0.z.kept hw' (by simp)).cell;have l0:=(b0.z.kept hw' (by simp)).cell;have g0:=i0.z w' hw';go_simp;exact hK _ _ rfl rfl gRf
    refine zm.step (Pv.eq (.int .u64 xk)) [(3,18)] (by kernel_rfl) (fun w' hw'=> ?_) ?_
    ·rintro _ rfl;refine zr rfl fun K hK=> ?_
     go_simp;exact hK _ _ rfl rfl gRf
    refine zm.step (Pv.eq (.int .u64 q)) [(3,18)] (by kernel_rfl) (fun w' hw'=> ?_) ?_
    ·rintro _ rfl;refine zr rfl fun K hK=> ?_
     have o0:=(f0.z.kept hw' (by simp)).cell;have n0:=(d0.z.kept hw' (by simp)).cell;have m0:=(c0.z.kept hw' (by simp)).cell;have l0:=(b0.z.kept hw' (by simp)).cell;have g0:=i0.z w' hw';go_simp;exact hK _ _ rfl rfl gRf
    refine zm.step (Pv.eq (.int .u64 (YQ at_ xk q))) [(3,18),(12,27),(13,28),(14,29)] (by kernel_rfl) (fun w' hw'=> ?_) ?_
    ·rintro _ rfl;rintro _ rfl;rintro _ rfl;rintro _ rfl;refine zr rfl fun K hK=> ?_
     go_simp;refine (Kt at_ xk q w' E0.z K0.z).mono ?_;rintro e w3 ⟨rfl,hg⟩;exact hK _ _ rfl rfl hg
    intro w3 k0;intro y0 e0 y1 e1 y2 e2 y3 e3 y4 e4 y5 e5 y6 e6 y7 e7 y8 e8 y9 e9 y10 e10 y11 e11 y12 e12 y13 e13 y14 e14 y15 e15;show wpListIn Fence.wide nn prog _ _ _ _ w3;have e0:y0= .int .i64 (k:Int):=e0;subst e0;have e1:y1= .int .i64 (i:Int):=e1;subst e1;have e2:y2= .bool true:=e2;subst e2;have e3:y3= .bool true:=e3;subst e3;have e4:y4= .func (.yield l) #[] #[]:=e4;subst e4;have e5:y5= .slice (some ⟨g,o,none⟩) n c:=e5;subst e5;have e6:y6= .int .i64 (i:Int):=e6;subst e6;have e7:y7= .pointer (some ⟨g,o+i,none⟩):=e7;subst e7;have e8:y8= .int .u64 xi:=e8;subst e8;have e9:y9= .int .u64 xk:=e9;subst e9;have e10:y10= .int .u64 q:=e10;subst e10;have e11:y11= .int .u64 (YQ xi xk q):=e11;subst e11;have e12:y12= .int .u64 at_:=e12;subst e12;have e13:y13= .int .u64 xk:=e13;subst e13;have e14:y14= .int .u64 q:=e14;subst e14;have e15:y15= .int .u64 (YQ at_ xk q):=e15;subst e15;simp only [Act.put,sAa,sAb,sAc];have u0:=B0.z w3 k0;clear B0;unfold YieldAt at u0
    try dsimp only at u0
    refine Exists.elim u0 fun fn r0=>Exists.elim r0 fun tmps q0=>Exists.elim q0 fun assign p0=>Exists.elim p0 fun body j0=> ?_
    clear u0 r0 q0 p0;have hy:=j0.1;have hR:=j0.2;clear j0;have HR:=za hR;have M0:=za (L0.z w3 k0);clear k0 hR
    gi_wp2_with ((with_reducible refine HR.z.mono ?_);rintro e W' ⟨rfl,hJ2,hK2⟩)
    exact ⟨⟨k+1,_,by omega,by go_num,za ⟨t0.z,hJ2,M0.z.trans hK2⟩⟩,by simp [intOf];omega⟩
  ·obtain rfl:k=n:=by omega
   gi_wp2
   go_end0;exact ⟨⟨_,rfl⟩,pre,by rw [HX.z.1,HN.z];rfl,HX.z.2.1⟩
end
section
open Go Go.RowKit Go.Shelf
attribute [local go_sem] Oper.semAt_some
def xP(q:Int)(l:List Int):Int:=l.foldl (fun s y=>zR s y q) (1%q)
theorem Tz(q:Int)(l:List Int)(y:Int):xP q (l++ [y])=zR (xP q l) y q:=by simp [xP]
open Classical in
noncomputable def Ul(q:Int)(xs:List Int)(i:Nat)(at_:Int):Value:=
 if yi (xP q ((Zm q xs i at_).map (·.1))) q then .tuple #[.int .u64 (Qc (xP q ((Zm q xs i at_).map (·.1))) q), .int .u64 (xP q ((Zm q xs i at_).map (·.2))), .int .i64 0]
 else .tuple #[.int .u64 0, .int .u64 (xP q ((Zm q xs i at_).map (·.2))), .int .i64 5]
def Ct(w wx:World)(q:Int)(B1 B2:Nat):Prop:=w.heap.size< B1∧w.heap.size< B2∧B1≠B2∧Boxed wx w.heap.size 22 (.int .u64 q)∧Boxed wx B1 22 (.int .u64 (1%q))∧Boxed wx B2 22 (.int .u64 (1%q))∧w.grownBy wx none
theorem TA(q:Int)(hq:zO q=true): ∀(l:List Int) (s:Int),0≤s∧s< q→0≤l.foldl (fun s y=>zR s y q) s∧l.foldl (fun s y=>zR s y q) s< q
 | [],_,h=>h
 |y::l,s,_=>TA q hq l _ (OG s y q hq)
theorem Hz(q:Int)(hq:zO q=true)(l:List Int):0≤xP q l∧xP q l< q:=by
 refine TA q hq l _ ?_;simp [zO] at hq;exact yd 1 q hq.1
theorem Ur(q:Int)(hq:zO q=true)(l:List Int):U64 (xP q l):=by
 have h:=Hz q hq l;simp [zO] at hq;exact ⟨h.1,by omega⟩
theorem TG(w:World)(t1 t2 t3 t4:TypeId)(v1 v2 v3 v4:Value)(W0:World)(h:W0=(((w.alloc (.cells #[v1] t1)).alloc (.cells #[v2] t2)).alloc (.cells #[v3] t3)).alloc (.cells #[v4] t4)):
  Boxed W0 w.heap.size t1 v1∧Boxed W0 (w.heap.size+1) t2 v2∧Boxed W0 (w.heap.size+1+1) t3 v3∧Boxed W0 (w.heap.size+1+1+1) t4 v4∧w.grownBy W0 none∧W0.heap.size=w.heap.size+1+1+1+1:=by
 subst h;have b2:=((Boxed.new (w.alloc (.cells #[v1] t1)) t2 v2).alloc (.cells #[v3] t3)).alloc (.cells #[v4] t4);have b3:=(Boxed.new ((w.alloc (.cells #[v1] t1)).alloc (.cells #[v2] t2)) t3 v3).alloc (.cells #[v4] t4);have b4:=Boxed.new (((w.alloc (.cells #[v1] t1)).alloc (.cells #[v2] t2)).alloc (.cells #[v3] t3)) t4 v4;simp only [World.size_alloc] at b2 b3 b4;exact ⟨(((Boxed.new w t1 v1).alloc _).alloc _).alloc _,b2,b3,b4,(((gAl w _ none).trans (gAl _ _ none)).trans (gAl _ _ none)).trans (gAl _ _ none),by simp⟩
structure ShE where
 w:World
 W0:World
 W:World
 q:Int
 p1:Int
 p2:Int
 p1':Int
 p2':Int
 B1:Nat
 B2:Nat
 C1:Nat
 C2:Nat
 C3:Nat
 C4:Nat
structure ShE.Ok (e:ShE):Prop where
 b1:e.w.heap.size< e.B1
 b2:e.w.heap.size< e.B2
 b12:e.B1≠e.B2
 c1:e.B1< e.C1∧e.B2< e.C1∧e.C1< e.W0.heap.size
 c2:e.B1< e.C2∧e.B2< e.C2∧e.C2< e.W0.heap.size
 c3:e.B1< e.C3∧e.B2< e.C3∧e.C3< e.W0.heap.size
 c4:e.B1< e.C4∧e.B2< e.C4∧e.C4< e.W0.heap.size
structure ShE.At (e:ShE) (x y:Bool) (V:World):Prop where
 q:Boxed V e.w.heap.size 22 (.int .u64 e.q)
 one:Boxed V e.B1 22 (.int .u64 (if x then e.p1' else e.p1))
 two:Boxed V e.B2 22 (.int .u64 (if y then e.p2' else e.p2))
 from':KeepsFrom e.W0.heap.size e.W V
 kp:Kp4 e.w.heap.size e.C1 e.C2 e.C3 e.C4 e.W V
 bl:Below e.w.heap.size e.w V
 sz:e.W0.heap.size≤V.heap.size
theorem ShE.At.grown{e:ShE}(k:e.Ok){x y:Bool}{V V':World}(h:e.At x y V)(hg:V.grownBy V' none):e.At x y V':=by
 have h1:=k.c1;have h2:=k.c2;have h3:=k.c3;have h4:=k.c4;have h5:=h.sz;have h6:=k.b1;exact ⟨h.q.kept hg (by simp),h.one.kept hg (by simp),h.two.kept hg (by simp),h.from'.trans ((Zf hg).from _),h.kp.trans (Kp4.grown hg (by omega) (by omega) (by omega) (by omega) (by omega)),h.bl.trans ((zG hg).mono (by omega)),nLT h.sz hg.size⟩
theorem ShE.At.set1{e:ShE}(k:e.Ok){x y:Bool}{V:World}(h:e.At x y V):e.At true y (V.setCell ⟨e.B1,0,none⟩ (.int .u64 e.p1')):=by
 have h1:=k.c1;have h2:=k.c2;have h3:=k.c3;have h4:=k.c4;have h6:=k.b1;have h7:=k.b12;exact ⟨h.q.other (by omega) _,h.one.set _,h.two.other (by omega) _,h.from'.trans ((KeepsOthers.setCell _ _ _).from _),h.kp.trans ⟨(Below.refl _ V).setCell (p:=⟨e.B1,0,none⟩) (by simp;omega) _,Below.heap_setCell V _ _ _ (by simp;omega),Below.heap_setCell V _ _ _ (by simp;omega),Below.heap_setCell V _ _ _ (by simp;omega),Below.heap_setCell V _ _ _ (by simp;omega)⟩,h.bl.setCell (p:=⟨e.B1,0,none⟩) (by simp;omega) _,by have:=h.sz;simp;omega⟩
theorem ShE.At.set2{e:ShE}(k:e.Ok){x y:Bool}{V:World}(h:e.At x y V):e.At x true (V.setCell ⟨e.B2,0,none⟩ (.int .u64 e.p2')):=by
 have h1:=k.c1;have h2:=k.c2;have h3:=k.c3;have h4:=k.c4;have h6:=k.b2;have h7:=k.b12;exact ⟨h.q.other (by omega) _,h.one.other (by omega) _,h.two.set _,h.from'.trans ((KeepsOthers.setCell _ _ _).from _),h.kp.trans ⟨(Below.refl _ V).setCell (p:=⟨e.B2,0,none⟩) (by simp;omega) _,Below.heap_setCell V _ _ _ (by simp;omega),Below.heap_setCell V _ _ _ (by simp;omega),Below.heap_setCell V _ _ _ (by simp;omega),Below.heap_setCell V _ _ _ (by simp;omega)⟩,h.bl.setCell (p:=⟨e.B2,0,none⟩) (by simp;omega) _,by have:=h.sz;simp;omega⟩
def ShE.C(e:ShE)(D:Array Bool)(V:World):Prop:=e.At (D.getD 8 false) (D.getD 9 false) V
theorem ShE.C.grown{e:ShE}(k:e.Ok){D:Array Bool}{V V':World}(h:e.C D V)(hg:V.grownBy V' none)(i:Nat)(h8:i≠8)(h9:i≠9):e.C (D.setIfInBounds i true) V':=by
 unfold ShE.C;rw [getD_set_ne false h8,getD_set_ne false h9];exact ShE.At.grown k h hg
theorem ShE.C.set1{e:ShE}(k:e.Ok){D:Array Bool}{V:World}(h:e.C D V)(hs:D.size=10):e.C (D.setIfInBounds 8 true) (V.setCell ⟨e.B1,0,none⟩ (.int .u64 e.p1')):=by
 unfold ShE.C;rw [getD_set_ne false (show 8≠9 by omega),show (D.setIfInBounds 8 true).getD 8 false=true by simp [hs]];exact ShE.At.set1 k h
theorem ShE.C.set2{e:ShE}(k:e.Ok){D:Array Bool}{V:World}(h:e.C D V)(hs:D.size=10):e.C (D.setIfInBounds 9 true) (V.setCell ⟨e.B2,0,none⟩ (.int .u64 e.p2')):=by
 unfold ShE.C;rw [getD_set_ne false (show 9≠8 by omega),show (D.setIfInBounds 9 true).getD 9 false=true by simp [hs]];exact ShE.At.set2 k h
theorem ShE.C.one{e:ShE}{D:Array Bool}{V:World}(h:e.C D V)(h8:D.getD 8 false=false):Boxed V e.B1 22 (.int .u64 e.p1):=by
 have:=ShE.At.one h
 rw [h8] at this;exact this
theorem ShE.C.two{e:ShE}{D:Array Bool}{V:World}(h:e.C D V)(h9:D.getD 9 false=false):Boxed V e.B2 22 (.int .u64 e.p2):=by
 have:=ShE.At.two h
 rw [h9] at this;exact this
theorem Kz(q:Int)(xs:List Int)(i:Nat)(at_:Int): ∃x e:Int,UF (xP q ((Zm q xs i at_).map (·.1))) q= .tuple #[.int .u64 x, .int .i64 e]∧Ul q xs i at_= .tuple #[.int .u64 x, .int .u64 (xP q ((Zm q xs i at_).map (·.2))), .int .i64 e]:=by
 unfold Ul UF;split
 ·exact ⟨_,_,rfl,rfl⟩
 ·exact ⟨_,_,rfl,rfl⟩
theorem KZ(A:Option Addr)(n c:Nat)(i at_ q:Int)(w:World):
  Calls prog 241 #[.slice A n c, .int .i64 i, .int .u64 at_, .int .u64 q] w fun e w'=>e= .returned (.func (.func 244) #[] #[.pointer (some ⟨w.heap.size,0,none⟩), .pointer (some ⟨w.heap.size+1,0,none⟩), .pointer (some ⟨w.heap.size+1+1+1,0,none⟩), .pointer (some ⟨w.heap.size+1+1,0,none⟩)])∧(Boxed w' w.heap.size 31 (.slice A n c)∧Boxed w' (w.heap.size+1) 3 (.int .i64 i)∧Boxed w' (w.heap.size+1+1) 22 (.int .u64 at_)∧Boxed w' (w.heap.size+1+1+1) 22 (.int .u64 q)∧w.grownBy w' none∧w'.heap.size=w.heap.size+1+1+1+1):=
 (MK A n c i at_ q w).mono fun _ _ h=>⟨h.1,TG _ _ _ _ _ _ _ _ _ _ h.2⟩
theorem Nm(w:World)(q:Int):Ct w (((w.alloc (.cells #[.int .u64 q] 22)).alloc (.cells #[.int .u64 (1%q)] 22)).alloc (.cells #[.int .u64 (1%q)] 22)).drew q (w.heap.size+1) (w.heap.size+1+1):=by
 have b1:=(Boxed.new (w.alloc (.cells #[.int .u64 q] 22)) 22 (.int .u64 (1%q))).alloc (.cells #[.int .u64 (1%q)] 22);have b2:=Boxed.new ((w.alloc (.cells #[.int .u64 q] 22)).alloc (.cells #[.int .u64 (1%q)] 22)) 22 (.int .u64 (1%q));simp only [World.size_alloc] at b1 b2;exact ⟨by omega,by omega,by omega,(((Boxed.new w 22 (.int .u64 q)).alloc _).alloc _),b1,b2,zf (((gAl w _ none).trans (gAl _ _ none)).trans (gAl _ _ none)) 1⟩
theorem IX(w:World)(q:Int):Ct w (((w.alloc (.cells #[.int .u64 q] 22)).alloc (.cells #[.int .u64 (1%q)] 22)).alloc (.cells #[.int .u64 (1%q)] 22)).drew q (w.heap.size+1+1) (w.heap.size+1):=by
 obtain ⟨h1,h2,h3,h4,h5,h6,h7⟩:=Nm w q;exact ⟨h2,h1,h3.symm,h4,h6,h5,h7⟩
theorem Rl(v:Value)(xs:List Int)(i:Nat)(at_ q:Int)(X:Nat→Prop)(w:World)(p0:Sl ze X w v xs)(hi:i< xs.length)(hu:U64 at_)(hq:zO q=true):
  Calls prog 233 #[v, .int .i64 i, .int .u64 at_, .int .u64 q] w fun e w'=>e= .returned (Ul q xs i at_)∧w.grownBy w' none:=by
 have HQ:=za hq;simp [zO] at hq;obtain ⟨A0,hq1⟩:=hq;have J0: ¬q=0:=by omega
 have HX:=za p0;have HI:=za hi;have HU:=za hu;have HR:=za (yd 1 q A0);have HT:Hid (Int.tmod 1 q=1%q):=za (Int.tmod_eq_emod_of_nonneg (by decide));obtain ⟨A1,c1,rfl,_,_⟩:=p0.form;obtain ⟨rx,re,j0,s0⟩:=Kz q xs i at_;rw [s0];have F0:=za j0;clear p0 hi hu j0 s0;refine (callsIn_wide (n:=4)).1 ?_;refine callsIn_of_wp_marks func233 rfl trivial ?_ rfl;refine wpIn_wide.2 ?_;simp only [ntmps233,List.size_toArray,List.length_cons,List.length_nil,Nat.reduceAdd,Nat.reduceSub,Array.replicate_succ,Array.replicate_zero,List.push_toArray,List.append_toArray,List.nil_append,List.cons_append];go_upto_region 1 with fail
 go_cut [11,12] from 17 to 20 (fun s11 s12 wx=> ∃B1 B2:Nat,s11= .pointer (some ⟨B1,0,none⟩)∧s12= .pointer (some ⟨B2,0,none⟩)∧Hid (Ct w wx q B1 B2))
 case first=>
  go_region_held3 (fun w'=>w'.cell? ⟨w.heap.size,0,none⟩=some (.int .u64 q)) (go_keep) (fail)
  all_goals (go_wp2_with fail)
  all_goals (rw [HT.z];go_meet)
  ·exact ⟨_,_,rfl,rfl,za (Nm w q)⟩
  ·exact ⟨_,_,rfl,rfl,za (IX w q)⟩
 case rest=>
  obtain ⟨B1,B2,rfl,rfl,HB⟩:=hcut
  rename World=>wc
  obtain ⟨kb1,kb2,kb12,kq,kp1,kp2,kg⟩:=HB.z;have kqc:=kq.cell;have HC:Hid (Ct w wc q B1 B2):=HB;have HW:Hid (w.grownBy wc none):=za kg;clear HB kq kp1 kp2 kg;have B0:xs.length≤c1:=by assumption
  go_wp2_with ((with_reducible refine (KZ A1 xs.length c1 i at_ q wc).mono ?_);rintro e W0 ⟨rfl,hW0⟩);have HD:=za hW0;clear hW0;have d0:Hid (Boxed W0 B1 22 (.int .u64 (1%q))∧Boxed W0 B2 22 (.int .u64 (1%q))∧Boxed W0 w.heap.size 22 (.int .u64 q)∧Below w.heap.size w W0∧B1< wc.heap.size∧B2< wc.heap.size∧w.heap.size≤wc.heap.size):=by
   obtain ⟨_,_,_,z4,z1,z2,z3⟩:=HC.z;have hg:=HD.z.2.2.2.2.1;exact za ⟨z1.kept hg (by simp),z2.kept hg (by simp),z4.kept hg (by simp),zG (HW.z.trans hg),z1.lt,z2.lt,HW.z.size⟩
  have I0:W0.heap.size=wc.heap.size+1+1+1+1:=HD.z.2.2.2.2.2;have z0:=d0.z.2.2.2.2.1;have y0:=d0.z.2.2.2.2.2.1;have H0:=d0.z.2.2.2.2.2.2;refine (wpIn_wide (n:=3)).1 ?_;refine Zk rfl (by omega) (gf:=244) (lb:= #[.pointer (some ⟨wc.heap.size,0,none⟩), .pointer (some ⟨wc.heap.size+1,0,none⟩), .pointer (some ⟨wc.heap.size+1+1+1,0,none⟩), .pointer (some ⟨wc.heap.size+1+1,0,none⟩)]) rfl trivial (enters_of func244 (by kernel_rfl) rfl)
   (OD (3 - 1) (by omega) _ _ _ _ _ xs i at_ q X w W0 d0.z.2.2.2.1 HD.z.1 HD.z.2.1 HD.z.2.2.2.1 HD.z.2.2.1 HX.z HI.z HU.z) Kp4.trans (Kp4.b (by omega) (by omega) (by omega) (by omega) (by omega)) (Below.refl _ _) (fun _=>rfl)
   (fun pre W=>Boxed W w.heap.size 22 (.int .u64 q)∧Boxed W B1 22 (.int .u64 (xP q (pre.map (·.1))))∧Boxed W B2 22 (.int .u64 (xP q (pre.map (·.2))))∧Below w.heap.size w W∧W0.heap.size≤W.heap.size)
   (fun pre X' Y v0 hs hg f0=>by
    obtain ⟨s1,s2,s3,s4,s5⟩:=hs;have q0:=fun r e=>(f0 r e).2
    exact ⟨s1.kept hg (Yp s1 q0),s2.kept hg (Yp s2 q0),s3.kept hg (Yp s3 q0),s4.grown hg s4.size (fun k e=>by have:=(f0 k e).1;omega),nLT s5 hg.size⟩)
   ⟨d0.z.2.2.1,d0.z.1,d0.z.2.1,d0.z.2.2.2.1,nRf _⟩
   (fun e a' W=>(U64 e.1∧U64 e.2)∧a'={tmps:= #[.slice A1 xs.length c1, .int .i64 i, .int .u64 at_, .int .u64 q,undef,undef,undef, .pointer (some ⟨w.heap.size,0,none⟩), .int .u64 0, .int .u64 0, .int .i64 0, .pointer (some ⟨B1,0,none⟩), .pointer (some ⟨B2,0,none⟩), .int .u64 e.1, .int .u64 e.2,undef,undef,u17,u18,u19,u20, .slice A1 xs.length c1, .int .i64 i, .int .u64 at_, .int .u64 q, .func (.func 244) #[] #[.pointer (some ⟨wc.heap.size,0,none⟩), .pointer (some ⟨wc.heap.size+1,0,none⟩), .pointer (some ⟨wc.heap.size+1+1+1,0,none⟩), .pointer (some ⟨wc.heap.size+1+1,0,none⟩)], .int .u64 e.1, .int .u64 e.2,undef,undef,undef,undef,undef,undef,undef,undef,undef,undef,undef,undef,undef,undef,undef,undef,undef],defers:= []})
   (fun e a' _ X' Y v0 hs hg f0=>hs)
   ?assign ?body ?done
  case assign=>
   rintro l pre ⟨own,far⟩ W K hi hfx hK;have D0:=hK _ W (KeepsFrom.refl _ _) (Kp4.refl _ _ _ _ _ _) hi ⟨hfx,rfl⟩;clear hK hi hfx
   gi_wp2
   exact D0
  case body=>
   rintro l pre ⟨own,far⟩ a' W hl ⟨hbq,hb1,hb2,g0,hws⟩ ⟨⟨hu1,hu2⟩,rfl⟩ hlt;obtain ⟨p1,o0⟩:=exq (xP q (pre.map (·.1)));obtain ⟨p2,n0⟩:=exq (xP q (pre.map (·.2)));rw [←o0] at hb1;rw [←n0] at hb2;have t0:Hid (xP q ((pre++ [(own,far)]).map (·.1))=zR p1 own q∧xP q ((pre++ [(own,far)]).map (·.2))=zR p2 far q):=za ⟨by rw [lMa,o0];exact Tz _ _ _,by rw [lMa,n0];exact Tz _ _ _⟩;have HP:Hid (U64 p1∧U64 p2∧U64 own∧U64 far):=za ⟨by rw [o0];exact Ur _ HQ.z _,by rw [n0];exact Ur _ HQ.z _,hu1,hu2⟩;clear o0 n0 hu1 hu2 hlt;obtain ⟨E,hE⟩: ∃E:ShE,E={w:=w,W0:=W0,W:=W,q:=q,p1:=p1,p2:=p2,p1':=zR p1 own q,p2':=zR p2 far q,B1:=B1,B2:=B2,C1:=wc.heap.size,C2:=wc.heap.size+1,C3:=wc.heap.size+1+1+1,C4:=wc.heap.size+1+1}:=⟨_,rfl⟩;have HE:Hid (E.Ok∧E.p1=p1∧E.p2=p2∧E.w=w∧E.q=q∧E.w.heap.size=w.heap.size∧E.B1=B1∧E.B2=B2∧E.p1'=zR p1 own q∧E.p2'=zR p2 far q):=za (by subst hE;exact ⟨⟨kb1,kb2,kb12,⟨z0,y0,by show wc.heap.size< W0.heap.size;omega⟩,⟨by show B1< wc.heap.size+1;omega,by show B2< wc.heap.size+1;omega,by show wc.heap.size+1< W0.heap.size;omega⟩,⟨by show B1< wc.heap.size+1+1+1;omega,by show B2< wc.heap.size+1+1+1;omega,by show wc.heap.size+1+1+1< W0.heap.size;omega⟩,⟨by show B1< wc.heap.size+1+1;omega,by show B2< wc.heap.size+1+1;omega,by show wc.heap.size+1+1< W0.heap.size;omega⟩⟩,rfl,rfl,rfl,rfl,rfl,rfl,rfl,rfl,rfl⟩);have G0:Hid (∀D:Array Bool,D.getD 8 false=false→D.getD 9 false=false→E.C D W.drew):=za (fun D h8 h9=>by
    subst hE;unfold ShE.C;rw [h8,h9];exact ⟨hbq,hb1,hb2,(Zf (zb W 1)).from _,Kp4.grown (zb W 1) (by show w.heap.size≤W.heap.size;omega) (by show wc.heap.size< W.heap.size;omega) (by show wc.heap.size+1< W.heap.size;omega) (by show wc.heap.size+1+1+1< W.heap.size;omega) (by show wc.heap.size+1+1< W.heap.size;omega),g0.trans ((zG (zb W 1)).mono (by show w.heap.size≤W.heap.size;omega)),hws⟩)
   have HF:Hid (∀D V,D.getD 8 false=true→D.getD 9 false=true→E.C D V→KeepsFrom W0.heap.size W V∧Kp4 w.heap.size wc.heap.size (wc.heap.size+1) (wc.heap.size+1+1+1) (wc.heap.size+1+1) W V∧Boxed V w.heap.size 22 (.int .u64 q)∧Boxed V B1 22 (.int .u64 (xP q ((pre++ [(own,far)]).map (·.1))))∧Boxed V B2 22 (.int .u64 (xP q ((pre++ [(own,far)]).map (·.2))))∧Below w.heap.size w V∧W0.heap.size≤V.heap.size):=za (fun D V h8 h9 h=>by
    rw [t0.z.1,t0.z.2];subst hE;unfold ShE.C at h;rw [h8,h9] at h;exact ⟨h.from',h.kp,h.q,ShE.At.one h,ShE.At.two h,h.bl,h.sz⟩)
   clear hE hbq hb1 hb2 g0 hws;dsimp only
   gi_wp2
   refine xL (l0:=l) (R:=fun _ V=>KeepsFrom W0.heap.size W V∧Kp4 w.heap.size wc.heap.size (wc.heap.size+1) (wc.heap.size+1+1+1) (wc.heap.size+1+1) W V∧Boxed V w.heap.size 22 (.int .u64 q)∧Boxed V B1 22 (.int .u64 (xP q ((pre++ [(own,far)]).map (·.1))))∧Boxed V B2 22 (.int .u64 (xP q ((pre++ [(own,far)]).map (·.2))))∧Below w.heap.size w V∧W0.heap.size≤V.heap.size) (by kernel_rfl) (by kernel_rfl) (fun a w h=>⟨rfl,h⟩) ?_;refine Mo 10 E.C [.int .u64 p1, .int .u64 own, .int .u64 q, .int .u64 (zR p1 own q), .int .u64 p2, .int .u64 far, .int .u64 q, .int .u64 (zR p2 far q),undef,undef] (by kernel_rfl) rfl (G0.z _ (by kernel_rfl) (by kernel_rfl)) ?_ ?_;refine Yj.step [] (by kernel_rfl) (fun D V c0 hD b0 hC=> ?_) ?_
   ·refine ZJ rfl fun K hK=> ?_
    have hb:=(ShE.C.one hC (b0 8 (by kernel_rfl))).cell;rw [HE.z.2.1,HE.z.2.2.2.2.2.2.1] at hb;go_simp;exact hK _ _ rfl rfl (ShE.C.grown HE.z.1 hC gRf 0 (by decide) (by decide))
   refine Yj.step [] (by kernel_rfl) (fun D V c0 hD b0 hC=> ?_) ?_
   ·refine ZJ rfl fun K hK=> ?_
    go_simp;exact hK _ _ rfl rfl (ShE.C.grown HE.z.1 hC gRf 1 (by decide) (by decide))
   refine Yj.step [] (by kernel_rfl) (fun D V c0 hD b0 hC=> ?_) ?_
   ·refine ZJ rfl fun K hK=> ?_
    have hb:=hC.q.cell;rw [HE.z.2.2.2.2.1,HE.z.2.2.2.2.2.1] at hb;go_simp;exact hK _ _ rfl rfl (ShE.C.grown HE.z.1 hC gRf 2 (by decide) (by decide))
   refine Yj.step [(0,28),(1,29),(2,30)] (by kernel_rfl) (fun D V c0 hD b0 hC=> ?_) ?_
   ·rintro _ rfl;rintro _ rfl;rintro _ rfl;refine ZJ rfl fun K hK=> ?_
    go_simp;refine (UA p1 own q V HP.z.1 HP.z.2.2.1).mono ?_;rintro e V2 ⟨rfl,hg⟩;exact hK _ _ rfl rfl (ShE.C.grown HE.z.1 hC hg 3 (by decide) (by decide))
   refine Yj.step [] (by kernel_rfl) (fun D V c0 hD b0 hC=> ?_) ?_
   ·refine ZJ rfl fun K hK=> ?_
    have hb:=(ShE.C.two hC (b0 9 (by kernel_rfl))).cell;rw [HE.z.2.2.1,HE.z.2.2.2.2.2.2.2.1] at hb;go_simp;exact hK _ _ rfl rfl (ShE.C.grown HE.z.1 hC gRf 4 (by decide) (by decide))
   refine Yj.step [] (by kernel_rfl) (fun D V c0 hD b0 hC=> ?_) ?_
   ·refine ZJ rfl fun K hK=> ?_
    go_simp;exact hK _ _ rfl rfl (ShE.C.grown HE.z.1 hC gRf 5 (by decide) (by decide))
   refine Yj.step [] (by kernel_rfl) (fun D V c0 hD b0 hC=> ?_) ?_
   ·refine ZJ rfl fun K hK=> ?_
    have hb:=hC.q.cell;rw [HE.z.2.2.2.2.1,HE.z.2.2.2.2.2.1] at hb;go_simp;exact hK _ _ rfl rfl (ShE.C.grown HE.z.1 hC gRf 6 (by decide) (by decide))
   refine Yj.step [(4,32),(5,33),(6,34)] (by kernel_rfl) (fun D V c0 hD b0 hC=> ?_) ?_
   ·rintro _ rfl;rintro _ rfl;rintro _ rfl;refine ZJ rfl fun K hK=> ?_
    go_simp;refine (UA p2 far q V HP.z.2.1 HP.z.2.2.2).mono ?_;rintro e V2 ⟨rfl,hg⟩;exact hK _ _ rfl rfl (ShE.C.grown HE.z.1 hC hg 7 (by decide) (by decide))
   refine Yj.step [(3,31)] (by kernel_rfl) (fun D V c0 hD b0 hC=> ?_) ?_
   ·rintro _ rfl;refine ZJ rfl fun K hK=> ?_
    have m0:=ShE.C.one hC (b0 8 (by kernel_rfl));have k0:=m0.cell;have r0:=m0.frozen;rw [HE.z.2.1] at k0;rw [HE.z.2.2.2.2.2.2.1] at k0 r0;have a0:=ShE.C.set1 HE.z.1 hC c0;rw [HE.z.2.2.2.2.2.2.1,HE.z.2.2.2.2.2.2.2.2.1] at a0;go_simp;exact hK _ _ rfl rfl a0
   refine Yj.step [(7,35)] (by kernel_rfl) (fun D V c0 hD b0 hC=> ?_) ?_
   ·rintro _ rfl;refine ZJ rfl fun K hK=> ?_
    have m0:=ShE.C.two hC (b0 9 (by kernel_rfl));have k0:=m0.cell;have r0:=m0.frozen;rw [HE.z.2.2.1] at k0;rw [HE.z.2.2.2.2.2.2.2.1] at k0 r0;have a0:=ShE.C.set2 HE.z.1 hC c0;rw [HE.z.2.2.2.2.2.2.2.1,HE.z.2.2.2.2.2.2.2.2.2] at a0;go_simp;exact hK _ _ rfl rfl a0
   ·trivial
   ·intro D V i0 hC;have a0:=HF.z D V (i0 8 (by omega)) (i0 9 (by omega)) hC;clear hC i0;intro x0 _ x1 _ x2 _ x3 _ x4 _ x5 _ x6 _ x7 _ x8 _ x9 _;refine wpList_nil ?_;exact ⟨rfl,a0⟩
  case done=>
   rintro D zs W hD rfl ⟨hbq,hb1,hb2,g0,hws⟩ hK;have j0:=F0.z;have u0:=za (fun w'=>Ex (xP q ((Zm q xs i at_).map (·.1))) q w' (Ur q HQ.z _) HQ.z);rw [j0] at u0;have c1':=hb1.cell;have c2':=hb2.cell;have cq':=hbq.cell;have HK:=za (And.intro g0 (And.intro hK hD));clear hbq hb1 hb2 g0 hK j0;go_wp2_with ((with_reducible refine (u0.z _).mono ?_);rintro e W5 ⟨rfl,n5,rfl⟩);go_region_held3 (fun w'=>w'.cell? ⟨B2,0,none⟩=some (.int .u64 (xP q ((Zm q xs i at_).map (·.2))))) (go_keep) (fail)
   all_goals (go_wp2_with fail)
   obtain ⟨g0,hK,hD⟩:=HK.z;refine ⟨by simp, .inl ⟨_,_,rfl,run_takeDeferred (w:=(W.drewN n5).drew) hK, ?_⟩⟩;have C0:w.heap.size≤W0.heap.size:=by omega
   have a0:w.grownBy (((W.drewN n5).drew).putObj D (.deferred none)) none:=zf (zl (g0.trans (belowK_b (w:=W0) C0 W D _ (.deferred none) hD hK rfl rfl))) (n5+1);exact ⟨_,results_tmp3 rfl _ _ _,rfl,a0⟩
end
section
open Go Go.RowKit Go.Shelf Go.Maps
theorem Ya(m:Int)(w:World)(hm:U64 m):
  Calls prog 229 #[.int .u64 m] w fun e w'=>e= .returned (.bool (zO m))∧w=w':=by
 have hm0:=hm.1;have hm1:=hm.2;clear hm;by_cases h0:0< m
 ·by_cases h1:m≤2305843009213693952
  ·have hr:zO m=true:=by simp [zO,h0,h1]
   rw [hr];clear hr;have h2:decide (m≤2305843009213693952)=true:=by simpa using h1
   go_enter func229,ntmps229;go_wp2;go_ret;exact ⟨rfl,rfl⟩
  ·have hr:zO m=false:=by simp [zO,h1]
   rw [hr];clear hr;have h2:decide (m≤2305843009213693952)=false:=by simpa using h1
   go_enter func229,ntmps229;go_wp2;go_ret;exact ⟨by simp,rfl⟩
 ·have hr:zO m=false:=by simp [zO,h0]
  rw [hr];clear hr;go_enter func229,ntmps229;go_wp2;go_ret;exact ⟨rfl,rfl⟩
def Xu(l:List Int):List Int:=l.foldl (fun s x=>bif s.contains x then s else s++ [x]) []
theorem Tu(l:List Int)(x:Int):Xu (l++ [x])=bif (Xu l).contains x then Xu l else Xu l++ [x]:=by simp only [Xu,List.foldl_append,List.foldl_cons,List.foldl_nil]
def xp(xs:List Int)(q:Int):Int:=if zO q=false then 1 else if 1024< xs.length then 40 else if (Xu (xs.map (· %q))).length< xs.length then 6 else 0
theorem Aq:Keyed prog 22:=int_keyed Tryz.underlying22
theorem Cx(w:World):(zeroValue 3).run prog w= .ok (.int .i64 0) w:=by kernel_rfl
def zIOz(D:DataW Unit)(pre:List Int):Prop:=Maps.Tidy D∧Maps.size D=(Xu pre).length∧ ∀x,Maps.has D (.int .u64 x)=(Xu pre).contains x
theorem zIOz.nil:zIOz (.map []) []:=⟨tidy_empty,rfl,fun _=>rfl⟩
theorem zIOz.put{D:DataW Unit}{pre:List Int}(h:zIOz D pre)(x:Int)(d:DataW Unit):zIOz (D.put (.int .u64 x) d) (pre++ [x]):=by
 obtain ⟨h1,h2,h3⟩:=h;have hk:WideAt.IsKeyLit (.int .u64 x):=trivial;refine ⟨h1.put hk d, ?_,fun y=> ?_⟩
 ·rw [size_put h1,h3 x,Tu];cases (Xu pre).contains x
  ·simp [h2]
  ·simp [h2]
 ·rw [Tu];by_cases e:y=x
  ·subst e;rw [has_put_same h1.isMap hk];cases hc:(Xu pre).contains y
   ·simp
   ·simp only [cond_true,hc]
  ·rw [has_put_other (by intro e';injection e' with _ e';exact e e'),h3 y];cases (Xu pre).contains x
   ·have e':(y==x)=false:=by simpa using e
    simp [e]
   ·rfl
theorem VM(n:Int)(w:World):(Instr.makeMap 275 (some (.int .i64 n))).run prog w= .ok (.map (some w.heap.size)) (w.alloc (.map #[] 0)):=by
 simp [Instr.makeMap,run_underlying Tryz.underlying275,asInt,asIntOf,Result.andThen]
theorem Mp(v:Value)(xs:List Int)(q:Int)(X:Nat→Prop)(w:World)(h:Sl ze X w v xs)(hq:U64 q):
  Calls prog 230 #[v, .int .u64 q] w fun e w'=>e= .returned (.int .i64 (xp xs q))∧w.grownBy w' none:=by
 have H:=za h;have HQ:=za hq;obtain ⟨A,c,rfl,t0,C0⟩:=h.form;clear h hq;cases hm:zO q with
 |false=>
  have hr:xp xs q=1:=by simp [xp,hm]
  rw [hr];have HM:=za hm;clear hr hm;go_enter func230,ntmps230;go_wp2_with ((with_reducible refine (Ya q _ HQ.z).mono ?_);rw [HM.z];rintro e w' ⟨rfl,rfl⟩);go_ret;exact ⟨rfl,gRf⟩
 |true=>
  have HM:=za hm;have n0:0< q:=by simp [zO] at hm;exact hm.1
  have z0: ¬q=0:=by omega
  by_cases hl:1024< xs.length
  ·have hr:xp xs q=40:=by simp [xp,hm,hl]
   rw [hr];clear hr hm;generalize xs.length=n at *;go_enter func230,ntmps230;go_wp2_with ((with_reducible refine (Ya q _ HQ.z).mono ?_);rw [HM.z];rintro e w' ⟨rfl,rfl⟩);go_ret;exact ⟨rfl,gRf⟩
  ·obtain ⟨res,hr⟩:=exq (xp xs q);have g0:Hid (res=if (Xu (xs.map (· %q))).length< xs.length then 6 else 0):=za (by rw [hr];simp [xp,hm,hl]);rw [←hr];clear hr hm;have u0:Hid (zIOz (.map []) ((xs.take 0).map (· %q))):=za zIOz.nil;have HT:Hid (∀k (hk:k< xs.length),(xs.take (k+1)).map (· %q)=(xs.take k).map (· %q)++ [xs[k]%q]):=za (fun k hk=>by rw [tSg hk,lMa];rfl);obtain ⟨n,hn⟩:=exq (xs.length);have HN:=za hn;rw [←hn] at t0 hl ⊢;clear hn;have A0:= @VM;go_enter func230,ntmps230;go_wp2_with ((with_reducible refine (Ya q _ HQ.z).mono ?_);rw [HM.z];rintro e w' ⟨rfl,rfl⟩);go_loopg [21] n (fun g s21 wx=> ∃(k:Nat) (D:DataW Unit),k+g=n∧s21= .int .i64 k∧Hid (wx.ownsMap prog 22 (plainElem prog 3) w.heap.size k D∧zIOz D ((xs.take k).map (· %q))∧Below w.heap.size w wx))
   case atStart=>exact ⟨0, .map [],by omega,rfl,za ⟨World.ownsMap_made _ _ _ _,u0.z,(Below.refl _ _).alloc (nRf _) _⟩⟩
   case round=>
    obtain ⟨k,D,hk,rfl,HR⟩:=hrel;cases gk with
    |zero=>
     obtain rfl:k=n:=by omega
     have m0:Maps.size D=(Xu (xs.map (· %q))).length:=by rw [HR.z.2.1.2.1,HN.z,List.take_length]
     have HS:=za m0;have i0:=za HR.z.2.2;have a0:=HR.z.1;clear HR m0;by_cases d0:(Xu (xs.map (· %q))).length< k
     ·rw [←HS.z] at d0;have j0:decide (((Maps.size D:Nat):Int)< (k:Int))=true:=by simpa using d0
      go_wp2_with (first|(at_len;refine wpList_len_own _ rfl _ 275 rfl 22 3 Tryz.underlying275 _ w.heap.size k D rfl a0 ?_)|go_in);go_ret;exact ⟨by rw [g0.z, ←HS.z, ←HN.z];simp [d0],zl i0.z⟩
     ·rw [←HS.z] at d0;have j0:decide (((Maps.size D:Nat):Int)< (k:Int))=false:=by simpa using d0
      go_wp2_with (first|(at_len;refine wpList_len_own _ rfl _ 275 rfl 22 3 Tryz.underlying275 _ w.heap.size k D rfl a0 ?_)|go_in);go_ret;exact ⟨by rw [g0.z, ←HS.z, ←HN.z];simp [d0],zl i0.z⟩
    |succ m=>
     have B0:(k:Int)< (n:Int):=by omega
     have k0:k< xs.length:=by rw [←HN.z];omega
     have a0:=HR.z.1;obtain ⟨g,of,c',e,_,_,o0,hu⟩:=((H.out.kept (zl HR.z.2.2)).atU k0);injection e with e1 e2 e3
     subst e1 e3;have hb:=yd xs[k] q n0;have HP:Hid (zIOz (D.put (.int .u64 (Int.tmod xs[k] q)) (.lit (.int .i64 0))) ((xs.take (k+1)).map (· %q))):=za (by rw [HT.z k k0,Int.tmod_eq_emod_of_nonneg hu.1];exact HR.z.2.1.put _ _);have l0:(Lit.int .u64 (Int.tmod xs[k] q)).wf=true:=by rw [Int.tmod_eq_emod_of_nonneg hu.1];exact WalkArith.wf_u64 ⟨hb.1,by have:=(GE xs[k] q hu n0).2;omega⟩
     have i0:=za HR.z.2.2;have r0:=za (HT.z k k0);have s0:=za HR.z.2.1;have q0:=za hu;have p0:=za l0;clear HP HR hb hu l0;have v0:Hid (∀d,zIOz (D.put (.int .u64 (Int.tmod xs[k] q)) d) ((xs.take (k+1)).map (· %q))):=za (fun d=>by rw [r0.z,Int.tmod_eq_emod_of_nonneg q0.z.1];exact s0.z.put _ d);clear r0 s0 q0;generalize xs[k]=xk at *;go_wp2_with (first
      |(at_lookup;refine wpList_lookup_own_int _ rfl _ _ 275 rfl 22 3 .i64 Aq Tryz.underlying275 Tryz.underlying3 (Cx _) w.heap.size k D rfl a0 _ _ rfl (keyOf_int_mk Tryz.underlying22 p0.z) ?_;intro c0 D0 y0)
      |(at_mapUpdate;refine wpList_mapUpdate_own _ rfl _ _ _ 275 rfl 22 3 Aq Tryz.underlying275 _ w.heap.size k D rfl a0 (by unfold maxLen;omega) _ _ _ rfl rfl (keyOf_int_mk Tryz.underlying22 p0.z) _ [] (plainElem_int Tryz.underlying3 (wrap64_wf _)) ?_;intro w1 f0 b0)
      |go_in)
     go_roundg m
     case measure=>omega
     case rel=>exact ⟨k+1,_,by omega,by go_num,za ⟨f0,v0.z _,i0.z.grown b0 i0.z.size (fun j hj=>by cases hj;exact nRf _)⟩⟩
end
section
open Go Go.RowKit Go.Shelf
def xO(q:Int)(xs:List Int)(at_:Int)(i:Nat):Int:=xP q ((Zm q xs i at_).map (·.1))
def DB(q:Int)(xs:List Int)(at_:Int)(i:Nat):Int:=xP q ((Zm q xs i at_).map (·.2))
theorem Mz{q:Int}{xs:List Int}{i:Nat}{at_:Int}(h:yi (xO q xs at_ i) q):Ul q xs i at_= .tuple #[.int .u64 (Qc (xO q xs at_ i) q), .int .u64 (DB q xs at_ i), .int .i64 0]:=by
 unfold Ul;exact if_pos h
theorem KA{q:Int}{xs:List Int}{i:Nat}{at_:Int}(h: ¬yi (xO q xs at_ i) q):Ul q xs i at_= .tuple #[.int .u64 0, .int .u64 (DB q xs at_ i), .int .i64 5]:=by
 unfold Ul;exact if_neg h
open Classical in
noncomputable def FI(q:Int)(xs:List Int)(at_:Int):Int:=if xp xs q=0 then (if ∀i,i< xs.length→yi (xO q xs at_ i) q then 0 else 5) else xp xs q
theorem Qg{xs:List Int}{q:Int}(h:xp xs q=0):zO q=true∧xs.length≤1024:=by
 unfold xp at h;split at h
 ·omega
 ·split at h
  ·omega
  ·exact ⟨by simpa using ‹¬zO q=false›,by omega⟩
theorem Gv{a q:Int}(hq:zO q=true)(h:yi a q):U64 (Qc a q):=by
 have:=QT h
 simp [zO] at hq;exact ⟨this.1,by omega⟩
end
section
open Go Go.RowKit Go.Shelf
def Qs(p:Par):Bool:=decide (0≤p.K∧0≤p.D∧p.K≤2∧p.D≤4)
end
section
open Go Go.RowKit
theorem Yq{n:Int}(h: -9223372036854775808≤n∧n≤9223372036854775807):wrap64 n=n:=by unfold wrap64;omega
theorem YR{p:Par}(h:Qs p=true):0≤zU p∧zU p≤10:=by
 simp [Qs] at h;obtain ⟨h1,h2,h3,h4⟩:=h;have e1:wrap64 (p.D+1)=p.D+1:=Yq (by omega);have h5:0≤p.K*(p.D+1):=Int.mul_nonneg h1 (by omega);have h6:p.K*(p.D+1)≤2*5:=Int.mul_le_mul h3 (by omega) (by omega) (by omega);have e2:zU p=p.K*(p.D+1):=by unfold zU;rw [e1];exact Yq (by omega)
 rw [e2];omega
theorem UG{w:World}{a b:Obj}:w.grownBy ((w.alloc a).alloc b) none:=(gAl w _ none).trans (gAl _ _ none)
theorem Bk.one{w:World}{b:Nat}{t:TypeId}{u:Value}(h:Bk w b t #[u]): ∀j v, [u][j]? =some v→w.cell? ⟨b,j,none⟩=some v:=fun j v hv=>by rw [h.cell j];simpa using hv
section
variable {α:Type} {P:Program} {E:Enc α} {base:Nat} {e:TypeId} {X:Nat→Prop} {w:World} {v:Value} {xs:List α}
theorem yu{cs:List Value}{y:α}{t:TypeId}{bytes b c:Nat}(hE:zM P t e E.size bytes)(d0:Acc E base e X w v xs)(a0:E.rep (fun g=>X g∧some g≠v.ownBlock) w cs y)(b0: ∀j u,cs[j]? =some u→w.cell? ⟨b,j,none⟩=some u)
  (g0:(xs.length+1)*bytes≤140737488355328) (hb:base≤w.heap.size) (hN: ∀g,w.heap.size≤g→X g)
  {o:Oper} {a:Act} {K:Act→World→Prop} {Q:Exit→Act→World→Prop} (s x:Operand)
  (ho:o.op= .call {callee:= .builtin .append,args:= #[s,x],argTypes:= #[t,t]}) (hs:a.eval s=v) (hx:a.eval x= .slice (some ⟨b,0,none⟩) 1 c)
  (h: ∀v' w',Acc E base e X w' v' (xs++ [y])→w.grownBy w' v.ownBlock→Zr w v v'→K (a.put o.dst v') w'):o.wp P a w K Q:=by
 obtain ⟨_,l0,h1,_,h3⟩:=id d0;have i0:=E.len a0;refine Ka s x t ho (size:=E.size) hE E.pos hs h3 (some ⟨b,0,none⟩) 1 c cs hx (by rw [i0,Nat.one_mul]) (by simp) ?_ (E.ones a0) g0 hb ?_
 ·intro ad e' j u hu;injection e' with e'
  subst e';rw [←b0 j u hu];unfold Addr.add;split
  ·rename_i h0
   have:j=0:=by simpa using h0
   subst this;rfl
  ·simp
 ·intro v' w' f0 hg k0;have c0:Zr w v v':=k0.imp id fun e=>⟨_,nRf _,e⟩
  refine h v' w' (d0.app (cs2:= [cs]) (ys:= [y]) rfl (fun i hi m0=> ?_) (fun css' j0=> ?_) hg c0 hN) hg c0
  ·have:i=0:=by simp at hi;omega
   subst this;exact a0
  ·have e1:css'=l0.flatten:=Rp j0 h3;rw [e1];simpa using f0
end
theorem QJ(x:Int×Int)(w:World)(hx:U64 x.1∧U64 x.2):
  Calls prog 159 #[.agg #[.int .u64 x.1, .int .u64 x.2]] w (zN ze (fun g=>w.heap.size≤g) w [x.1,x.2]):=by
 have HX:=za hx;have HS:Hid (Sl ze (fun g=>w.heap.size≤g) ((w.alloc (Obj.cells #[.int .u64 x.1, .int .u64 x.2] 153)).alloc (.cells #[.int .u64 x.1, .int .u64 x.2] 22)) (.slice (some ⟨w.heap.size+1,0,none⟩) 2 2) [x.1,x.2]):=za (by
  have h:=Bk.new (w.alloc (Obj.cells #[.int .u64 x.1, .int .u64 x.2] 153)) 22 #[.int .u64 x.1, .int .u64 x.2];rw [World.size_alloc] at h;exact Sl.block (xs:= [x.1,x.2]) h (by omega) [[.int .u64 x.1], [.int .u64 x.2]] rfl (fun i hi hi'=>by
   match i,hi with
   |0,_=>exact ⟨rfl,HX.z.1⟩
   |1,_=>exact ⟨rfl,HX.z.2⟩) rfl (nRf _) (by decide))
 obtain ⟨a,b⟩:=x;clear hx;go_enter func159,ntmps159;go_wp2;go_ret;exact ⟨_,rfl,HS.z,UG⟩
theorem RJ(v:Value)(l:List (Int×Int))(X:Nat→Prop)(w:World)(h:Sl zq X w v l)(hb:l.length≤1000):
  Calls prog 158 #[v, .func (.func 159) #[] #[]] w (zN (zh ze) (fun g=>w.heap.size≤g) w (l.map fun x=> [x.1,x.2])):=by
 have H:=za h;have HB:=za hb;obtain ⟨A,c,rfl,A0,z0⟩:=h.form;clear h hb;go_enter func158,ntmps158;go_wp2_with fail;go_loopg [5,10] l.length (fun g s5 s10 wx=> ∃j:Nat,j+g=l.length∧s10= .int .i64 j∧Hid (Acc (zh ze) w.heap.size 31 (fun g=>w.heap.size≤g) wx s5 ((l.take j).map fun x=> [x.1,x.2])∧w.grownBy wx none))
 case atStart=>exact ⟨0,by omega,rfl,za ⟨Acc.nil _ _ _ _ _,gRf⟩⟩
 case round=>
  obtain ⟨j,hj,rfl,HX⟩:=hrel;cases gk with
  |zero=>
   obtain rfl:j=l.length:=by omega
   have HR:Hid (Sl (zh ze) (fun g=>w.heap.size≤g) wr u5 (l.map fun x=> [x.1,x.2])∧w.grownBy wr none):=za ⟨by have:=HX.z.1.sl;rwa [List.take_length] at this,HX.z.2⟩;clear HX;go_wp2;go_ret;exact ⟨_,rfl,HR.z.1,HR.z.2⟩
  |succ m=>
   have y0:(j:Int)< (l.length:Int):=by omega
   have q0:j< l.length:=by omega
   obtain ⟨f0,hg⟩:=HX.z;obtain ⟨g,o,c',e,_,_,j0,b0,p0,o0⟩:=(H.out.kept hg).atP q0;injection e with e1 e2 e3
   subst e1 e3;have k0:Hid ((l.take (j+1)).map (fun x=> [x.1,x.2])=(l.take j).map (fun x=> [x.1,x.2])++ [[l[j].1,l[j].2]]):=za (by rw [tSg q0,lMa];rfl);have HU:=za (And.intro p0 o0);have s0:=za f0;have HG:=za hg;have u0:Hid ((((l.take j).map fun x=> [x.1,x.2]).length+1)*24≤140737488355328):=za (by have:=HB.z;simp;omega);obtain ⟨y,hy⟩:=exq (l[j]);rw [←hy] at k0 HU j0 b0;obtain ⟨wa,c0⟩:=exq (wr.alloc (Obj.cells #[.int .u64 y.1, .int .u64 y.2] 153));have i0:Hid (wr.grownBy wa none):=za (by rw [c0];exact gAl _ _ none);have g0:Bk wa wr.heap.size 153 #[.int .u64 y.1, .int .u64 y.2]:=by rw [c0];exact Bk.new _ _ _
   have HC:=za (QJ y wa HU.z);obtain ⟨ya,yb⟩:=y;simp only at j0 b0 HC k0 c0 g0;have d0:=g0.cell 0;have d1:=g0.cell 1;simp at d0 d1;clear f0 hg HX p0 o0 e2 hy g0;generalize l.length=n at *;go_wp2_with fail;rw [←c0];clear c0;refine HC.z.mono ?_;rintro e w1 ⟨v1,rfl,hs1,hg1⟩;obtain ⟨A1,c1,e1,_,_⟩:=hs1.form;subst e1;have v0:Hid (w.grownBy w1 none):=za (HG.z.trans (i0.z.trans hg1));have n0:=za (s0.z.kept (i0.z.trans hg1));have l0:Hid ((zh ze).rep (fun g=>w.heap.size≤g∧some g≠u5.ownBlock) w1 [.slice A1 2 c1] [ya,yb]):=za ⟨_,rfl,hs1.more fun g _ h=>⟨nLT (HG.z.trans i0.z).size h,fun e=>by have h1:=(s0.z.lt g e.symm).2;have h2:=i0.z.size;omega⟩⟩;clear hs1 hg1 d0 d1 j0 b0;go_wp2_with (at_builtin;refine zF rfl (.tmp 14) (.tmp 18) rfl (E:=zh ze) (y:= [ya,yb]) Zo v0.z n0.z (fun _ h=>h) l0.z u0.z rfl rfl ?_);intro v2 w2 a0 r0 t0;have m0:Hid (Acc (zh ze) w.heap.size 31 (fun g=>w.heap.size≤g) w2 v2 ((l.take (j+1)).map fun x=> [x.1,x.2])∧w.grownBy w2 none):=za ⟨by rw [k0.z];simpa using a0,r0⟩;clear a0 r0 t0;go_wp2_with fail;go_roundg m
   case measure=>omega
   case rel=>exact ⟨j+1,by omega,by go_num,m0⟩
theorem XH(v:Value)(ls:List (List Int))(X:Nat→Prop)(w:World)(h:Sl (zh ze) X w v ls)(hb:ls.length≤1000)(d0: ∀x∈ls,x.length≤1000):
  Calls prog 111 #[v] w (zN ze (fun g=>w.heap.size≤g) w ls.flatten):=by
 have H:=za h;have p0:=za d0;have HB:=za hb;obtain ⟨A,c,rfl,t0,s0⟩:=h.form;have o0:Hid (∀j,(ls.take j).flatten.length≤j*1000):=za (fun j=>by
  induction j with
  |zero=>simp
  |succ j ih=>
   rcases Nat.lt_or_ge j ls.length with h|h
   ·rw [tSg h,List.flatten_append,lLa];have h1:=d0 _ (lGm h);have h2: [ls[j]].flatten.length=ls[j].length:=by simp
    rw [h2,Nat.add_mul];exact Nat.add_le_add ih (by rw [Nat.one_mul];exact h1)
   ·rw [List.take_of_length_le (show ls.length≤j+1 from Nat.le_succ_of_le h)];rw [List.take_of_length_le h] at ih;exact nLT ih (Nat.mul_le_mul_right _ (Nat.le_succ j)))
 clear h hb d0;go_enter func111,ntmps111;go_wp2_with fail;go_loopg [3,8] ls.length (fun g s3 s8 wx=> ∃j:Nat,j+g=ls.length∧s8= .int .i64 j∧Hid (Acc ze w.heap.size 22 (fun g=>w.heap.size≤g) wx s3 (ls.take j).flatten∧w.grownBy wx none))
 case atStart=>exact ⟨0,by omega,rfl,za ⟨Acc.nil _ _ _ _ _,gRf⟩⟩
 case round=>
  obtain ⟨j,hj,rfl,HX⟩:=hrel;cases gk with
  |zero=>
   obtain rfl:j=ls.length:=by omega
   have HR:Hid (Sl ze (fun g=>w.heap.size≤g) wr u3 ls.flatten∧w.grownBy wr none):=za ⟨by have:=HX.z.1.sl;rwa [List.take_length] at this,HX.z.2⟩;clear HX;go_wp2;go_ret;exact ⟨_,rfl,HR.z.1,HR.z.2⟩
  |succ m=>
   have q0:(j:Int)< (ls.length:Int):=by omega
   have c0:j< ls.length:=by omega
   obtain ⟨b0,hg⟩:=HX.z;obtain ⟨g,o,c',u,e,_,_,r0,hu⟩:=(H.out.kept hg).atS c0;injection e with e1 e2 e3
   subst e1 e3;have k0:Hid ((ls.take (j+1)).flatten=(ls.take j).flatten++ls[j]):=za (by rw [tSg c0,List.flatten_append];simp);have m0:=za b0;have HG:=za hg;obtain ⟨A1,c1,e1,_,_⟩:=hu.form;have l0:Hid (((ls.take j).flatten.length+ls[j].length)*8≤140737488355328):=za (by have h1:=o0.z j;have h2:=HB.z;have h3:=p0.z _ (lGm c0);omega);have j0:Hid (w.heap.size≤wr.heap.size):=za hg.size;have HU:=za hu;clear b0 hg HX hu e2;obtain ⟨y,hy⟩:=exq (ls[j]);rw [←hy] at e1 k0 l0 HU;clear hy;obtain ⟨ny,g0⟩:=exq (y.length);rw [←g0] at e1;subst e1;clear g0;go_wp2_with (at_builtin;refine xF rfl (.tmp 12) (.tmp 13) rfl (E:=ze) xD m0.z rfl rfl HU.z (fun _ _ h=>h) l0.z j0.z (fun _ h=>nLT j0.z h) ?_);intro v2 w2 a0 i0 n0;have f0:Hid (Acc ze w.heap.size 22 (fun g=>w.heap.size≤g) w2 v2 (ls.take (j+1)).flatten∧w.grownBy w2 none):=za ⟨by rw [k0.z];exact a0,zP HG.z i0 (fun k e=>(m0.z.lt k e).1)⟩;clear a0 i0 n0;go_wp2_with fail;go_roundg m
   case measure=>omega
   case rel=>exact ⟨j+1,by omega,by go_num,f0⟩
theorem TP(v:Value)(l:List (Int×Int))(X:Nat→Prop)(w:World)(h:Sl zq X w v l)(hb:l.length≤1000):
  Calls prog 113 #[v] w (zN ze (fun g=>w.heap.size≤g) w (l.map fun x=> [x.1,x.2]).flatten):=by
 have HE:=za (RJ v l X w h hb);have HF:=za (fun u Y w' (hs:Sl (zh ze) Y w' u (l.map fun x=> [x.1,x.2]))=>XH u _ Y w' hs (by simpa using hb) (fun x hx=>by obtain ⟨y,_,rfl⟩:=List.mem_map.1 hx;simp));obtain ⟨A,c,rfl,_,_⟩:=h.form;clear h;go_enter func113,ntmps113;go_wp2_with fail;refine HE.z.mono ?_;rintro e w1 ⟨v1,rfl,hs1,hg1⟩;have HG1:=za hg1;have HS1:=za hs1;clear hs1 hg1;go_wp2_with fail;refine (HF.z _ _ _ HS1.z).mono ?_;rintro e w2 ⟨v2,rfl,hs2,hg2⟩;have HR:Hid (Sl ze (fun g=>w.heap.size≤g) w2 v2 (l.map fun x=> [x.1,x.2]).flatten∧w.grownBy w2 none):=za ⟨hs2.more fun g _ h=>nLT HG1.z.size h,HG1.z.trans hg2⟩;clear hs2 hg2;go_wp2;go_ret;exact ⟨_,rfl,HR.z⟩
end
section
open Go Go.RowKit Go.Shelf
attribute [local go_sem] Oper.semAt_some
end
section
open Go Go.RowKit Go.Shelf
attribute [local go_sem] Oper.semAt_some
structure Zj {α β:Type} (E:Enc α) (F:Enc β) (base:Nat) (e f:TypeId) (Z:Nat→Prop) (w:World) (v u:Value) (xs:List α) (ys:List β):Prop where
 fst:Acc E base e (fun g=>Z g∧some g≠u.ownBlock) w v xs
 snd:Acc F base f (fun g=>Z g∧some g≠v.ownBlock) w u ys
section
variable {α β:Type} {E:Enc α} {F:Enc β} {base:Nat} {e f:TypeId} {Z:Nat→Prop} {w w':World} {v u v' u':Value} {xs xs':List α} {ys ys':List β}
theorem Zj.kept(h:Zj E F base e f Z w v u xs ys)(hg:w.grownBy w' none):Zj E F base e f Z w' v u xs ys:=⟨h.fst.kept hg,h.snd.kept hg⟩
theorem Zj.swap(h:Zj E F base e f Z w v u xs ys):Zj F E base f e Z w u v ys xs:=⟨h.snd,h.fst⟩
theorem Zj.one(h:Zj E F base e f Z w v u xs ys)(ha:Acc E base e (fun g=>Z g∧some g≠u.ownBlock) w' v' xs')(hg:w.grownBy w' v.ownBlock)(hm:Zr w v v'):Zj E F base e f Z w' v' u xs' ys:=by
 refine ⟨ha, ?_⟩;have h1:Acc F base f (fun g=>(Z g∧some g≠v'.ownBlock)∧some g≠v.ownBlock) w u ys:=h.snd.more fun g hg hx=>⟨⟨hx.1,fun e=>hm.ne hg (fun e'=>hx.2 e'.symm) e.symm⟩,hx.2⟩
 exact (h1.keep hg fun g hx=>hx.2).more fun g _ hx=>hx.1
theorem Zj.two(h:Zj E F base e f Z w v u xs ys)(ha:Acc F base f (fun g=>Z g∧some g≠v.ownBlock) w' u' ys')(hg:w.grownBy w' u.ownBlock)(hm:Zr w u u'):Zj E F base e f Z w' v u' xs ys':=(h.swap.one ha hg hm).swap
theorem Zj.new1(h:Zj E F base e f Z w v u xs ys)(hZ: ∀g,w.heap.size≤g→Z g): ∀g,w.heap.size≤g→Z g∧some g≠u.ownBlock:=fun g hg=>⟨hZ g hg,fun e=>by have:=(h.snd.lt g e.symm).2;omega⟩
theorem Zj.new2(h:Zj E F base e f Z w v u xs ys)(hZ: ∀g,w.heap.size≤g→Z g): ∀g,w.heap.size≤g→Z g∧some g≠v.ownBlock:=fun g hg=>⟨hZ g hg,fun e=>by have:=(h.fst.lt g e.symm).2;omega⟩
end
theorem Zj.keep{α β:Type}{E:Enc α}{F:Enc β}{base:Nat}{e f:TypeId}{Z:Nat→Prop}{w w':World}{v u:Value}{xs:List α}{ys:List β}{row:Option Nat}(h:Zj E F base e f Z w v u xs ys)(hg:w.grownBy w' row)(hZ: ∀g,Z g→some g≠row):Zj E F base e f Z w' v u xs ys:=⟨h.fst.keep hg fun g hx=>hZ g hx.1,h.snd.keep hg fun g hx=>hZ g hx.1⟩
theorem XS{w w':World}{g o:Nat}{u:Value}{row:Option Nat}(h:w.cell? ⟨g,o,none⟩=some u)(hg:w.grownBy w' row)(hne:some g≠row):w'.cell? ⟨g,o,none⟩=some u:=(World.cell?_of_block (w:=w) (hg.block g (block_lt_of_cell h) hne)).trans h
def BU(n:Nat)(t:TypeId)(u v:Value)(w:World):Prop:= ∃b,v= .slice (some ⟨b,0,none⟩) 1 1∧n≤b∧Bk w b t #[u]
section
variable {base:Nat} {W wd w' w3:World} {vW vB u v3:Value} {g8 d:Nat} {bv:Int} {xsW:List (List Int)} {xsB:List Int} {yW:List Int}
end
theorem zo(w:World)(g o:Nat)(v:Value):w.grownBy (w.setCell ⟨g,o,none⟩ v) (some g):=⟨rfl,rfl,rfl,by simp [World.setCell],fun k _ hne=>Below.heap_setCell w ⟨g,o,none⟩ v k (fun e=>hne (by rw [e]))⟩
theorem Zg{w w1:World}(h:w.grownBy w1 none){g:Nat}(o:Nat)(v:Value)(hg:w.heap.size≤g):w.grownBy (w1.setCell ⟨g,o,none⟩ v) none:=zP h (zo w1 g o v) (fun k e=>by injection e with e;omega)
theorem Sl.shape{α:Type}{E:Enc α}{X:Nat→Prop}{w:World}{v:Value}{xs:List α}(h:Sl E X w v xs): ∃A n c,v= .slice A n c:=by
 obtain ⟨A,c,e,_,_⟩:=h.form;exact ⟨_,_,_,e⟩
end
section
open Go Go.RowKit
theorem Pc(v:Value)(ls:List (List (Int×Int)))(X:Nat→Prop)(w:World)(h:Sl (zh zq) X w v ls)(hb:ls.length≤1000)(d0: ∀x∈ls,x.length≤1000):
  Calls prog 114 #[v] w (zN zq (fun g=>w.heap.size≤g) w ls.flatten):=by
 have H:=za h;have p0:=za d0;have HB:=za hb;obtain ⟨A,c,rfl,t0,s0⟩:=h.form;have o0:Hid (∀j,(ls.take j).flatten.length≤j*1000):=za (fun j=>by
  induction j with
  |zero=>simp
  |succ j ih=>
   rcases Nat.lt_or_ge j ls.length with h|h
   ·rw [tSg h,List.flatten_append,lLa];have h1:=d0 _ (lGm h);have h2: [ls[j]].flatten.length=ls[j].length:=by simp
    rw [h2,Nat.add_mul];exact Nat.add_le_add ih (by rw [Nat.one_mul];exact h1)
   ·rw [List.take_of_length_le (show ls.length≤j+1 from Nat.le_succ_of_le h)];rw [List.take_of_length_le h] at ih;exact nLT ih (Nat.mul_le_mul_right _ (Nat.le_succ j)))
 clear h hb d0;go_enter func114,ntmps114;go_wp2_with fail;go_loopg [3,8] ls.length (fun g s3 s8 wx=> ∃j:Nat,j+g=ls.length∧s8= .int .i64 j∧Hid (Acc zq w.heap.size 153 (fun g=>w.heap.size≤g) wx s3 (ls.take j).flatten∧w.grownBy wx none))
 case atStart=>exact ⟨0,by omega,rfl,za ⟨Acc.nil _ _ _ _ _,gRf⟩⟩
 case round=>
  obtain ⟨j,hj,rfl,HX⟩:=hrel;cases gk with
  |zero=>
   obtain rfl:j=ls.length:=by omega
   have HR:Hid (Sl zq (fun g=>w.heap.size≤g) wr u3 ls.flatten∧w.grownBy wr none):=za ⟨by have:=HX.z.1.sl;rwa [List.take_length] at this,HX.z.2⟩;clear HX;go_wp2;go_ret;exact ⟨_,rfl,HR.z.1,HR.z.2⟩
  |succ m=>
   have q0:(j:Int)< (ls.length:Int):=by omega
   have c0:j< ls.length:=by omega
   obtain ⟨b0,hg⟩:=HX.z;obtain ⟨g,o,c',u,e,_,_,r0,hu⟩:=(H.out.kept hg).atS c0;injection e with e1 e2 e3
   subst e1 e3;have k0:Hid ((ls.take (j+1)).flatten=(ls.take j).flatten++ls[j]):=za (by rw [tSg c0,List.flatten_append];simp);have m0:=za b0;have HG:=za hg;obtain ⟨A1,c1,e1,_,_⟩:=hu.form;have l0:Hid (((ls.take j).flatten.length+ls[j].length)*16≤140737488355328):=za (by have h1:=o0.z j;have h2:=HB.z;have h3:=p0.z _ (lGm c0);omega);have j0:Hid (w.heap.size≤wr.heap.size):=za hg.size;have HU:=za hu;clear b0 hg HX hu e2;obtain ⟨y,hy⟩:=exq (ls[j]);rw [←hy] at e1 k0 l0 HU;clear hy;obtain ⟨ny,g0⟩:=exq (y.length);rw [←g0] at e1;subst e1;clear g0;go_wp2_with (at_builtin;refine xF rfl (.tmp 12) (.tmp 13) rfl (E:=zq) Xd m0.z rfl rfl HU.z (fun _ _ h=>h) l0.z j0.z (fun _ h=>nLT j0.z h) ?_);intro v2 w2 a0 i0 n0;have f0:Hid (Acc zq w.heap.size 153 (fun g=>w.heap.size≤g) w2 v2 (ls.take (j+1)).flatten∧w.grownBy w2 none):=za ⟨by rw [k0.z];exact a0,zP HG.z i0 (fun k e=>(m0.z.lt k e).1)⟩;clear a0 i0 n0;go_wp2_with fail;go_roundg m
   case measure=>omega
   case rel=>exact ⟨j+1,by omega,by go_num,f0⟩
theorem JE(v:Value)(ls:List (List (List Int)))(X:Nat→Prop)(w:World)(h:Sl (zh (zh ze)) X w v ls)(hb:ls.length≤1000)(d0: ∀x∈ls,x.length≤1000):
  Calls prog 112 #[v] w (zN (zh ze) TT w ls.flatten):=by
 have H:=za h.bounded;have q0:=za d0;have HB:=za hb;obtain ⟨A,c,rfl,u0,t0⟩:=h.form;have p0:Hid (∀j,(ls.take j).flatten.length≤j*1000):=za (fun j=>by
  induction j with
  |zero=>simp
  |succ j ih=>
   rcases Nat.lt_or_ge j ls.length with h|h
   ·rw [tSg h,List.flatten_append,lLa];have h1:=d0 _ (lGm h);have h2: [ls[j]].flatten.length=ls[j].length:=by simp
    rw [h2,Nat.add_mul];exact Nat.add_le_add ih (by rw [Nat.one_mul];exact h1)
   ·rw [List.take_of_length_le (show ls.length≤j+1 from Nat.le_succ_of_le h)];rw [List.take_of_length_le h] at ih;exact nLT ih (Nat.mul_le_mul_right _ (Nat.le_succ j)))
 clear h hb d0;go_enter func112,ntmps112;go_wp2_with fail;go_loopg [3,8] ls.length (fun g s3 s8 wx=> ∃j:Nat,j+g=ls.length∧s8= .int .i64 j∧Hid (Acc (zh ze) w.heap.size 31 TT wx s3 (ls.take j).flatten∧w.grownBy wx none))
 case atStart=>exact ⟨0,by omega,rfl,za ⟨Acc.nil _ _ _ _ _,gRf⟩⟩
 case round=>
  obtain ⟨j,hj,rfl,HX⟩:=hrel;cases gk with
  |zero=>
   obtain rfl:j=ls.length:=by omega
   have HR:Hid (Sl (zh ze) TT wr u3 ls.flatten∧w.grownBy wr none):=za ⟨by have:=HX.z.1.sl;rwa [List.take_length] at this,HX.z.2⟩;clear HX;go_wp2;go_ret;exact ⟨_,rfl,HR.z.1,HR.z.2⟩
  |succ m=>
   have r0:(j:Int)< (ls.length:Int):=by omega
   have c0:j< ls.length:=by omega
   obtain ⟨b0,hg⟩:=HX.z;obtain ⟨g,o,c',u,e,_,_,s0,hu⟩:=(H.out.kept hg).atS c0;injection e with e1 e2 e3
   subst e1 e3;have j0:Hid ((ls.take (j+1)).flatten=(ls.take j).flatten++ls[j]):=za (by rw [tSg c0,List.flatten_append];simp);have l0:=za b0;have HG:=za hg;obtain ⟨A1,c1,e1,_,_⟩:=hu.form;have k0:Hid (((ls.take j).flatten.length+ls[j].length)*24≤140737488355328):=za (by have h1:=p0.z j;have h2:=HB.z;have h3:=q0.z _ (lGm c0);omega);have n0:Hid (w.heap.size≤wr.heap.size):=za hg.size;have HU:=za hu;have o0:Hid (∀cs y,(zh ze).rep (fun g=>X g∧g< w.heap.size) wr cs y→(zh ze).rep (fun g=>TT g∧some g≠u3.ownBlock) wr cs y):=za (fun cs y h=>(zh ze).more h fun g _ hg=>⟨trivial,fun e=>by have:=(b0.lt g e.symm).1;have:=hg.2;omega⟩);clear b0 hg HX hu e2;obtain ⟨y,hy⟩:=exq (ls[j]);rw [←hy] at e1 j0 k0 HU;clear hy;obtain ⟨ny,g0⟩:=exq (y.length);rw [←g0] at e1;subst e1;clear g0;go_wp2_with (at_builtin;refine xF rfl (.tmp 12) (.tmp 13) rfl (E:=zh ze) Zo l0.z rfl rfl HU.z o0.z k0.z n0.z (fun _ _=>trivial) ?_);intro v2 w2 a0 i0 m0;have f0:Hid (Acc (zh ze) w.heap.size 31 TT w2 v2 (ls.take (j+1)).flatten∧w.grownBy w2 none):=za ⟨by rw [j0.z];exact a0,zP HG.z i0 (fun k e=>(l0.z.lt k e).1)⟩;clear a0 i0 m0;go_wp2_with fail;go_roundg m
   case measure=>omega
   case rel=>exact ⟨j+1,by omega,by go_num,f0⟩
def PZ(l:List (Int×Int)):List Int:=(l.map fun x=> [x.1,x.2]).flatten
def yz(M:List (List (List Int)))(a b:List (List (Int×Int))):List Int:= [M.flatten.flatten,PZ a.flatten,PZ b.flatten].flatten
theorem JY(v:Value)(ls:List (List Int))(X:Nat→Prop)(w:World)(h:Sl (zh ze) X w v ls)(hb:ls.length≤1000)(hb2: ∀x∈ls,x.length≤1000):
  Calls prog 123 #[v] w (zN ze (fun g=>w.heap.size≤g) w ls.flatten):=by
 have HF:=za (XH v ls X w h hb hb2);obtain ⟨A,c,rfl,_,_⟩:=h.form;clear h hb hb2;go_enter func123,ntmps123;go_wp2_with fail;refine HF.z.mono ?_;rintro e w1 ⟨v1,rfl,hs1,hg1⟩;have HR:Hid (Sl ze (fun g=>w.heap.size≤g) w1 v1 ls.flatten∧w.grownBy w1 none):=za ⟨hs1,hg1⟩;clear hs1 hg1 HF;go_wp2;go_ret;exact ⟨_,rfl,HR.z⟩
theorem Yf{α:Type}(n:Nat): ∀(ls:List (List α)),(∀x∈ls,x.length≤n)→ls.flatten.length≤ls.length*n
 | [],_=>by simp
 |x::ls,h=>by
  have h1:=Yf n ls fun y hy=>h y (mCm _ hy)
  have h2:=h x mCs;rw [List.flatten_cons,lLa,List.length_cons,Nat.add_mul,Nat.one_mul];omega
theorem YE(l:List (Int×Int)):(PZ l).length=2*l.length:=by
 induction l with
 |nil=>rfl
 |cons x l ih=>
  have:PZ (x::l)= [x.1,x.2]++PZ l:=rfl
  rw [this,lLa,ih,List.length_cons];simp;omega
theorem XL(vm va vb:Value)(M:List (List (List Int)))(a b:List (List (Int×Int)))(X Y Z:Nat→Prop)(w:World)(hm:Sl (zh (zh ze)) X w vm M)(ha:Sl (zh zq) Y w va a)(hb:Sl (zh zq) Z w vb b)
  (m1:M.length≤10∧ ∀x∈M,x.length≤3∧ ∀y∈x,y.length≤3) (a1:a.length≤10∧ ∀x∈a,x.length≤3) (b1:b.length≤10∧ ∀x∈b,x.length≤3):
  Calls prog 50 #[vm,va,vb] w (zN ze (fun g=>w.heap.size≤g) w (yz M a b)):=by
 have HM:=za hm;have HA:=za ha;have HB:=za hb;have M1:=za m1;have A1:=za a1;have B1:=za b1;obtain ⟨Am,nm,cm,rfl⟩:=hm.shape;obtain ⟨Aa,na,ca,rfl⟩:=ha.shape;obtain ⟨Ab,nb,cb,rfl⟩:=hb.shape;obtain ⟨mx,mt,hx,c0⟩: ∃(x:List (List Int)) (t:List Int),M.flatten=x∧x.flatten=t:=⟨_,_,rfl,rfl⟩;have fl1:mx.length≤30∧ ∀y∈mx,y.length≤3:=by
  rw [←hx];refine ⟨nLT (Yf 3 M fun y hy=>(m1.2 y hy).1) (by have:=m1.1;omega),fun y hy=> ?_⟩;obtain ⟨x,hx,hy⟩:=List.mem_flatten.1 hy;exact (m1.2 x hx).2 y hy
 have fl2:mt.length≤90:=by
  rw [←c0];exact nLT (Yf 3 mx fl1.2) (by have:=fl1.1;omega)
 have fa:a.flatten.length≤30:=nLT (Yf 3 a a1.2) (by have:=a1.1;omega);have fb:b.flatten.length≤30:=nLT (Yf 3 b b1.2) (by have:=b1.1;omega);have F1:=za fl1;have F2:=za fl2;have FA:=za fa;have FB:=za fb;have b0:Hid (M.flatten=mx∧mx.flatten=mt):=za ⟨hx,c0⟩;clear hm ha hb m1 a1 b1 hx c0 fl1 fl2 fa fb;go_enter func50,ntmps50;go_wp2_with fail;refine (JE _ M X w HM.z (by have:=M1.out.1;omega) (fun x hx=>by have:=(M1.out.2 x hx).1;omega)).mono ?_;rintro e w1 ⟨v1,rfl,hs1,hg1⟩;have r0:=za hg1;rw [b0.z.1] at hs1;have v0:=za hs1;obtain ⟨Ax,nx,cx,rfl⟩:=hs1.shape;clear hs1 hg1;go_wp2_with fail;refine (XH _ mx TT w1 v0.z (by have:=F1.out.1;omega) (fun x hx=>by have:=F1.out.2 x hx;omega)).mono ?_;rintro e w2 ⟨v2,rfl,hs2,hg2⟩;have q0:=zJ hg2 r0;rw [b0.z.2] at hs2;have k0:Hid (Sl ze (fun g=>w.heap.size≤g) w2 v2 mt):=za (hs2.more fun g _ h=>nLT r0.z.size h);obtain ⟨Ay,ny,cy,rfl⟩:=hs2.shape;clear hs2 hg2;go_wp2_with fail;refine (Pc _ a Y w2 (HA.z.kept q0.z) (by have:=A1.out.1;omega) (fun x hx=>by have:=A1.out.2 x hx;omega)).mono ?_;rintro e w3 ⟨v3,rfl,hs3,hg3⟩;have p0:=zJ hg3 q0;have j0:=za (k0.z.kept hg3);have m0:=za hs3;obtain ⟨Az,nz,cz,rfl⟩:=hs3.shape;clear hs3 hg3 k0;go_wp2_with fail;refine (TP _ a.flatten _ w3 m0.z (by have:=FA.out;omega)).mono ?_;rintro e w4 ⟨v4,rfl,hs4,hg4⟩;have i0:=za (j0.z.kept hg4);have u0:Hid (Sl ze (fun g=>w.heap.size≤g) w4 v4 (PZ a.flatten)):=za (hs4.more fun g _ h=>nLT p0.z.size h);have o0:=zJ hg4 p0;obtain ⟨Au,nu,cu,rfl⟩:=hs4.shape
 clear hs4 hg4 j0 m0;go_wp2_with fail;refine (Pc _ b Z w4 (HB.z.kept o0.z) (by have:=B1.out.1;omega) (fun x hx=>by have:=B1.out.2 x hx;omega)).mono ?_;rintro e w5 ⟨v5,rfl,hs5,hg5⟩;have z0:=zJ hg5 o0;have g0:=za (i0.z.kept hg5);have t0:=za (u0.z.kept hg5);have l0:=za hs5;obtain ⟨Av,nv,cv,rfl⟩:=hs5.shape;clear hs5 hg5 i0 u0;go_wp2_with fail;refine (TP _ b.flatten _ w5 l0.z (by have:=FB.out;omega)).mono ?_;rintro e w6 ⟨v6,rfl,hs6,hg6⟩;have y0:=zJ hg6 z0;have f0:=za (g0.z.kept hg6);have s0:=za (t0.z.kept hg6);have A0:=za hs6;obtain ⟨Aw,nw,cw,rfl⟩:=hs6.shape;have d0:Hid (Sl (zh ze) TT (w6.alloc (Obj.cells #[.slice Ay ny cy, .slice Au nu cu, .slice Aw nw cw] 31)) (.slice (some ⟨w6.heap.size,0,none⟩) 3 3) [mt,PZ a.flatten,PZ b.flatten]):=za (Sl.build [[.slice Ay ny cy], [.slice Au nu cu], [.slice Aw nw cw]] rfl ⟨⟨_,rfl,f0.z.more fun _ _ _=>trivial⟩,⟨_,rfl,s0.z.more fun _ _ _=>trivial⟩,⟨_,rfl,hs6.more fun _ _ _=>trivial⟩,trivial⟩ rfl (by decide));obtain ⟨w7,a0⟩:=exq (w6.alloc (Obj.cells #[.slice Ay ny cy, .slice Au nu cu, .slice Aw nw cw] 31));have n0:Hid (w.grownBy w7 none):=za (by rw [a0];exact y0.z.trans (gAl _ _ none));rw [←a0] at d0;clear hs6 hg6 g0 t0 l0 f0 s0 A0;go_wp2_with fail;rw [←a0];clear a0;refine (XH _ [mt,PZ a.flatten,PZ b.flatten] TT w7 d0.z (by simp) (fun x hx=>by
  simp only [List.mem_cons,List.not_mem_nil,or_false] at hx;rcases hx with rfl|rfl|rfl
  ·have:=F2.out;omega
  ·rw [YE];have:=FA.out;omega
  ·rw [YE];have:=FB.out;omega)).mono ?_
 rintro e w8 ⟨v8,rfl,hs8,hg8⟩;have HR:Hid (Sl ze (fun g=>w.heap.size≤g) w8 v8 (yz M a b)∧w.grownBy w8 none):=za ⟨by
  unfold yz;rw [b0.z.1,b0.z.2];exact hs8.more fun g _ h=>nLT n0.z.size h,n0.z.trans hg8⟩
 clear hs8 hg8 d0;go_wp2;go_ret;exact ⟨_,rfl,HR.z⟩
def Ft(a m:Int):Option Nat:=(List.range m.toNat).find? fun x=>(a*(x:Int))%m==1%m
theorem QU{a m:Int}{x:Nat}(h:Ft a m=some x):(x:Int)< m∧Cg m (a*x) 1:=by
 have h1:=List.find?_some h;have h2:=List.mem_of_find?_eq_some h;have h3:=List.mem_range.1 h2;refine ⟨by omega, ?_⟩;simp at h1;exact h1
theorem YZ{a m:Int}(hm:0< m):yi a m↔(Ft a m).isSome=true:=by
 constructor
 ·rintro ⟨x,h1,h2,h3⟩;rw [Option.isSome_iff_ne_none];intro hn
  have:=List.find?_eq_none.1 hn x.toNat (List.mem_range.2 (by omega))
  rw [Int.toNat_of_nonneg h1] at this;simp at this;exact this h3
 ·intro h;obtain ⟨x,hx⟩:=Option.isSome_iff_exists.1 h;obtain ⟨h1,h2⟩:=QU hx;exact ⟨x,by omega,h1,h2⟩
theorem Jt{a m:Int}(hm:0< m):Qc a m=((Ft a m).getD 0:Nat):=by
 cases h:Ft a m with
 |none=>
  have: ¬yi a m:=by rw [YZ hm,h];simp
  simp [Qc,this]
 |some x=>
  obtain ⟨h1,h2⟩:=QU h;exact Ju (by omega) h1 h2
end
section
open Go.RowKit
theorem Pa{a m x:Int}(hm:0< m)(h:Cg m (a*x) 1):yi a m:=
 ⟨x%m,Int.emod_nonneg _ (by omega),Int.emod_lt_of_pos _ hm,((Cg.mod m x).mul_left a).trans h⟩
theorem TE{a b m:Int}(hm:0< m)(h:yi a m)(k:yi b m):yi (a*b) m:=by
 obtain ⟨x,_,_,hx⟩:=h;obtain ⟨y,_,_,hy⟩:=k;refine Pa hm (x:=x*y) ((Cg.of_eq ?_).trans (hx.mul hy));rw [Int.mul_assoc,Int.mul_assoc, ←Int.mul_assoc b,Int.mul_comm b x,Int.mul_assoc]
theorem xl{a q k x:Int}(hq:0< q)(h:a*x=k*q+1):yi a q:=Pa hq (x:=x) (Cg.of_dvd ⟨k,by rw [h,Int.mul_comm];omega⟩)
theorem Lc{q:Int}(hq:0< q)(h:q%2≠0):yi 2 q:=xl hq (k:=1) (x:=(q+1) / 2) (by omega)
theorem QZ{q:Int}(hq:0< q)(h:q%3≠0):yi 3 q:=by
 have h3:q%3=1∨q%3=2:=by omega
 rcases h3 with h3|h3
 ·exact xl hq (k:=2) (x:=(2*q+1) / 3) (by omega)
 ·exact xl hq (k:=1) (x:=(q+1) / 3) (by omega)
theorem ON{q:Int}(hq:0< q)(h:q%5≠0):yi 5 q:=by
 have h5:q%5=1∨q%5=2∨q%5=3∨q%5=4:=by omega
 rcases h5 with h5|h5|h5|h5
 ·exact xl hq (k:=4) (x:=(4*q+1) / 5) (by omega)
 ·exact xl hq (k:=2) (x:=(2*q+1) / 5) (by omega)
 ·exact xl hq (k:=3) (x:=(3*q+1) / 5) (by omega)
 ·exact xl hq (k:=1) (x:=(q+1) / 5) (by omega)
def BV(q:Int)(n:Int):Prop:= ∀d,1≤d→d< n→yi d q
theorem Oy{q:Int}(h:Zl q=true):(q%2=0→q=2)∧(q%3=0→q=3∨q%2=0)∧(q%5=0→q=5∨q%2=0∨q%3=0):=by
 unfold Zl at h;split at h
 ·cases h
 ·unfold yU at h;refine ⟨fun h2=> ?_,fun h3=> ?_,fun h5=> ?_⟩
  ·simp only [goB,h2,if_true] at h;simpa using h
  ·by_cases h2:q%2=0
   ·exact .inr h2
   ·simp only [goB,h2,if_false,h3,if_true] at h;left;split at h
    ·simpa using h
    ·cases h
  ·by_cases h2:q%2=0
   ·exact .inr (.inl h2)
   ·by_cases h3:q%3=0
    ·exact .inr (.inr h3)
    ·simp only [goB,h2,if_false,h3,h5,if_true] at h;left;split at h
     ·split at h
      ·simpa using h
      ·cases h
     ·cases h
theorem zx{p:Par}(h:Zv p=true):zO p.Q=true∧zO p.P=true∧BV p.Q p.N∧4≤p.N∧p.N≤7∧p.N< p.Q∧1≤p.T∧p.T≤2∧3*p.T+1≤p.N∧Qs p=true∧1≤p.K∧1≤p.D:=by
 simp only [Zv,m1,m2,m3,m5,m9,Bool.and_eq_true,xG,decide_eq_true_eq] at h;obtain ⟨⟨⟨⟨⟨⟨⟨⟨⟨a1,a2⟩,a3⟩,_⟩,a5⟩,_⟩,_⟩,_⟩,a9⟩,_⟩:=h;obtain ⟨⟨⟨p1,p2⟩,q1⟩,pq⟩:=a1;obtain ⟨t1,t2⟩:=a2;obtain ⟨⟨n1,n2⟩,n3⟩:=a3;obtain ⟨⟨k1,k2⟩,d1,d2⟩:=a5;obtain ⟨hq,hp⟩:=a9;have hQ:p.Q≤2305843009213693952:=by
  unfold Zl at hq;split at hq
  ·cases hq
  ·omega
 obtain ⟨s2,s3,s5⟩:=Oy hq;have hq0:0< p.Q:=by omega
 have i2:yi 2 p.Q:=Lc hq0 fun e=>by have:=s2 e;omega
 have i3:yi 3 p.Q:=QZ hq0 fun e=>by
  rcases s3 e with e|e
  ·omega
  ·have:=s2 e;omega
 have i1:yi 1 p.Q:=xl hq0 (k:=0) (x:=1) (by omega);refine ⟨by simp [zO];omega,by simp [zO];omega,fun d e1 e2=> ?_,by omega,n2,n3,t1,t2,n1,by simp [Qs];omega,k1,d1⟩;have hd:d=1∨d=2∨d=3∨d=4∨d=5∨d=6:=by omega
 rcases hd with rfl|rfl|rfl|rfl|rfl|rfl
 ·exact i1
 ·exact i2
 ·exact i3
 ·exact TE hq0 i2 i2
 ·refine ON hq0 fun e=> ?_
  rcases s5 e with e|e|e
  ·omega
  ·have:=s2 e;omega
  ·rcases s3 e with e|e
   ·omega
   ·have:=s2 e;omega
 ·exact TE hq0 i2 i3
theorem VX{q:Int}(hq:zO q=true):0< q:=by simp [zO] at hq;exact hq.1
end
section
def evZ(i:Int):List Int→Int
 | []=>0
 |x::l=>x+i*evZ i l
end
section
open Go Go.RowKit
section
variable {α β γ:Type} {E:Enc α} {F:Enc β} {G:Enc γ} {base:Nat} {e f g:TypeId} {Z:Nat→Prop} {w w':World} {v u t v' u' t':Value} {xs xs':List α} {ys ys':List β} {zs zs':List γ}
end
end
section
open Go.RowKit
theorem Xb(q:Int)(y:Int)(c:List Int)(x:Int):zH q (y::c) x=xn (zR (zH q c x) x q) y q:=by simp [zH,YA]
theorem Pg{q:Int}(hq:zO q=true)(x:Int): ∀(c:List Int),Cg q (zH q c x) (evZ x c)
 | []=>Cg.refl _ _
 |y::c=>by
  rw [Xb,yO _ _ _ hq,yG _ _ _ hq];refine (Cg.mod _ _).trans (((Cg.mod _ _).trans ((Pg hq x c).mul_right x)).add (Cg.refl _ y)|>.trans (Cg.of_eq ?_));show evZ x c*x+y=y+x*evZ x c;rw [Int.mul_comm,Int.add_comm]
def ZQ(p:Par)(F R:List (List Int))(i:Int):List (Int×Int):=(List.range F.length).map fun s=>(zH p.Q (F[s]?.getD []) i,zH p.Q (R[s]?.getD []) i)
theorem Xz{p:Par}(h:Zv p=true):1≤p.K∧p.K≤2∧1≤p.D∧p.D≤4∧1≤p.M∧p.M≤1048576∧2*p.M< p.Q∧1≤p.X∧p.X≤1048576∧p.Q≤2305843009213693952:=by
 have hh:=h;simp only [Zv,m5,m7,m8,m9,Bool.and_eq_true,xG,decide_eq_true_eq] at hh;obtain ⟨⟨⟨⟨⟨⟨_,a5⟩,_⟩,a7⟩,a8⟩,a9⟩,_⟩:=hh;obtain ⟨⟨k1,k2⟩,d1,d2⟩:=a5;obtain ⟨⟨M1,M2⟩,x1,x2⟩:=a7;have hQ:p.Q≤2305843009213693952:=by
  have hq:=a9.1;unfold Zl at hq;split at hq
  ·cases hq
  ·omega
 have h1:0≤p.D*p.M*p.X:=Int.mul_nonneg (Int.mul_nonneg (by omega) (by omega)) (by omega);exact ⟨k1,k2,d1,d2,M1,M2,by omega,x1,x2,hQ⟩
theorem Ot{p:Par}(h:Zv p=true):zU p=((p.K.toNat*(p.D.toNat+1):Nat):Int):=by
 obtain ⟨k1,k2,d1,d2,_⟩:=Xz h;have hk:p.K=1∨p.K=2:=by omega
 have hd:p.D=1∨p.D=2∨p.D=3∨p.D=4:=by omega
 unfold zU;rcases hk with hk|hk<;>rcases hd with hd|hd|hd|hd<;>rw [hk,hd]<;>decide+kernel
end
section
open Go Go.RowKit Go.Shelf
theorem Lm(x:Int×Int)(w:World):
  Calls prog 90 #[.agg #[.int .u64 x.1, .int .u64 x.2]] w fun e w'=>e= .returned (.int .u64 x.1)∧w.grownBy w' none:=by
 obtain ⟨a,b⟩:=x;go_enter func90,ntmps90;go_wp2;go_ret;exact ⟨rfl,gAl w _ none⟩
theorem UM(v:Value)(l:List (Int×Int))(X:Nat→Prop)(w:World)(h:Sl zq X w v l)(hb:l.length≤1000):
  Calls prog 89 #[v, .func (.func 90) #[] #[]] w (zN ze (fun g=>w.heap.size≤g) w (l.map (·.1))):=by
 have H:=za h;have HB:=za hb;obtain ⟨A,c,rfl,z0,y0⟩:=h.form;clear h hb;go_enter func89,ntmps89;go_wp2_with fail;go_loopg [5,10] l.length (fun g s5 s10 wx=> ∃j:Nat,j+g=l.length∧s10= .int .i64 j∧Hid (Acc ze w.heap.size 22 (fun g=>w.heap.size≤g) wx s5 ((l.take j).map (·.1))∧w.grownBy wx none))
 case atStart=>exact ⟨0,by omega,rfl,za ⟨Acc.nil _ _ _ _ _,gRf⟩⟩
 case round=>
  obtain ⟨j,hj,rfl,HX⟩:=hrel;cases gk with
  |zero=>
   obtain rfl:j=l.length:=by omega
   have HR:Hid (Sl ze (fun g=>w.heap.size≤g) wr u5 (l.map (·.1))∧w.grownBy wr none):=za ⟨by have:=HX.z.1.sl;rwa [List.take_length] at this,HX.z.2⟩;clear HX;go_wp2;go_ret;exact ⟨_,rfl,HR.z.1,HR.z.2⟩
  |succ m=>
   have v0:(j:Int)< (l.length:Int):=by omega
   have n0:j< l.length:=by omega
   obtain ⟨f0,hg⟩:=HX.z;obtain ⟨g,o,c',e,_,_,i0,b0,m0,q0⟩:=(H.out.kept hg).atP n0;injection e with e1 e2 e3
   subst e1 e3;have j0:Hid ((l.take (j+1)).map (·.1)=(l.take j).map (·.1)++ [l[j].1]):=za (by rw [tSg n0,lMa];rfl);have HU:Hid (U64 l[j].1):=za m0;have u0:=za f0;have HG:=za hg;have s0:Hid ((((l.take j).map (·.1)).length+1)*8≤140737488355328):=za (by have:=HB.z;simp;omega);obtain ⟨y,hy⟩:=exq (l[j]);rw [←hy] at j0 HU i0 b0;obtain ⟨wa,c0⟩:=exq (wr.alloc (Obj.cells #[.int .u64 y.1, .int .u64 y.2] 153));have p0:Hid (wr.grownBy wa none):=za (by rw [c0];exact gAl _ _ none);have g0:Bk wa wr.heap.size 153 #[.int .u64 y.1, .int .u64 y.2]:=by rw [c0];exact Bk.new _ _ _
   have HC:=za (Lm y wa);obtain ⟨ya,yb⟩:=y;simp only at i0 b0 HC j0 HU c0 g0;have d0:=g0.cell 0;have d1:=g0.cell 1;simp at d0 d1;clear f0 hg HX m0 q0 e2 hy g0;generalize l.length=n at *;go_wp2_with fail;rw [←c0];clear c0;refine HC.z.mono ?_;rintro e w1 ⟨rfl,hg1⟩;have t0:Hid (w.grownBy w1 none):=za (HG.z.trans (p0.z.trans hg1));have l0:=za (u0.z.kept (p0.z.trans hg1));clear hg1 d0 d1 i0 b0;go_wp2_with (at_builtin;refine zF rfl (.tmp 14) (.tmp 18) rfl (E:=ze) (y:=ya) xD t0.z l0.z (fun _ h=>h) ⟨rfl,HU.z⟩ s0.z rfl rfl ?_);intro v2 w2 a0 o0 r0;have k0:Hid (Acc ze w.heap.size 22 (fun g=>w.heap.size≤g) w2 v2 ((l.take (j+1)).map (·.1))∧w.grownBy w2 none):=za ⟨by rw [j0.z];simpa using a0,o0⟩;clear a0 o0 r0;go_wp2_with fail;go_roundg m
   case measure=>omega
   case rel=>exact ⟨j+1,by omega,by go_num,k0⟩
theorem Pt(x:Int×Int)(w:World):
  Calls prog 91 #[.agg #[.int .u64 x.1, .int .u64 x.2]] w fun e w'=>e= .returned (.int .u64 x.2)∧w.grownBy w' none:=by
 obtain ⟨a,b⟩:=x;go_enter func91,ntmps91;go_wp2;go_ret;exact ⟨rfl,gAl w _ none⟩
theorem Vm(v:Value)(l:List (Int×Int))(X:Nat→Prop)(w:World)(h:Sl zq X w v l)(hb:l.length≤1000):
  Calls prog 89 #[v, .func (.func 91) #[] #[]] w (zN ze (fun g=>w.heap.size≤g) w (l.map (·.2))):=by
 have H:=za h;have HB:=za hb;obtain ⟨A,c,rfl,z0,y0⟩:=h.form;clear h hb;go_enter func89,ntmps89;go_wp2_with fail;go_loopg [5,10] l.length (fun g s5 s10 wx=> ∃j:Nat,j+g=l.length∧s10= .int .i64 j∧Hid (Acc ze w.heap.size 22 (fun g=>w.heap.size≤g) wx s5 ((l.take j).map (·.2))∧w.grownBy wx none))
 case atStart=>exact ⟨0,by omega,rfl,za ⟨Acc.nil _ _ _ _ _,gRf⟩⟩
 case round=>
  obtain ⟨j,hj,rfl,HX⟩:=hrel;cases gk with
  |zero=>
   obtain rfl:j=l.length:=by omega
   have HR:Hid (Sl ze (fun g=>w.heap.size≤g) wr u5 (l.map (·.2))∧w.grownBy wr none):=za ⟨by have:=HX.z.1.sl;rwa [List.take_length] at this,HX.z.2⟩;clear HX;go_wp2;go_ret;exact ⟨_,rfl,HR.z.1,HR.z.2⟩
  |succ m=>
   have v0:(j:Int)< (l.length:Int):=by omega
   have n0:j< l.length:=by omega
   obtain ⟨f0,hg⟩:=HX.z;obtain ⟨g,o,c',e,_,_,i0,b0,q0,m0⟩:=(H.out.kept hg).atP n0;injection e with e1 e2 e3
   subst e1 e3;have j0:Hid ((l.take (j+1)).map (·.2)=(l.take j).map (·.2)++ [l[j].2]):=za (by rw [tSg n0,lMa];rfl);have HU:Hid (U64 l[j].2):=za m0;have u0:=za f0;have HG:=za hg;have s0:Hid ((((l.take j).map (·.2)).length+1)*8≤140737488355328):=za (by have:=HB.z;simp;omega);obtain ⟨y,hy⟩:=exq (l[j]);rw [←hy] at j0 HU i0 b0;obtain ⟨wa,c0⟩:=exq (wr.alloc (Obj.cells #[.int .u64 y.1, .int .u64 y.2] 153));have p0:Hid (wr.grownBy wa none):=za (by rw [c0];exact gAl _ _ none);have g0:Bk wa wr.heap.size 153 #[.int .u64 y.1, .int .u64 y.2]:=by rw [c0];exact Bk.new _ _ _
   have HC:=za (Pt y wa);obtain ⟨ya,yb⟩:=y;simp only at i0 b0 HC j0 HU c0 g0;have d0:=g0.cell 0;have d1:=g0.cell 1;simp at d0 d1;clear f0 hg HX q0 m0 e2 hy g0;generalize l.length=n at *;go_wp2_with fail;rw [←c0];clear c0;refine HC.z.mono ?_;rintro e w1 ⟨rfl,hg1⟩;have t0:Hid (w.grownBy w1 none):=za (HG.z.trans (p0.z.trans hg1));have l0:=za (u0.z.kept (p0.z.trans hg1));clear hg1 d0 d1 i0 b0;go_wp2_with (at_builtin;refine zF rfl (.tmp 14) (.tmp 18) rfl (E:=ze) (y:=yb) xD t0.z l0.z (fun _ h=>h) ⟨rfl,HU.z⟩ s0.z rfl rfl ?_);intro v2 w2 a0 o0 r0;have k0:Hid (Acc ze w.heap.size 22 (fun g=>w.heap.size≤g) w2 v2 ((l.take (j+1)).map (·.2))∧w.grownBy w2 none):=za ⟨by rw [j0.z];simpa using a0,o0⟩;clear a0 o0 r0;go_wp2_with fail;go_roundg m
   case measure=>omega
   case rel=>exact ⟨j+1,by omega,by go_num,k0⟩
def atP(q x:Int)(c:List (Int×Int)):Int×Int:=(zH q (c.map (·.1)) x,zH q (c.map (·.2)) x)
theorem Qx{fn:Func}{W:World}{B4:Nat}{a b:Value}(h:fn.results= #[.cell 4 153])(tmps:Array Value)(h4:tmps.getD 4 undef= .pointer (some ⟨B4,0,none⟩))(hb4:Bk W B4 153 #[a,b]):(results fn tmps).run prog W= .ok (.agg #[a,b]) W:=by
 have r1:=run_loadVar_row (P:=prog) W B4 153 153 #[a,b] (0,0) _ hb4 Tryz.underlying153 rfl (by kernel_rfl);have h4':tmps[4]?.getD undef= .pointer (some ⟨B4,0,none⟩):=by simpa using h4
 simp [results,h,h4',asAddr,r1]
theorem Is(v:Value)(c:List (Int×Int))(x q:Int)(Bx Bq:Nat)(X:Nat→Prop)(w:World)(h:Sl zq X w v c)(hx:U64 x)(hb:c.length≤1000)(bx:Bk w Bx 22 #[.int .u64 x])(bq:Bk w Bq 22 #[.int .u64 q]):
  Calls prog 87 #[v, .pointer (some ⟨Bx,0,none⟩), .pointer (some ⟨Bq,0,none⟩)] w fun e w'=>e= .returned (.agg #[.int .u64 (atP q x c).1, .int .u64 (atP q x c).2])∧w.grownBy w' none:=by
 have H:=za h;have HU:=za hx;have o0:=za bx;have r0:=za bq;have HB:=za hb;obtain ⟨A,cc,rfl,_,_⟩:=h.form;obtain ⟨w0,c0⟩:=exq (w.alloc (Obj.cells #[.int .u64 0, .int .u64 0] 153));obtain ⟨B0,f0⟩:=exq (w.heap.size);have g0:Hid (w.grownBy w0 none):=za (by rw [c0];exact gAl _ _ none);have p0:Hid (Bk w0 B0 153 #[.int .u64 0, .int .u64 0]):=za (by rw [c0,f0];exact Bk.new _ _ _);have m0:Hid (w.heap.size≤B0):=za (by rw [f0];exact nRf _);clear h hx bx bq hb;go_enter func87,ntmps87;go_upto_region 1 with (fail)
 rw [←c0, ←f0];clear c0 f0;have HD:Hid (w0.grownBy w0.drew none):=za (zb _ 1);have b0:Hid (∀W,w0.drew.grownBy W none→W.cell? ⟨Bx,0,none⟩=some (.int .u64 x)∧W.cell? ⟨Bq,0,none⟩=some (.int .u64 q)):=za (fun W hg=>by
  have h:=g0.z.trans (HD.z.trans hg);exact ⟨by simpa using (o0.z.grown h (by simp)).cell 0,by simpa using (r0.z.grown h (by simp)).cell 0⟩)
 have k0:Hid (∀W,w0.drew.grownBy W none→Calls prog 89 #[.slice A c.length cc, .func (.func 90) #[] #[]] W (zN ze (fun g=>W.heap.size≤g) W (c.map (·.1)))):=za (fun W hg=>UM _ c X W (H.out.kept (g0.z.trans (HD.z.trans hg))) HB.z);have l0:Hid (∀W,w0.drew.grownBy W none→Calls prog 89 #[.slice A c.length cc, .func (.func 91) #[] #[]] W (zN ze (fun g=>W.heap.size≤g) W (c.map (·.2)))):=za (fun W hg=>Vm _ c X W (H.out.kept (g0.z.trans (HD.z.trans hg))) HB.z);refine ZF 11 ?_;refine mP0 (.slice A c.length cc) ?_;refine zm.step (Pv.sl ze TT (c.map (·.1))) [(0,5)] (by kernel_rfl) (fun w' hw'=> ?_) ?_
 ·rintro _ rfl;refine zr rfl fun K hK=> ?_
  go_simp;refine (k0.z w' hw').mono ?_;rintro e w3 ⟨v3,rfl,hs3,hg3⟩;exact hK _ _ rfl (hs3.more fun _ _ _=>trivial) hg3
 refine mQ0 (.int .u64 x) (fun w' hw' K hK=> ?_) ?_
 ·obtain ⟨q0,q1⟩:=b0.z w' hw';go_simp;exact hK _ rfl rfl
 refine mQ0 (.int .u64 q) (fun w' hw' K hK=> ?_) ?_
 ·obtain ⟨q0,q1⟩:=b0.z w' hw';go_simp;exact hK _ rfl rfl
 refine zm.step (Pv.eq (.int .u64 (zH q (c.map (·.1)) x))) [(1,6),(2,7),(3,8)] (by kernel_rfl) (fun w' hw'=> ?_) ?_
 ·intro x6 h6;have h6:Sl ze TT w' x6 (c.map (·.1)):=h6;rintro _ rfl;rintro _ rfl;refine zr rfl fun K hK=> ?_
  go_simp;refine (YH x6 (c.map (·.1)) x q TT w' h6 HU.z).mono ?_;rintro e w3 ⟨rfl,hg3⟩;exact hK _ _ rfl rfl hg3
 refine mP0 (.slice A c.length cc) ?_;refine zm.step (Pv.sl ze TT (c.map (·.2))) [(5,10)] (by kernel_rfl) (fun w' hw'=> ?_) ?_
 ·rintro _ rfl;refine zr rfl fun K hK=> ?_
  go_simp;refine (l0.z w' hw').mono ?_;rintro e w3 ⟨v3,rfl,hs3,hg3⟩;exact hK _ _ rfl (hs3.more fun _ _ _=>trivial) hg3
 refine mQ0 (.int .u64 x) (fun w' hw' K hK=> ?_) ?_
 ·obtain ⟨q0,q1⟩:=b0.z w' hw';go_simp;exact hK _ rfl rfl
 refine mQ0 (.int .u64 q) (fun w' hw' K hK=> ?_) ?_
 ·obtain ⟨q0,q1⟩:=b0.z w' hw';go_simp;exact hK _ rfl rfl
 refine zm.step (Pv.eq (.int .u64 (zH q (c.map (·.2)) x))) [(6,11),(7,12),(8,13)] (by kernel_rfl) (fun w' hw'=> ?_) ?_
 ·intro x11 j0;have j0:Sl ze TT w' x11 (c.map (·.2)):=j0;rintro _ rfl;rintro _ rfl;refine zr rfl fun K hK=> ?_
  go_simp;refine (YH x11 (c.map (·.2)) x q TT w' j0 HU.z).mono ?_;rintro e w3 ⟨rfl,hg3⟩;exact hK _ _ rfl rfl hg3
 refine zm.step (Pv.eq (.agg #[.int .u64 (zH q (c.map (·.1)) x), .int .u64 (zH q (c.map (·.2)) x)])) [(4,9),(9,14)] (by kernel_rfl) (fun w' hw'=> ?_) ?_
 ·rintro _ rfl;rintro _ rfl;refine zr rfl fun K hK=> ?_
  go_simp;exact hK _ _ rfl rfl gRf
 intro w3 i0
 iterate 10 (refine pD ?_;intro _)
 intro y10 k10;show wpList prog _ _ _ _ w3;simp only [Act.put,sAa,sAb,sAc];have e10:y10= .agg #[.int .u64 (zH q (c.map (·.1)) x), .int .u64 (zH q (c.map (·.2)) x)]:=k10;subst e10;have a0:Bk w3 B0 153 #[.int .u64 0, .int .u64 0]:=p0.z.grown (HD.z.trans i0) (by simp);have d0:=a0.cell 0;have d1:=a0.cell 1;have f3:=a0.free;simp at d0 d1;have HR:Hid (Bk ((w3.setCell ⟨B0,0,none⟩ (.int .u64 (zH q (c.map (·.1)) x))).setCell ⟨B0,1,none⟩ (.int .u64 (zH q (c.map (·.2)) x))) B0 153 #[.int .u64 (zH q (c.map (·.1)) x), .int .u64 (zH q (c.map (·.2)) x)]):=za ((a0.set 0 _).set 1 _);have n0:Hid (w.grownBy ((w3.setCell ⟨B0,0,none⟩ (.int .u64 (zH q (c.map (·.1)) x))).setCell ⟨B0,1,none⟩ (.int .u64 (zH q (c.map (·.2)) x))) none):=za (Zg (Zg (g0.z.trans (HD.z.trans i0)) 0 _ m0.z) 1 _ m0.z);clear i0 a0 k10 b0 k0 l0;go_wp2_with fail;exact ⟨rfl,_,Qx rfl _ rfl HR.z,rfl,n0.z⟩
theorem Ll(v:Value)(L:List (List (Int×Int)))(x q:Int)(Bx Bq:Nat)(X:Nat→Prop)(w:World)(h:Sl (zh zq) X w v L)(hx:U64 x)(hb:L.length≤1000)(j0: ∀c∈L,c.length≤1000)(bx:Bk w Bx 22 #[.int .u64 x])(bq:Bk w Bq 22 #[.int .u64 q]):
  Calls prog 86 #[v, .func (.func 87) #[] #[.pointer (some ⟨Bx,0,none⟩), .pointer (some ⟨Bq,0,none⟩)]] w (zN zq (fun g=>w.heap.size≤g) w (L.map (atP q x))):=by
 have H:=za h;have HB:=za hb;have s0:=za j0;have HU:=za hx;have q0:=za bx;have r0:=za bq;obtain ⟨A,c,rfl,y0,v0⟩:=h.form;clear h hb j0 hx bx bq;go_enter func86,ntmps86;go_wp2_with fail;go_loopg [5,10] L.length (fun g s5 s10 wx=> ∃j:Nat,j+g=L.length∧s10= .int .i64 j∧Hid (Acc zq w.heap.size 153 (fun g=>w.heap.size≤g) wx s5 ((L.take j).map (atP q x))∧w.grownBy wx none))
 case atStart=>exact ⟨0,by omega,rfl,za ⟨Acc.nil _ _ _ _ _,gRf⟩⟩
 case round=>
  obtain ⟨j,hj,rfl,HX⟩:=hrel;cases gk with
  |zero=>
   obtain rfl:j=L.length:=by omega
   have HR:Hid (Sl zq (fun g=>w.heap.size≤g) wr u5 (L.map (atP q x))∧w.grownBy wr none):=za ⟨by have:=HX.z.1.sl;rwa [List.take_length] at this,HX.z.2⟩;clear HX;go_wp2;go_ret;exact ⟨_,rfl,HR.z.1,HR.z.2⟩
  |succ m=>
   have u0:(j:Int)< (L.length:Int):=by omega
   have c0:j< L.length:=by omega
   obtain ⟨b0,hg⟩:=HX.z;obtain ⟨g,o,c',u,e,_,_,m0,hu⟩:=(H.out.kept hg).atS c0;injection e with e1 e2 e3
   subst e1 e3;have k0:Hid ((L.take (j+1)).map (atP q x)=(L.take j).map (atP q x)++ [atP q x L[j]]):=za (by rw [tSg c0,lMa];rfl);have HC:=za (Is u L[j] x q Bx Bq _ wr hu HU.z (s0.z _ (lGm c0)) (q0.z.grown hg (by simp)) (r0.z.grown hg (by simp)));have t0:=za b0;have HG:=za hg;have o0:Hid ((((L.take j).map (atP q x)).length+1)*16≤140737488355328):=za (by have:=HB.z;simp;omega);have d0:Hid (U64 (atP q x L[j]).1∧U64 (atP q x L[j]).2):=za ⟨xR _ _ _,xR _ _ _⟩;obtain ⟨A1,n1,c1,e1⟩:=hu.shape;subst e1;obtain ⟨y,hy⟩:=exq (atP q x L[j]);rw [←hy] at k0 HC d0;obtain ⟨ya,yb⟩:=y;clear b0 hg HX hu e2 hy;generalize n0:L.length=n at *;clear n0;go_wp2_with fail;refine HC.z.mono ?_;rintro e w1 ⟨rfl,hg1⟩;have p0:Hid (w.grownBy w1 none):=za (HG.z.trans hg1);have g0:=za (t0.z.kept hg1);clear hg1 m0;go_wp2_with (at_builtin;refine zF rfl (.tmp 14) (.tmp 18) rfl (E:=zq) (y:=(ya,yb)) Xd p0.z g0.z (fun _ h=>h) ⟨rfl,d0.z.1,d0.z.2⟩ o0.z rfl rfl ?_);intro v2 w2 a0 i0 l0;have f0:Hid (Acc zq w.heap.size 153 (fun g=>w.heap.size≤g) w2 v2 ((L.take (j+1)).map (atP q x))∧w.grownBy w2 none):=za ⟨by rw [k0.z];simpa using a0,i0⟩;clear a0 i0 l0;go_wp2_with fail;go_roundg m
   case measure=>omega
   case rel=>exact ⟨j+1,by omega,by go_num,f0⟩
theorem Vo(v:Value)(L:List (List (Int×Int)))(x q:Int)(X:Nat→Prop)(w:World)(h:Sl (zh zq) X w v L)(hx:U64 x)(hb:L.length≤1000)(hb2: ∀c∈L,c.length≤1000):
  Calls prog 38 #[v, .int .u64 x, .int .u64 q] w (zN zq (fun g=>w.heap.size≤g) w (L.map (atP q x))):=by
 obtain ⟨w0,hw0⟩:=exq ((w.alloc (Obj.cells #[.int .u64 x] 22)).alloc (Obj.cells #[.int .u64 q] 22));have HG0:Hid (w.grownBy w0 none):=za (by rw [hw0];exact UG);have HB1:Hid (Bk w0 w.heap.size 22 #[.int .u64 x]):=za (by rw [hw0];exact (Bk.new w _ _).alloc _);have HB2:Hid (Bk w0 (w.heap.size+1) 22 #[.int .u64 q]):=za (by
  rw [hw0];have h:=Bk.new (w.alloc (Obj.cells #[.int .u64 x] 22)) 22 #[.int .u64 q];rw [World.size_alloc] at h;exact h)
 have HC:=za (Ll v L x q w.heap.size (w.heap.size+1) X w0 (h.kept HG0.z) hx hb hb2 HB1.z HB2.z);obtain ⟨A,c,rfl,_,_⟩:=h.form;clear h;go_enter func38,ntmps38;go_wp2_with fail;rw [←hw0];clear hw0;refine HC.z.mono ?_;rintro e w1 ⟨v1,rfl,hs1,hg1⟩;have HR:Hid (Sl zq (fun g=>w.heap.size≤g) w1 v1 (L.map (atP q x))∧w.grownBy w1 none):=za ⟨hs1.more fun g _ h=>nLT HG0.z.size h,HG0.z.trans hg1⟩;clear hs1 hg1;go_wp2;go_ret;exact ⟨_,rfl,HR.z.1,HR.z.2⟩
end
section
open Go Go.RowKit
theorem MV{p:Par}(h:FG p)(x:Int×Int)(_:0≤x.1)(_:0≤x.2):isB p (zj p x)=true:=by
 have hP:=Yx h.P;have hP2:=h.P2;have e:=ZR p x h.P;have h0:0≤zj p x:=by rw [e];exact Int.emod_nonneg _ (by omega)
 have h1:zj p x< p.P:=by rw [e];exact Int.emod_lt_of_pos _ (by omega)
 have hc:Cg p.P (zj p x ^ p.Q.toNat) 1:=by
  refine ((XO p x h.P).pow _).trans ?_;rw [Int.mul_pow, ←Int.pow_mul, ←Int.pow_mul,Nat.mul_comm x.1.toNat,Nat.mul_comm x.2.toNat,Int.pow_mul,Int.pow_mul];exact ((h.G.pow _).mul (h.H.pow _)).trans (Cg.of_eq (by rw [Int.one_pow,Int.one_pow];rfl))
 have hp:YW (zj p x) p.Q p.P=1:=by
  rw [VW _ _ _ h.P];unfold Cg at hc;rw [hc,Int.emod_eq_of_lt (by decide) (by omega)]
 have hne:zj p x≠0:=by
  intro e0;rw [e0] at hc;have hQ:p.Q.toNat≠0:=by have:=h.Q2;omega
  rw [Int.zero_pow hQ] at hc;unfold Cg at hc;rw [Int.emod_eq_of_lt (a:=1) (by decide) (by omega)] at hc;simp at hc
 simp only [isB,hp,Bool.and_eq_true,decide_eq_true_eq,beq_self_eq_true,and_true];omega
end
section
open Go Go.RowKit Go.Shelf
theorem Vn(p:Par)(vm vl:Value)(m:List (List (List Int)))(x y:Int)(l:List (Int×Int))(X Y:Nat→Prop)(w:World)(hp:p.ok)(h1:Sl (zh (zh ze)) X w vm m)(hx:U64 x)(hy:U64 y)(h2:Sl zq Y w vl l)(f0:m.length≤100000)(j0: ∀l∈m,l.length≤100000∧ ∀c∈l,c.length≤100000)(hb:l.length≤100000):
  Calls prog 167 #[p.v,vm, .int .u64 x, .int .u64 y,vl] w fun e w'=>e= .returned (.bool (Xa p (zD p m x) y l))∧w.grownBy w' none:=by
 obtain ⟨Am,nm,cm,rfl⟩:=h1.shape;obtain ⟨Al,nl,cl,rfl⟩:=h2.shape;obtain ⟨w0,a0⟩:=exq (w.alloc (Obj.cells p.cells 39));have q0:Hid (Bk w0 w.heap.size 39 p.cells):=za (by rw [a0];exact Bk.new w _ _);have o0:Hid (w.grownBy w0 none):=za (by rw [a0];exact gAl w _ none);have l0:Hid (Bk w0.drew w.heap.size 39 p.cells):=za (q0.z.drewN 1);have g0:Hid (w.grownBy w0.drew none):=za (o0.z.trans (zb w0 1));obtain ⟨cs,b0⟩:=exq (zD p m x);have k0:Hid (cs.length≤100000):=za (by rw [b0];simp [zD];exact f0);have m0:Hid (∀W,w0.drew.grownBy W none→Calls prog 163 #[p.v, .slice Am nm cm, .int .u64 x] W (zN (zh ze) (fun g=>W.heap.size≤g) W cs)):=za (fun W hg=>by
  rw [b0];exact Up p _ m x X W (h1.kept (g0.z.trans hg)) hx f0 j0)
 rw [←b0];obtain ⟨b,d0⟩:=exq (Xa p cs y l);have p0:Hid (∀v W,w0.drew.grownBy W none→Sl (zh ze) TT W v cs→Calls prog 43 #[p.v,v, .int .u64 y, .slice Al nl cl] W fun e w'=>e= .returned (.bool b)∧W.grownBy w' none):=za (fun v W hg hs=>by
  rw [d0];exact Gz p v cs y _ l TT Y W hp hs hy (h2.kept (g0.z.trans hg)) k0.z hb)
 rw [←d0];clear h1 h2 b0 hp hb f0 j0 d0 k0;go_enter func167,ntmps167;go_upto_region 1 with (fail)
 rw [←a0];clear a0;refine ZF 9 ?_;refine mQ0 (p.v) (fun w' hw' K hK=> ?_) ?_
 ·have hp:=(l0.z.grown hw' (by simp)).prule;go_simp;exact hK _ rfl rfl
 refine mQ0 (p.v) (fun w' hw' K hK=> ?_) ?_
 ·have hp:=(l0.z.grown hw' (by simp)).prule;go_simp;exact hK _ rfl rfl
 refine mP0 (.slice Am nm cm) ?_;refine mP0 (.int .u64 x) ?_;refine zm.step (Pv.sl (zh ze) TT cs) [(1,12),(2,13),(3,14)] (by kernel_rfl) (fun w' hw'=> ?_) ?_
 ·rintro _ rfl;rintro _ rfl;rintro _ rfl;refine zr rfl fun K hK=> ?_
  go_simp;refine (m0.z w' hw').mono ?_;rintro e w3 ⟨v3,rfl,hs3,hg3⟩;exact hK _ _ rfl (hs3.more fun _ _ _=>trivial) hg3
 refine mP0 (.int .u64 y) ?_;refine mP0 (.slice Al nl cl) ?_;refine zm.step (Pv.eq (.bool b)) [(0,11),(4,15),(5,16),(6,17)] (by kernel_rfl) (fun w' hw'=> ?_) ?_
 ·rintro _ rfl;intro x15 c0;have c0:Sl (zh ze) TT w' x15 cs:=c0;obtain ⟨A15,c15,e15,k15,l15⟩:=c0.form;have e15:x15= .slice A15 cs.length c15:=e15;subst e15;rintro _ rfl;rintro _ rfl;refine zr rfl fun K hK=> ?_
  go_simp;refine (p0.z _ w' hw' c0).mono ?_;rintro e w3 ⟨rfl,hg3⟩;exact hK _ _ rfl rfl hg3
 refine zm.step (Pv.eq (.bool b)) [(7,18)] (by kernel_rfl) (fun w' hw'=> ?_) ?_
 ·rintro _ rfl;refine zr rfl fun K hK=> ?_
  go_simp;exact hK _ _ rfl rfl gRf
 intro w3 i0
 iterate 8 (refine pD ?_;intro _)
 intro y8 k8;have e8:y8= .bool b:=k8;subst e8;have n0:Hid (w.grownBy w3 none):=za (g0.z.trans i0);clear k8 i0;refine wpList_nil ?_;simp only [Act.put,sAa,sAb,sAc];go_wp2;go_ret;exact ⟨rfl,n0.z⟩
end
section
open Go Go.RowKit Go.Shelf
attribute [local go_sem] Oper.semAt_some
def RM(f:List (List Int))(j:Nat):List Int:=f.map fun c=>c[j]?.getD 0
theorem Ic(l:List (List Int))(i j:Nat)(h:i< l.length):RM (l.take (i+1)) j=RM (l.take i) j++ [l[i][j]?.getD 0]:=yD _ l i h
theorem OX(f:List (List Int))(j:Nat):(RM f j).length=f.length:=by simp [RM]
theorem KI(A:Option Addr)(m c:Nat)(w:World):
  Calls prog 194 #[.slice A m c] w fun e w'=>e= .returned (.func (.func 223) #[] #[.pointer (some ⟨w.heap.size,0,none⟩)])∧w'=w.alloc (.cells #[.slice A m c] 43):=by
 go_enter func194,ntmps194;go_wp2;go_ret;exact ⟨rfl,rfl⟩
theorem Ox(B:Nat)(v:Value)(f:List (List Int))(i j:Nat)(X:Nat→Prop)(w:World)(hb:Boxed w B 43 v)(h:Sl (zh ze) X w v f)(hi:i< f.length)(hj:(j:Int)≤9223372036854775807):
  Calls prog 223 #[.int .i64 i, .int .i64 j, .pointer (some ⟨B,0,none⟩)] w fun e w'=>e= .returned (.int .u64 (f[i][j]?.getD 0))∧w'=w:=by
 have hc:=hb.cell;obtain ⟨g,o,c',u,e,_,_,hcu,hsu⟩:=h.atS hi;subst e;have hi0:(0:Int)≤(i:Int):=by omega
 have hj0:(0:Int)≤(j:Int):=by omega
 have hil:(i:Int)< (f.length:Int):=by omega
 obtain ⟨A1,c1,rfl,_,_⟩:=hsu.form;by_cases hl:j< f[i].length
 ·obtain ⟨g1,o1,c2,e,_,_,hcv,_⟩:=hsu.atU hl;injection e with e1 e2 e3
  subst e1 e3;have hli:(j:Int)< (f[i].length:Int):=by omega
  rw [show f[i][j]?.getD 0=f[i][j] by rw [List.getElem?_eq_getElem hl];rfl];generalize f[i][j]=y at *;clear hsu hb h e2;generalize f[i].length=m at *;go_enter func223,ntmps223;go_wp2;go_ret;exact ⟨rfl,rfl⟩
 ·have hli: ¬(j:Int)< (f[i].length:Int):=by omega
  have hli2:(f[i].length:Int)≤(j:Int):=by omega
  rw [show f[i][j]?.getD 0=0 by rw [List.getElem?_eq_none (by omega)];rfl];clear hsu hb h;generalize f[i].length=m at *;go_enter func223,ntmps223;go_wp2;go_ret;exact ⟨rfl,rfl⟩
def II(A:Option Addr)(m c:Nat)(w:World)(e:Ending)(w':World):Prop:=
 e= .returned (.func (.func 195) #[] #[.pointer (some ⟨w.heap.size,0,none⟩), .pointer (some ⟨w.heap.size+1+1,0,none⟩)])∧Boxed w' w.heap.size 43 (.slice A m c)∧Boxed w' (w.heap.size+1) 43 (.slice A m c)∧
 Boxed w' (w.heap.size+1+1) 247 (.func (.func 223) #[] #[.pointer (some ⟨w.heap.size+1,0,none⟩)])∧w.grownBy w' none∧w'.heap.size=w.heap.size+1+1+1
theorem OW(A:Option Addr)(m c:Nat)(w:World):
  Calls prog 155 #[.slice A m c] w (II A m c w):=by
 have e1:(w.alloc (.cells #[.slice A m c] 43)).heap.size=w.heap.size+1:=by simp
 have e2:((w.alloc (.cells #[.slice A m c] 43)).alloc (.cells #[.slice A m c] 43)).heap.size=w.heap.size+1+1:=by simp
 have b3:=Boxed.new ((w.alloc (.cells #[.slice A m c] 43)).alloc (.cells #[.slice A m c] 43)) 247 .nilFunc;rw [e2] at b3;have hc3:=b3.cell;have hf3:=b3.frozen;have hrun:(store ⟨w.heap.size+1+1,0,none⟩ (.func (.func 223) #[] #[.pointer (some ⟨w.heap.size+1,0,none⟩)])).run prog (((w.alloc (.cells #[.slice A m c] 43)).alloc (.cells #[.slice A m c] 43)).alloc (.cells #[.nilFunc] 247))= .ok () ((((w.alloc (.cells #[.slice A m c] 43)).alloc (.cells #[.slice A m c] 43)).alloc (.cells #[.nilFunc] 247)).setCell ⟨w.heap.size+1+1,0,none⟩ (.func (.func 223) #[] #[.pointer (some ⟨w.heap.size+1,0,none⟩)])):=by
  simp only [store,Sem.run,hc3,hf3];rfl
 have HF:Hid (II A m c w (.returned (.func (.func 195) #[] #[.pointer (some ⟨w.heap.size,0,none⟩), .pointer (some ⟨w.heap.size+1+1,0,none⟩)])) (((w.alloc (.cells #[.slice A m c] 43)).alloc (.cells #[.slice A m c] 43)).alloc (.cells #[.func (.func 223) #[] #[.pointer (some ⟨w.heap.size+1,0,none⟩)]] 247))):=za (by
  have b1:=((Boxed.new w 43 (.slice A m c)).alloc (.cells #[.slice A m c] 43)).alloc (.cells #[.func (.func 223) #[] #[.pointer (some ⟨w.heap.size+1,0,none⟩)]] 247);have b2:=(Boxed.new (w.alloc (.cells #[.slice A m c] 43)) 43 (.slice A m c)).alloc (.cells #[.func (.func 223) #[] #[.pointer (some ⟨w.heap.size+1,0,none⟩)]] 247);have b4:=Boxed.new ((w.alloc (.cells #[.slice A m c] 43)).alloc (.cells #[.slice A m c] 43)) 247 (.func (.func 223) #[] #[.pointer (some ⟨w.heap.size+1,0,none⟩)]);rw [e1] at b2;rw [e2] at b4;exact ⟨rfl,b1,b2,b4,((gAl w _ none).trans (gAl _ _ none)).trans (gAl _ _ none),by simp⟩)
 clear b3 e1 e2;go_enter func155,ntmps155;go_wp2_with fail;refine (KI A m c _).mono ?_;rintro e w1 ⟨rfl,rfl⟩;go_wp2;go_ret;exact HF.z
structure LM where
 j:Nat
 v:Value
 c:List Int
def Kp3(n₀ B1 B2 B3:Nat)(A B:World):Prop:=Below n₀ A B∧B.heap[B1]? =A.heap[B1]? ∧B.heap[B2]? =A.heap[B2]? ∧B.heap[B3]? =A.heap[B3]?
theorem Kp3.refl(n₀ B1 B2 B3:Nat)(A:World):Kp3 n₀ B1 B2 B3 A A:=⟨Below.refl _ _,rfl,rfl,rfl⟩
theorem Kp3.trans{n₀ B1 B2 B3:Nat}{A B C:World}(h:Kp3 n₀ B1 B2 B3 A B)(k:Kp3 n₀ B1 B2 B3 B C):Kp3 n₀ B1 B2 B3 A C:=⟨h.1.trans k.1,k.2.1.trans h.2.1,k.2.2.1.trans h.2.2.1,k.2.2.2.trans h.2.2.2⟩
theorem Kp3.grown{n₀ B1 B2 B3:Nat}{A B:World}(hg:A.grownBy B none)(hn:n₀≤A.heap.size)(h1:B1< A.heap.size)(h2:B2< A.heap.size)(h3:B3< A.heap.size):Kp3 n₀ B1 B2 B3 A B:=
 ⟨(zG hg).mono hn,hg.block _ h1 (by simp),hg.block _ h2 (by simp),hg.block _ h3 (by simp)⟩
theorem Kp3.b{n₀ B1 B2 B3:Nat}{w:World}(hn:n₀≤w.heap.size)(h1:B1< w.heap.size)(h2:B2< w.heap.size)(h3:B3< w.heap.size)(W:World)(l:Nat)(o o':Obj)(hl:w.heap.size≤l)(h:W.heap[l]? =some o)(k1:o.isCells=false)(k2:o.isWalk=false):Kp3 n₀ B1 B2 B3 W (W.putObj l o'):=by
 have hlt:=(Array.getElem?_eq_some_iff.1 h).1;have hg:=grownBy_putObj' W l o';exact ⟨belowK_b hn W l o o' hl h k1 k2,hg.block _ (by omega) (fun e=>by injection e with e;omega),hg.block _ (by omega) (fun e=>by injection e with e;omega),hg.block _ (by omega) (fun e=>by injection e with e;omega)⟩
def BF(n₁ n:Nat)(x:LM)(W:World):Prop:=Sl ze (fun g=>n₁≤g) W x.v x.c∧x.j< n
def XQ(f:List (List Int)):List (Nat×List Int):=(List.range (yH f)).map fun j=>(j,RM f j)
theorem Pw(n:Nat)(hn:1≤n)(B1 B2 B3:Nat)(v:Value)(f:List (List Int))(X:Nat→Prop)(w₀ w1:World)(s0:Below w₀.heap.size w₀ w1)(j0:Boxed w1 B1 43 v)(i0:Boxed w1 B2 43 v)(g0:Boxed w1 B3 247 (.func (.func 223) #[] #[.pointer (some ⟨B2,0,none⟩)]))(hf:Sl (zh ze) X w₀ v f)(Z0:f.length≤100000)(f0: ∀c∈f,c.length≤100000):
  Nd Fence.wide n prog 195 #[.pointer (some ⟨B1,0,none⟩), .pointer (some ⟨B3,0,none⟩)] (fun x:LM=> #[.int .i64 x.j,x.v]) (BF w1.heap.size (yH f)) (Kp3 w₀.heap.size B1 B2 B3) (fun xs=>xs.map (fun x=>(x.j,x.c))=XQ f) (yH f) w1:=by
 intro l J W hW hJ hY h0;refine callsIn_of_wp func195 rfl trivial ?_ rfl;simp only [ntmps195,List.size_toArray,List.length_cons,List.length_nil,Nat.reduceAdd,Nat.reduceSub,Array.replicate_succ,Array.replicate_zero,List.push_toArray,List.append_toArray,List.nil_append,List.cons_append];have z0:Hid (Boxed W B1 43 v):=za ((hW.5 B1 j0.lt).trans j0);have Y0:Hid (Boxed W B2 43 v):=za ((hW.5 B2 i0.lt).trans i0);have V0:Hid (Boxed W B3 247 (.func (.func 223) #[] #[.pointer (some ⟨B2,0,none⟩)])):=za ((hW.5 B3 g0.lt).trans g0);have y0:Hid (w₀.grownBy W none):=za (zl (s0.trans (hW.mono s0.size)));have H0:Hid (w1.heap.size≤W.heap.size):=za hW.size;have HF:=za hf;have W0:=za f0;have u0:Hid (yH f≤100000):=za (Va f _ f0);obtain ⟨A1,c1,rfl,_,_⟩:=hf.form;have O0:=za j0.lt;have N0:=za i0.lt;have M0:=za g0.lt;have ca:=z0.z.cell;have t0:=za (Nh _ f X W (HF.z.kept y0.z) f0);have S0:=za h0;have HL:Hid ((XQ f).length=yH f):=za (by simp [XQ]);clear j0 i0 g0 hf h0 f0;obtain ⟨N,hN⟩:=exq (yH f);rw [←hN] at t0 u0 HL hY;have HN:=za hN;have E0:N≤100000:=u0.z;clear hN
 gi_wp2_with (refine ⟨trivial, ?_⟩;refine (callsIn_wide.2 t0.z).mono ?_;rintro e w' ⟨rfl,hw'⟩;obtain rfl:W=w':=hw'.symm)
 gi_loopw [9] (fun s9 wr=> ∃(k:Nat) (pre:List LM),k≤N∧s9= .int .i64 k∧Hid (pre.map (fun x=>(x.j,x.c))=(XQ f).take k∧J pre wr∧Kp3 w₀.heap.size B1 B2 B3 W wr)) (fun s9 _=>N - (intOf s9).toNat)
 case atStart=>exact ⟨0, [],by omega,rfl,za ⟨rfl,S0.z,Kp3.refl _ _ _ _ _⟩⟩
 case round=>
  rename World=>wr
  obtain ⟨k,pre,hk,rfl,HX⟩:=hrel;by_cases k0:k< N
  ·have e0:(k:Int)< (N:Int):=by omega
   have D0:(k:Int)≤9223372036854775807:=by omega
   have B0:pre.length=k:=by have:=congrArg List.length HX.z.1;simpa [HL.z,Nat.min_eq_left hk] using this
   have d0:Hid (Boxed wr B1 43 (.slice A1 f.length c1)):=za (HX.z.2.2.2.1.trans z0.z);have c0:Hid (Boxed wr B2 43 (.slice A1 f.length c1)):=za (HX.z.2.2.2.2.1.trans Y0.z);have b0:Hid (Boxed wr B3 247 (.func (.func 223) #[] #[.pointer (some ⟨B2,0,none⟩)])):=za (HX.z.2.2.2.2.2.trans V0.z);have v0:Hid (w₀.grownBy wr none):=za (zl ((zG y0.z).trans HX.z.2.2.1));have I0:Hid (W.heap.size≤wr.heap.size):=za HX.z.2.2.1.size;have x0:=d0.z.cell;clear ca;have n0:Hid (Acc ze wr.heap.size 22 (fun g=>wr.heap.size≤g) wr (.slice none 0 0) (RM (f.take 0) k)∧wr.grownBy wr none):=za ⟨Acc.nil _ _ _ _ _,gRr _ _⟩
   gi_wp2
   refine wpIn_wide.2 ?_;go_loopg [5,14] f.length (fun g s5 s14 wx=> ∃i:Nat,i+g=f.length∧s14= .int .i64 i∧Hid (Acc ze wr.heap.size 22 (fun g=>wr.heap.size≤g) wx s5 (RM (f.take i) k)∧wr.grownBy wx none))
   case atStart=>exact ⟨0,by omega,rfl,n0⟩
   case round=>
    rename World=>wi
    obtain ⟨i,hi,rfl,HY⟩:=hrel;cases gk with
    |zero=>
     obtain rfl:i=f.length:=by omega
     have R0:Hid (J pre wi):=za (hJ _ wr wi none HX.z.2.1 HY.z.2 (by simp));have HC:Hid (Sl ze (fun g=>w1.heap.size≤g) wi u5 (RM f k)):=za (by have:=HY.z.1.sl;rw [List.take_length] at this;exact this.more (fun g _ hg=>by have:=H0.z;have:=I0.z;omega));obtain ⟨fn,tmps,assign,body,hy,hR⟩:=hY pre ⟨k,u5,RM f k⟩ wi R0.z ⟨HC.z,k0⟩ (by rw [B0];exact k0);dsimp only at hy;have HR:=za hR;have L0:Hid ((pre++ [(⟨k,u5,RM f k⟩:LM)]).map (fun x=>(x.j,x.c))=(XQ f).take (k+1)):=za (by
      have C0:k< (XQ f).length:=by rw [HL.z];exact k0
      rw [lMa,HX.z.1,tSg C0];simp [XQ])
     have Q0:Hid (Kp3 w₀.heap.size B1 B2 B3 W wi):=za (HX.z.2.2.trans (Kp3.grown HY.z.2 (nLT v0.z.size (nRf _)) d0.z.lt c0.z.lt b0.z.lt));clear hR n0 HY;go_wp2_with fail
     gi_wp2_with ((with_reducible refine HR.z.mono ?_);rintro e W' ⟨rfl,hJ2,hK2⟩)
     exact ⟨⟨k+1,_,by omega,by go_num,za ⟨L0.z,hJ2,Q0.z.trans hK2⟩⟩,by simp [intOf];omega⟩
    |succ m=>
     have w0:(i:Int)< (f.length:Int):=by omega
     have l0:i< f.length:=by omega
     have m0:=za ((HF.z.kept v0.z).kept HY.z.2);have r0:=c0.z.kept HY.z.2 (by simp);have q0:=b0.z.kept HY.z.2 (by simp);have G0:=q0.cell;have U0:=za (Ox B2 _ f i k X wi r0 m0.z l0 D0);have K0:=za (Ic f i k l0);have J0:Hid (U64 (f[i][k]?.getD 0)):=za (by
      obtain ⟨_,_,_,u,_,_,_,_,A0⟩:=m0.z.atS l0;exact XF k A0)
     have HA:=za HY.z.1;have T0:=za HY.z.2;have P0:Hid (((RM (f.take i) k).length+1)*8≤140737488355328):=za (by rw [OX];simp;omega);clear r0 q0 HY n0 m0;generalize f[i][k]?.getD 0=y at *;go_wp2_with fail;refine U0.z.mono ?_;rintro e w' ⟨rfl,rfl⟩;go_wp2_with (at_builtin;refine zF rfl (.tmp 17) (.tmp 22) rfl (E:=ze) xD T0.z HA.z (fun _ h=>h) ⟨rfl,J0.z⟩ P0.z rfl rfl ?_);intro v2 w2 a0 p0 F0;have o0:Hid (Acc ze wr.heap.size 22 (fun g=>wr.heap.size≤g) w2 v2 (RM (f.take (i+1)) k)∧wr.grownBy w2 none):=za ⟨by rw [K0.z];exact a0,p0⟩;clear a0 p0 F0 G0;go_wp2_with fail;go_roundg m
     case measure=>omega
     case rel=>exact ⟨i+1,by omega,by go_num,o0⟩
  ·obtain rfl:k=N:=by omega
   gi_wp2
   go_end0;exact ⟨⟨_,rfl⟩,pre,by rw [HX.z.1, ←HL.z,List.take_length],HX.z.2.1⟩
end
section
open Go Go.RowKit Go.Shelf
attribute [local go_sem] Oper.semAt_some
def Tx(q:Int)(f:List (List Int))(x:Int):List Int:=(List.range (yH f)).map fun j=>zH q (RM f j) x
def TR(q:Int)(f:List (List Int))(y:Int):List Int:=f.map fun c=>zH q c y
def xz(q x:Int)(n:Nat)(xs:List (Nat×List Int)):List Int:=xs.foldl (fun h e=>h.set e.1 (zH q e.2 x)) (List.replicate n 0)
theorem Yo(q x:Int): ∀(xs:List (Nat×List Int)) (h:List Int),(xs.foldl (fun h e=>h.set e.1 (zH q e.2 x)) h).length=h.length
 | [],_=>rfl
 |_::xs,_=>(Yo q x xs _).trans (List.length_set ..)
theorem Yc(q x:Int)(n:Nat)(xs:List (Nat×List Int)):(xz q x n xs).length=n:=by
 unfold xz;rw [Yo];simp
theorem Uw(q x:Int)(n:Nat)(xs:List (Nat×List Int))(e:Nat×List Int):xz q x n (xs++ [e])=(xz q x n xs).set e.1 (zH q e.2 x):=by simp [xz]
theorem Uv(q x:Int)(f:List (List Int))(n:Nat): ∀k,k≤n→ ∀i (hi:i< (xz q x n ((List.range k).map fun j=>(j,RM f j))).length),(xz q x n ((List.range k).map fun j=>(j,RM f j)))[i]=if i< k then zH q (RM f i) x else 0
 |0,_,i,hi=>by simp [xz]
 |k+1,hk,i,hi=>by
  have e:(List.range (k+1)).map (fun j=>(j,RM f j))=(List.range k).map (fun j=>(j,RM f j))++ [(k,RM f k)]:=by simp [List.range_succ]
  simp only [e,Uw];rw [List.getElem_set];split
  ·rename_i h;subst h;simp
  ·rename_i h;rw [Uv q x f n k (by omega) i];by_cases h1:i< k
   ·simp [h1,show i< k+1 by omega]
   ·simp [h1,show ¬i< k+1 by omega]
theorem MJ(q x:Int)(f:List (List Int)):xz q x (yH f) (XQ f)=Tx q f x:=by
 refine List.ext_getElem (by rw [Yc];simp [Tx]) fun i h1 h2=> ?_
 have h3:i< yH f:=by rwa [Yc] at h1
 have:=Uv q x f (yH f) (yH f) (nRf _) i h1
 rw [show (xz q x (yH f) (XQ f))[i]=_ from this];simp [h3,Tx]
theorem Fk(n0:Nat)(d1:6≤n0)(v:Value)(f:List (List Int))(x q:Int)(X:Nat→Prop)(w:World)(hf:Sl (zh ze) X w v f)(hx:U64 x)(Y0:f.length≤100000)(z0: ∀c∈f,c.length≤100000):
  CallsIn Fence.wide n0 prog 104 #[v, .int .u64 x, .int .u64 q] w (zN ze (fun g=>w.heap.size≤g) w (Tx q f x)):=by
 have h1:1≤n0:=by omega
 have HF:=za hf;have HX:=za hx;have R0:Hid (yH f≤100000):=za (Va f _ z0);obtain ⟨A1,c1,rfl,_,_⟩:=hf.form;have C0:=za (fun w' (hw:w.grownBy w' none)=>Nh _ f X w' (hf.kept hw) z0);clear hf hx;obtain ⟨n,hn⟩:=exq (yH f);have HN:=za hn;rw [←hn] at C0 R0;have a1:n≤100000:=R0.z;have V0:=run_make_row' (P:=prog) 31 22 (.int .u64 0) 8 Tryz.underlying31 RF rfl .i64 .i64 n (by omega) (by omega);have F0:Hid (w.grownBy ((w.alloc (.cells #[.int .u64 x] 22)).alloc (.cells #[.int .u64 q] 22)) none):=za ((gAl w _ none).trans (gAl _ _ none));clear hn;refine callsIn_of_wp_marks func104 rfl trivial ?_ rfl;simp only [ntmps104,List.size_toArray,List.length_cons,List.length_nil,Nat.reduceAdd,Nat.reduceSub,Array.replicate_succ,Array.replicate_zero,List.push_toArray,List.append_toArray,List.nil_append,List.cons_append]
 gi_wp2_with (refine ⟨trivial, ?_⟩;refine (callsIn_wide.2 (C0.z _ F0.z)).mono ?_;rintro e w' ⟨rfl,hw'⟩;subst hw')
 have I0:Hid (Bk ((((w.alloc (.cells #[.int .u64 x] 22)).alloc (.cells #[.int .u64 q] 22)).alloc (.cells (madeCells #[.int .u64 0] n) 22)).alloc (.cells #[.slice (some ⟨w.heap.size+1+1,0,none⟩) n n] 31)) w.heap.size 22 #[.int .u64 x]∧Bk ((((w.alloc (.cells #[.int .u64 x] 22)).alloc (.cells #[.int .u64 q] 22)).alloc (.cells (madeCells #[.int .u64 0] n) 22)).alloc (.cells #[.slice (some ⟨w.heap.size+1+1,0,none⟩) n n] 31)) (w.heap.size+1) 22 #[.int .u64 q]∧Bk ((((w.alloc (.cells #[.int .u64 x] 22)).alloc (.cells #[.int .u64 q] 22)).alloc (.cells (madeCells #[.int .u64 0] n) 22)).alloc (.cells #[.slice (some ⟨w.heap.size+1+1,0,none⟩) n n] 31)) (w.heap.size+1+1) 22 (nums (List.replicate n 0)).toArray∧Boxed ((((w.alloc (.cells #[.int .u64 x] 22)).alloc (.cells #[.int .u64 q] 22)).alloc (.cells (madeCells #[.int .u64 0] n) 22)).alloc (.cells #[.slice (some ⟨w.heap.size+1+1,0,none⟩) n n] 31)) (w.heap.size+1+1+1) 31 (.slice (some ⟨w.heap.size+1+1,0,none⟩) n n)∧w.grownBy ((((w.alloc (.cells #[.int .u64 x] 22)).alloc (.cells #[.int .u64 q] 22)).alloc (.cells (madeCells #[.int .u64 0] n) 22)).alloc (.cells #[.slice (some ⟨w.heap.size+1+1,0,none⟩) n n] 31)) none∧((((w.alloc (.cells #[.int .u64 x] 22)).alloc (.cells #[.int .u64 q] 22)).alloc (.cells (madeCells #[.int .u64 0] n) 22)).alloc (.cells #[.slice (some ⟨w.heap.size+1+1,0,none⟩) n n] 31)).heap.size=w.heap.size+1+1+1+1):=za (by
  have e1:(w.alloc (.cells #[.int .u64 x] 22)).heap.size=w.heap.size+1:=by simp
  have e2:((w.alloc (.cells #[.int .u64 x] 22)).alloc (.cells #[.int .u64 q] 22)).heap.size=w.heap.size+1+1:=by simp
  have e3:(((w.alloc (.cells #[.int .u64 x] 22)).alloc (.cells #[.int .u64 q] 22)).alloc (.cells (madeCells #[.int .u64 0] n) 22)).heap.size=w.heap.size+1+1+1:=by simp
  have b1:=(Bk.new (w.alloc (.cells #[.int .u64 x] 22)) 22 #[.int .u64 q]).alloc (.cells (madeCells #[.int .u64 0] n) 22)|>.alloc (.cells #[.slice (some ⟨w.heap.size+1+1,0,none⟩) n n] 31)
  have b2:=(Bk.new ((w.alloc (.cells #[.int .u64 x] 22)).alloc (.cells #[.int .u64 q] 22)) 22 (madeCells #[.int .u64 0] n)).alloc (.cells #[.slice (some ⟨w.heap.size+1+1,0,none⟩) n n] 31);have b3:=Boxed.new (((w.alloc (.cells #[.int .u64 x] 22)).alloc (.cells #[.int .u64 q] 22)).alloc (.cells (madeCells #[.int .u64 0] n) 22)) 31 (.slice (some ⟨w.heap.size+1+1,0,none⟩) n n);rw [e1] at b1;rw [e2] at b2;rw [e3] at b3;exact ⟨(((Bk.new w 22 #[.int .u64 x]).alloc _).alloc _).alloc _,b1,b2.of_eq (Array.toList_inj.1 (by rw [toList_madeCells_one];simp [nums])),b3,(F0.z.trans (gAl _ _ none)).trans (gAl _ _ none),by simp⟩)
 have G0:=za (OW A1 f.length c1 ((((w.alloc (.cells #[.int .u64 x] 22)).alloc (.cells #[.int .u64 q] 22)).alloc (.cells (madeCells #[.int .u64 0] n) 22)).alloc (.cells #[.slice (some ⟨w.heap.size+1+1,0,none⟩) n n] 31)));obtain ⟨Wm,O0⟩: ∃Wm,((((w.alloc (.cells #[.int .u64 x] 22)).alloc (.cells #[.int .u64 q] 22)).alloc (.cells (madeCells #[.int .u64 0] n) 22)).alloc (.cells #[.slice (some ⟨w.heap.size+1+1,0,none⟩) n n] 31))=Wm:=⟨_,rfl⟩;rw [O0] at I0 G0 ⊢;clear O0 V0 C0 F0;refine ⟨trivial, ?_⟩;refine (callsIn_wide.2 G0.z).mono ?_;rintro e W0 ⟨rfl,b1,b2,b3,hg,hsz⟩;clear G0;obtain ⟨k1,k2,k3,k4,k5,k6⟩:=I0.z;have bx:=k1.grown hg (by simp);have bq:=k2.grown hg (by simp);have bo:=k3.grown hg (by simp);have bs:=k4.kept hg (by simp);have Q0:Below w.heap.size w W0:=zG (k5.trans hg);rw [k6] at b1 b2 b3 hsz ⊢;clear k1 k2 k3 k4 k5 k6 hg I0;dsimp only
 gi_wp2
 refine Zk rfl h1 (gf:=195) (lb:= #[.pointer (some ⟨w.heap.size+1+1+1+1,0,none⟩), .pointer (some ⟨w.heap.size+1+1+1+1+1+1,0,none⟩)]) rfl trivial (enters_of func195 (by kernel_rfl) rfl)
  (Pw (n0 - 1) (by omega) _ _ _ _ f X w W0 Q0 b1 b2 b3 HF.z Y0 z0) Kp3.trans (Kp3.b (by omega) (by omega) (by omega) (by omega)) (Below.refl _ _) (fun _=>rfl)
  (fun pre W=>Bk W w.heap.size 22 #[.int .u64 x]∧Bk W (w.heap.size+1) 22 #[.int .u64 q]∧Bk W (w.heap.size+1+1) 22 (nums (xz q x n (pre.map fun e:LM=>(e.j,e.c)))).toArray∧Boxed W (w.heap.size+1+1+1) 31 (.slice (some ⟨w.heap.size+1+1,0,none⟩) n n)∧Below w.heap.size w W∧W0.heap.size≤W.heap.size)
  (fun pre X' Y J0 hs hg a0=>by
   obtain ⟨s1,s2,s3,s4,s5,s6⟩:=hs;have s0:=fun r e=>(a0 r e).2
   have l3:=s3.lt;have n3:some (w.heap.size+1+1)≠J0:=fun e=>by
    obtain ⟨o,ho,hc⟩:=s0 _ e.symm;rw [show X'.heap[w.heap.size+1+1]? =_ from s3] at ho;cases ho;cases hc
   exact ⟨s1.grown hg (Vq (s1.cell 0) s0),s2.grown hg (Vq (s2.cell 0) s0),s3.grown hg n3,s4.kept hg (Yp s4 s0),s5.grown hg s5.size (fun k e=>by have:=(a0 k e).1;omega),nLT s6 hg.size⟩)
  ⟨bx,bq,by simpa [xz] using bo,bs,Q0,nRf _⟩
  (fun e a' W=>(Sl ze (fun g=>W0.heap.size≤g) W e.v e.c∧e.j< n)∧a'={tmps:= #[.slice A1 f.length c1, .int .u64 x, .int .u64 q,undef, .pointer (some ⟨w.heap.size,0,none⟩), .pointer (some ⟨w.heap.size+1,0,none⟩), .slice none 0 0, .pointer (some ⟨w.heap.size+1+1+1,0,none⟩), .int .i64 e.j,e.v, .slice A1 f.length c1, .int .i64 n, .slice (some ⟨w.heap.size+1+1,0,none⟩) n n, .slice A1 f.length c1, .func (.func 195) #[] #[.pointer (some ⟨w.heap.size+1+1+1+1,0,none⟩), .pointer (some ⟨w.heap.size+1+1+1+1+1+1,0,none⟩)], .int .i64 e.j,e.v,undef,undef,undef,undef,undef,undef,undef,undef],defers:= []})
  (fun e a' _ X' Y J0 hs hg a0=>⟨⟨hs.1.1.keepc hg (fun r e=>(a0 r e).2),hs.1.2⟩,hs.2⟩)
  ?assign ?body ?done
 case assign=>
  rintro l pre e W K hi hfx hK;have A0:e.j< n:=by have:=hfx.2;rwa [←HN.z] at this
  have B0:=hfx.1;have Z0:=hK _ W (KeepsFrom.refl _ _) (Kp3.refl _ _ _ _ _) hi ⟨⟨B0,A0⟩,rfl⟩;clear hK hi hfx
  gi_wp2
  exact Z0
 case body=>
  rintro l pre ⟨j,vc,lc⟩ a' W hl ⟨hbx,hbq,hbo,hbs,hbl,hws⟩ ⟨⟨f0,t0⟩,rfl⟩ hlt;have f0:Sl ze (fun g=>W0.heap.size≤g) W vc lc:=f0;have t0:j< n:=t0;obtain ⟨Ac,cc,rfl,_,_⟩:=f0.form;have g1:(0:Int)≤(j:Int):=by omega
  have f1:(j:Int)< (n:Int):=by omega
  have y0:Hid (Boxed W.drew (w.heap.size+1+1+1) 31 (.slice (some ⟨w.heap.size+1+1,0,none⟩) n n)):=za hbs;have u0:Hid (Bk W.drew w.heap.size 22 #[.int .u64 x]):=za (hbx.drewN 1);have v0:Hid (Bk W.drew (w.heap.size+1) 22 #[.int .u64 q]):=za (hbq.drewN 1);have T0:Hid (Bk W.drew (w.heap.size+1+1) 22 (nums (xz q x n (pre.map fun e:LM=>(e.j,e.c)))).toArray):=za (hbo.drewN 1);have E0:Hid (∀w',W.drew.grownBy w' none→Calls prog 88 #[.slice Ac lc.length cc, .int .u64 x, .int .u64 q] w' fun e U0=>e= .returned (.int .u64 (zH q lc x))∧w'.grownBy U0 none):=za (fun w' hw=>YH _ lc x q _ w' (f0.kept ((zb W 1).trans hw)) HX.z);have X0:=za hbl;have D0:Hid ((xz q x n (pre.map fun e:LM=>(e.j,e.c))).length=n):=za (Yc _ _ _ _);have S0:Hid (xz q x n ((pre++ [(⟨j, .slice Ac lc.length cc,lc⟩:LM)]).map fun e:LM=>(e.j,e.c))=(xz q x n (pre.map fun e:LM=>(e.j,e.c))).set j (zH q lc x)):=za (by rw [lMa];exact Uw _ _ _ _ _);have x0:Hid (w.heap.size+1+1+1+1+1+1+1=W0.heap.size∧W0.heap.size≤W.heap.size):=za ⟨by rw [hsz],hws⟩;have w0:Hid (w.heap.size+1+1+1+1+1+1< W.heap.size):=za (by omega);obtain ⟨H0,P0⟩:=exq (xz q x n (pre.map fun e:LM=>(e.j,e.c)));rw [←P0] at T0 D0 S0;obtain ⟨ev,M0⟩:=exq (zH q lc x);have c0:=za M0;clear hbx hbq hbo hbs hbl f0 hlt P0 M0;dsimp only
  gi_wp2
  refine xL (l0:=l) (R:=fun _ W5=>KeepsFrom W0.heap.size W W5∧Kp3 w.heap.size (w.heap.size+1+1+1+1) (w.heap.size+1+1+1+1+1) (w.heap.size+1+1+1+1+1+1) W W5∧Bk W5 w.heap.size 22 #[.int .u64 x]∧Bk W5 (w.heap.size+1) 22 #[.int .u64 q]∧Bk W5 (w.heap.size+1+1) 22 (nums (xz q x n ((pre++ [(⟨j, .slice Ac lc.length cc,lc⟩:LM)]).map fun e:LM=>(e.j,e.c)))).toArray∧Boxed W5 (w.heap.size+1+1+1) 31 (.slice (some ⟨w.heap.size+1+1,0,none⟩) n n)∧Below w.heap.size w W5∧W0.heap.size≤W5.heap.size) (by kernel_rfl) (by kernel_rfl) (fun a w h=>⟨rfl,h⟩) ?_;refine Uc 7 (by kernel_rfl) ?_;refine mQ0 (.slice (some ⟨w.heap.size+1+1,0,none⟩) n n) (fun w' hw' K hK=> ?_) ?_
  ·have N0:=(y0.z.kept hw' (by simp)).cell;have r0:=(u0.z.grown hw' (by simp)).cell 0;have q0:=(v0.z.grown hw' (by simp)).cell 0;simp at r0 q0;go_simp;exact hK _ rfl rfl
  refine mP0 (.int .i64 (j:Int)) ?_;refine mP0 (.slice Ac lc.length cc) ?_;refine mQ0 (.int .u64 x) (fun w' hw' K hK=> ?_) ?_
  ·have N0:=(y0.z.kept hw' (by simp)).cell;have r0:=(u0.z.grown hw' (by simp)).cell 0;have q0:=(v0.z.grown hw' (by simp)).cell 0;simp at r0 q0;go_simp;exact hK _ rfl rfl
  refine mQ0 (.int .u64 q) (fun w' hw' K hK=> ?_) ?_
  ·have N0:=(y0.z.kept hw' (by simp)).cell;have r0:=(u0.z.grown hw' (by simp)).cell 0;have q0:=(v0.z.grown hw' (by simp)).cell 0;simp at r0 q0;go_simp;exact hK _ rfl rfl
  refine zm.step (Pv.eq (.int .u64 (zH q lc x))) [(2,19),(3,20),(4,21)] (by kernel_rfl) (fun w' hw'=> ?_) ?_
  ·rintro _ rfl;rintro _ rfl;rintro _ rfl;refine zr rfl fun K hK=> ?_
   go_simp;refine (E0.z w' hw').mono ?_;rintro e w3 ⟨rfl,hg⟩;exact hK _ _ rfl rfl hg
  refine zm.step (Pv.eq (.pointer (some ⟨w.heap.size+1+1,j,none⟩))) [(0,17),(1,18)] (by kernel_rfl) (fun w' hw'=> ?_) ?_
  ·rintro _ rfl;rintro _ rfl;refine zr rfl fun K hK=> ?_
   go_simp;exact hK _ _ rfl rfl gRf
  intro w3 d0
  iterate 5 (intro _ _)
  rintro _ rfl;rintro _ rfl;have b0:=T0.z.grown d0 (by simp);have n1:w3.cell? ⟨w.heap.size+1+1,j,none⟩=some (.int .u64 (H0[j]'(by rw [D0.z];exact t0))):=by rw [b0.cell j];simp [nums,D0.z,t0]
  have j1:=b0.free j;have i0:W.grownBy w3 none:=(zb W 1).trans d0;have o0:=(b0.set j (.int .u64 ev)).of_eq (cs':=(nums (H0.set j ev)).toArray) (by simp [nums,List.map_set]);have j0:=(u0.z.grown d0 (by simp)).far (p:=⟨w.heap.size+1+1,j,none⟩) (by simp;omega) (.int .u64 ev);have m0:=(v0.z.grown d0 (by simp)).far (p:=⟨w.heap.size+1+1,j,none⟩) (by simp) (.int .u64 ev);have k0:=Bk.far (y0.z.kept d0 (by simp)) (p:=⟨w.heap.size+1+1,j,none⟩) (by simp) (.int .u64 ev);have L0:KeepsFrom W0.heap.size W (w3.setCell ⟨w.heap.size+1+1,j,none⟩ (.int .u64 ev)):=((Zf i0).trans (KeepsOthers.setCell _ _ _)).from _;have h0:w.heap.size+1+1+1+1+1+1< W.heap.size:=w0.z;have K0:Kp3 w.heap.size (w.heap.size+1+1+1+1) (w.heap.size+1+1+1+1+1) (w.heap.size+1+1+1+1+1+1) W (w3.setCell ⟨w.heap.size+1+1,j,none⟩ (.int .u64 ev)):=
   (Kp3.grown i0 (by omega) (by omega) (by omega) h0).trans ⟨(Below.refl _ w3).setCell (p:=⟨w.heap.size+1+1,j,none⟩) (by simp;omega) _,Below.heap_setCell w3 _ _ _ (by simp;omega),Below.heap_setCell w3 _ _ _ (by simp;omega),Below.heap_setCell w3 _ _ _ (by simp;omega)⟩
  have p0:Below w.heap.size w (w3.setCell ⟨w.heap.size+1+1,j,none⟩ (.int .u64 ev)):=(X0.z.trans ((zG i0).mono (by omega))).setCell (p:=⟨w.heap.size+1+1,j,none⟩) (by simp;omega) _;rw [S0.z, ←c0.z];have FIN:=za (And.intro L0 (And.intro K0 (And.intro j0 (And.intro m0 (And.intro o0 (And.intro k0 (And.intro p0 (show W0.heap.size≤(w3.setCell ⟨w.heap.size+1+1,j,none⟩ (.int .u64 ev)).heap.size by have:=i0.size;have:=x0.z.2;simp;omega))))))));clear b0 i0 o0 j0 m0 k0 L0 K0 p0 d0;rw [c0.z] at FIN;rw [c0.z];refine wpList_plain rfl fun K hK=> ?_
  go_simp;refine hK _ _ (wpList_nil ?_);exact ⟨rfl,FIN.out⟩
 case done=>
  rintro D zs W hD hzs ⟨hbx,hbq,hbo,hbs,hbl,_⟩ hK;have l1:=hbs.cell;rw [hzs,HN.z,MJ] at hbo;have g0:(Tx q f x).length=n:=by simp [Tx,HN.z]
  have HR:Hid (Sl ze (fun g=>w.heap.size≤g) (W.putObj D (.deferred none)) (.slice (some ⟨w.heap.size+1+1,0,none⟩) n n) (Tx q f x)∧w.grownBy (W.putObj D (.deferred none)) none):=za ⟨by
   have e0:=hbo.grown (grownBy_putObj' W D (.deferred none)) (fun e=>by injection e with e;omega)
   have:=Sl.block (E:=ze) (X:=fun g=>w.heap.size≤g) (xs:=Tx q f x) (c:=n) e0 (by omega) ((nums (Tx q f x)).map fun v=> [v]) (by simp [nums]) (fun i hi i1=>⟨by simp [nums],by simp only [Tx,List.getElem_map];exact xR _ _ _⟩) (by rw [zZ]) (by rw [g0];exact nRf _) (by omega)
   rwa [g0] at this,zl (hbl.trans (belowK_b (w:=w) (nRf _) W D _ _ (by omega) hK rfl rfl))⟩
  clear hbo hbx hbq hbs hbl
  gi_wp2
  refine ⟨by simp, .inl ⟨_,_,rfl,run_takeDeferred hK, ?_⟩⟩;refine ⟨_,results_tmp rfl _ _ _, .slice (some ⟨w.heap.size+1+1,0,none⟩) n n,rfl,HR.z.1,HR.z.2⟩
end
section
open Go Go.RowKit
def ZT(q y:Int)(f:List (List Int))(j:Nat):List Int:=(f.take j).map (fun c=>zH q c y)++List.replicate (f.length - j) 0
theorem Zd(q y:Int)(f:List (List Int))(j:Nat)(h:j≤f.length):(ZT q y f j).length=f.length:=by simp [ZT];omega
theorem Lr(q y:Int)(f:List (List Int))(j:Nat)(h:j< f.length):(ZT q y f j).set j (zH q f[j] y)=ZT q y f (j+1):=by
 refine List.ext_getElem (by rw [List.length_set,Zd _ _ _ _ (by omega),Zd _ _ _ _ (by omega)]) fun i h1 h2=> ?_
 rw [Zd _ _ _ _ (by omega)] at h2;rw [List.getElem_set];split
 ·rename_i e;subst e;simp only [ZT];rw [List.getElem_append_left (by simp;omega)];simp
 ·rename_i e;simp only [ZT];by_cases hi:i< j
  ·rw [List.getElem_append_left (by simp;omega),List.getElem_append_left (by simp;omega)];simp
  ·rw [List.getElem_append_right (by simp;omega),List.getElem_append_right (by simp;omega)];simp
theorem Ib(v:Value)(f:List (List Int))(y q:Int)(X:Nat→Prop)(w:World)(hf:Sl (zh ze) X w v f)(hy:U64 y)(l0:f.length≤100000):
  Calls prog 105 #[v, .int .u64 y, .int .u64 q] w (zN ze (fun g=>w.heap.size≤g) w (TR q f y)):=by
 have HF:=za hf;have HY:=za hy;obtain ⟨A,c,rfl,t0,s0⟩:=hf.form;clear hf hy;have g0:=run_make_row' (P:=prog) 31 22 (.int .u64 0) 8 Tryz.underlying31 RF rfl .i64 .i64 f.length (by omega) (by omega);have d0:Hid (Bk (w.alloc (.cells (madeCells #[.int .u64 0] f.length) 22)) w.heap.size 22 (nums (ZT q y f 0)).toArray∧w.grownBy (w.alloc (.cells (madeCells #[.int .u64 0] f.length) 22)) none):=za ⟨(Bk.new w 22 (madeCells #[.int .u64 0] f.length)).of_eq (Array.toList_inj.1 (by rw [toList_madeCells_one];simp [nums,ZT])),gAl w _ none⟩;go_enter func105,ntmps105;go_wp2_with fail;go_loopg [15] f.length (fun g s15 wx=> ∃j:Nat,j+g=f.length∧s15= .int .i64 j∧Hid (Bk wx w.heap.size 22 (nums (ZT q y f j)).toArray∧w.grownBy wx none))
 case atStart=>exact ⟨0,by omega,rfl,d0⟩
 case round=>
  obtain ⟨j,hj,rfl,HX⟩:=hrel;cases gk with
  |zero=>
   obtain rfl:j=f.length:=by omega
   have HR:Hid (Sl ze (fun g=>w.heap.size≤g) wr (.slice (some ⟨w.heap.size,0,none⟩) f.length f.length) (TR q f y)∧w.grownBy wr none):=za ⟨by
    have h1:=HX.z.1;rw [show ZT q y f f.length=TR q f y by simp [ZT,TR]] at h1
    have:=Sl.block (E:=ze) (X:=fun g=>w.heap.size≤g) (xs:=TR q f y) (c:=f.length) h1 (nRf _) ((nums (TR q f y)).map fun v=> [v]) (by simp [nums]) (fun i hi o0=>⟨by simp [nums],by simp only [TR,List.getElem_map];exact xR _ _ _⟩) (by rw [zZ]) (by simp [TR]) (by omega)
    rwa [show (TR q f y).length=f.length by simp [TR]] at this,HX.z.2⟩
   clear HX d0 g0;go_wp2;go_ret;exact ⟨_,rfl,HR.z.1,HR.z.2⟩
  |succ m=>
   have m0:(j:Int)< (f.length:Int):=by omega
   have a0:j< f.length:=by omega
   have n0:(0:Int)≤(j:Int):=by omega
   obtain ⟨g,o,c',u,e,_,_,q0,c0⟩:=(HF.z.kept HX.z.2).atS a0;injection e with e1 e2 e3
   subst e1 e3;obtain ⟨A1,c1,e1,_,_⟩:=c0.form;subst e1;have k0:=za (YH _ f[j] y q _ wr c0 HY.z);have j0:=za (Lr q y f j a0);have i0:=za (Zd q y f j (by omega));have HB:=za HX.z.1;have HG:=za HX.z.2;clear c0 e2 HX d0 g0;generalize ZT q y f j=H0 at *;generalize f[j]=L at *;generalize L.length=n1 at *;go_wp2_with fail;refine k0.z.mono ?_;rintro e w1 ⟨rfl,hg1⟩;have b0:=HB.z.grown hg1 (by simp);have r0:w1.cell? ⟨w.heap.size,j,none⟩=some (.int .u64 (H0[j]'(by rw [i0.z];exact a0))):=by rw [b0.cell j];simp [nums,i0.z,a0]
   have p0:=b0.free j;have f0:Hid (Bk (w1.setCell ⟨w.heap.size,j,none⟩ (.int .u64 (zH q L y))) w.heap.size 22 (nums (ZT q y f (j+1))).toArray∧w.grownBy (w1.setCell ⟨w.heap.size,j,none⟩ (.int .u64 (zH q L y))) none):=za ⟨(b0.set j _).of_eq (by rw [←j0.z];simp [nums,List.map_set]),zP (HG.z.trans hg1) (xd (gRr _ (some w.heap.size)) j _) (fun g e=>by injection e with e;omega)⟩;clear hg1 b0;go_wp2_with fail;go_roundg m
   case measure=>omega
   case rel=>exact ⟨j+1,by omega,by go_num,f0⟩
structure yQ (s t:Option Nat) (w w':World):Prop where
 os:w'.os=w.os
 tape:w'.tape=w.tape
 output:w'.output=w.output
 size:w.heap.size≤w'.heap.size
 block: ∀i,i< w.heap.size→some i≠s→some i≠t→w'.heap[i]? =w.heap[i]?
theorem yQ.refl(s t:Option Nat)(w:World):yQ s t w w:=⟨rfl,rfl,rfl,nRf _,fun _ _ _ _=>rfl⟩
theorem yQ.step{s t:Option Nat}{a b c:World}{row:Option Nat}(h:yQ s t a b)(k:b.grownBy c row)(hr:row=none∨row=s∨row=t):yQ s t a c:=⟨k.os.trans h.os,k.tape.trans h.tape,k.output.trans h.output,nLT h.size k.size,fun i hi h1 h2=>(k.block i (nLl hi h.size) (by
 rcases hr with rfl|rfl|rfl
 ·simp
 ·exact h1
 ·exact h2)).trans (h.block i hi h1 h2)⟩
theorem yQ.base{s t:Option Nat}{z a b:World}(h:yQ s t a b)(hz:z.grownBy a none)(hs: ∀g,s=some g→z.heap.size≤g)(ht: ∀g,t=some g→z.heap.size≤g):z.grownBy b none:=⟨h.os.trans hz.os,h.tape.trans hz.tape,h.output.trans hz.output,nLT hz.size h.size,fun i hi _=>(h.block i (nLl hi hz.size) (fun e=>by have:=hs i e.symm;omega) (fun e=>by have:=ht i e.symm;omega)).trans (hz.block i hi (by simp))⟩
theorem yQ.cell{s t:Option Nat}{w w':World}(h:yQ s t w w'){g o:Nat}{u:Value}(hc:w.cell? ⟨g,o,none⟩=some u)(hs:some g≠s)(ht:some g≠t):w'.cell? ⟨g,o,none⟩=some u:=(World.cell?_of_block (w:=w) (h.block g (block_lt_of_cell hc) hs ht)).trans hc
section
variable {α β:Type} (E:Enc α) (F:Enc β) (base:Nat) (e f:TypeId) (Z:Nat→Prop) (D:World) (v0 u0:Value) (xs:List α) (ys:List β) (x:α) (y:β)
def ZL(vs:List (Nat×Value))(W:World):Prop:= ∃v u,Zj E F base e f Z W v u (if 0∈vs.map (·.1) then xs++ [x] else xs) (if 1∈vs.map (·.1) then ys++ [y] else ys)∧(if 0∈vs.map (·.1) then (∀z,(0,z)∈vs→z=v) else v=v0)∧(if 1∈vs.map (·.1) then (∀z,(1,z)∈vs→z=u) else u=u0)∧yQ v0.ownBlock u0.ownBlock D W
def Nb:FR.Lt where
 C:=ZL E F base e f Z D v0 u0 xs ys x y
 R q u W W':=(q=0∧W.grownBy W' v0.ownBlock∧Zr W v0 u)∨(q=1∧W.grownBy W' u0.ownBlock∧Zr W u0 u)
 G W W':=W.grownBy W' none
 g:=fun ⟨v,u,h1,h2,h3,h4⟩ hg=>⟨v,u,h1.kept hg,h2,h3,h4.step hg (.inl rfl)⟩
end
section
variable {α β:Type} {E:Enc α} {F:Enc β} {base:Nat} {e f:TypeId} {Z:Nat→Prop} {D W W':World} {v0 u0:Value} {xs:List α} {ys:List β} {x:α} {y:β} {vs:List (Nat×Value)}
theorem ZL.start(h:Zj E F base e f Z D v0 u0 xs ys):ZL E F base e f Z D v0 u0 xs ys x y [] D:=⟨v0,u0,by simpa using h,by simp,by simp,yQ.refl _ _ _⟩
theorem ZL.gr(h:ZL E F base e f Z D v0 u0 xs ys x y vs W):yQ v0.ownBlock u0.ownBlock D W:=by
 obtain ⟨_,_,_,_,_,h⟩:=h;exact h
theorem ZL.lt(h:ZL E F base e f Z D v0 u0 xs ys x y vs W): ∀q z,(q,z)∈vs→q< 2→ ∀g,z.ownBlock=some g→g< W.heap.size:=by
 obtain ⟨v,u,h1,h2,h3,_⟩:=h;intro q z hz hq g hg;have hm:q∈vs.map (·.1):=List.mem_map.2 ⟨_,hz,rfl⟩;rcases (show q=0∨q=1 by omega) with rfl|rfl
 ·rw [if_pos hm] at h2;rw [h2 z hz] at hg;exact (h1.fst.lt g hg).2
 ·rw [if_pos hm] at h3;rw [h3 z hz] at hg;exact (h1.snd.lt g hg).2
theorem ZL.app0{P:Program}{cs:List Value}{t:TypeId}{bytes b c:Nat}{o:Oper}{a:Act}{K:Act→World→Prop}{Q:Exit→Act→World→Prop}(h:ZL E F base e f Z D v0 u0 xs ys x y vs W)(hn:0 ∉ vs.map (·.1))(hE:zM P t e E.size bytes)
  (hrep:E.rep (fun g=>(Z g∧(∀z,(1,z)∈vs→some g≠z.ownBlock)∧some g≠u0.ownBlock)∧some g≠v0.ownBlock) W cs x) (hcell: ∀j u,cs[j]? =some u→W.cell? ⟨b,j,none⟩=some u) (hlen:(xs.length+1)*bytes≤140737488355328) (hb:base≤W.heap.size) (hN: ∀g,W.heap.size≤g→Z g) (s k:Operand)
  (ho:o.op= .call {callee:= .builtin .append,args:= #[s,k],argTypes:= #[t,t]}) (hs:a.eval s=v0) (hx:a.eval k= .slice (some ⟨b,0,none⟩) 1 c)
  (hK: ∀v' w',(Nb E F base e f Z D v0 u0 xs ys x y).R 0 v' W w'∧ZL E F base e f Z D v0 u0 xs ys x y (vs++ [(0,v')]) w'→K (a.put o.dst v') w'):o.wp P a W K Q:=by
 obtain ⟨v,u,h1,h2,h3,h4⟩:=h;rw [if_neg hn] at h1 h2;subst h2;have hu: ∀g,((Z g∧(∀z,(1,z)∈vs→some g≠z.ownBlock)∧some g≠u0.ownBlock)∧some g≠v.ownBlock)→(Z g∧some g≠u.ownBlock)∧some g≠v.ownBlock:=fun g hg=>⟨⟨hg.1.1,by
  by_cases hm:1∈vs.map (·.1)
  ·rw [if_pos hm] at h3;obtain ⟨p,hp,e1⟩:=List.mem_map.1 hm
   have:(1,p.2)∈vs:=by rw [←e1];exact hp
   have e2:=h3 _ this
   have:=hg.1.2.1 _ this
   rw [e2] at this;exact this
  ·rw [if_neg hm] at h3;rw [h3];exact hg.1.2.2⟩,hg.2⟩
 refine yu hE h1.fst (E.more hrep fun g _ hg=>hu g hg) hcell hlen hb (h1.new1 hN) s k ho hs hx fun v' w' ha hg hm=>hK v' w' ⟨.inl ⟨rfl,hg,hm⟩,v',u, ?_, ?_, ?_,h4.step hg (.inr (.inl rfl))⟩
 ·have e0:(0:Nat)∈(vs++ [(0,v')]).map (fun x:Nat×Value=>x.1):=zQ.2 (.inr rfl);have e1:((1:Nat)∈(vs++ [(0,v')]).map (fun x:Nat×Value=>x.1))↔(1:Nat)∈vs.map (fun x:Nat×Value=>x.1):=⟨fun h=>(zQ.1 h).resolve_right (by decide),fun h=>zQ.2 (.inl h)⟩;rw [if_pos e0];simp only [e1];exact h1.one ha hg hm
 ·have e0:(0:Nat)∈(vs++ [(0,v')]).map (fun x:Nat×Value=>x.1):=zQ.2 (.inr rfl);rw [if_pos e0];intro z hz;exact Yw hz hn
 ·have e1:((1:Nat)∈(vs++ [(0,v')]).map (fun x:Nat×Value=>x.1))↔(1:Nat)∈vs.map (fun x:Nat×Value=>x.1):=⟨fun h=>(zQ.1 h).resolve_right (by decide),fun h=>zQ.2 (.inl h)⟩;simp only [e1];by_cases hm1:1∈vs.map (·.1)
  ·rw [if_pos hm1] at h3 ⊢;exact fun z hz=>h3 z (YY hz (by decide))
  ·rw [if_neg hm1] at h3 ⊢;exact h3
theorem ZL.app1{P:Program}{cs:List Value}{t:TypeId}{bytes b c:Nat}{o:Oper}{a:Act}{K:Act→World→Prop}{Q:Exit→Act→World→Prop}(h:ZL E F base e f Z D v0 u0 xs ys x y vs W)(hn:1 ∉ vs.map (·.1))(hE:zM P t f F.size bytes)
  (hrep:F.rep (fun g=>(Z g∧(∀z,(0,z)∈vs→some g≠z.ownBlock)∧some g≠v0.ownBlock)∧some g≠u0.ownBlock) W cs y) (hcell: ∀j u,cs[j]? =some u→W.cell? ⟨b,j,none⟩=some u) (hlen:(ys.length+1)*bytes≤140737488355328) (hb:base≤W.heap.size) (hN: ∀g,W.heap.size≤g→Z g) (s k:Operand)
  (ho:o.op= .call {callee:= .builtin .append,args:= #[s,k],argTypes:= #[t,t]}) (hs:a.eval s=u0) (hx:a.eval k= .slice (some ⟨b,0,none⟩) 1 c)
  (hK: ∀v' w',(Nb E F base e f Z D v0 u0 xs ys x y).R 1 v' W w'∧ZL E F base e f Z D v0 u0 xs ys x y (vs++ [(1,v')]) w'→K (a.put o.dst v') w'):o.wp P a W K Q:=by
 obtain ⟨v,u,h1,h2,h3,h4⟩:=h;rw [if_neg hn] at h1 h3;subst h3;have hu: ∀g,((Z g∧(∀z,(0,z)∈vs→some g≠z.ownBlock)∧some g≠v0.ownBlock)∧some g≠u.ownBlock)→(Z g∧some g≠v.ownBlock)∧some g≠u.ownBlock:=fun g hg=>⟨⟨hg.1.1,by
  by_cases hm:0∈vs.map (·.1)
  ·rw [if_pos hm] at h2;obtain ⟨p,hp,e1⟩:=List.mem_map.1 hm
   have:(0,p.2)∈vs:=by rw [←e1];exact hp
   have e2:=h2 _ this
   have:=hg.1.2.1 _ this
   rw [e2] at this;exact this
  ·rw [if_neg hm] at h2;rw [h2];exact hg.1.2.2⟩,hg.2⟩
 refine yu hE h1.snd (F.more hrep fun g _ hg=>hu g hg) hcell hlen hb (h1.new2 hN) s k ho hs hx fun v' w' ha hg hm=>hK v' w' ⟨.inr ⟨rfl,hg,hm⟩,v,v', ?_, ?_, ?_,h4.step hg (.inr (.inr rfl))⟩
 ·have e0:(1:Nat)∈(vs++ [(1,v')]).map (fun x:Nat×Value=>x.1):=zQ.2 (.inr rfl);have e1:((0:Nat)∈(vs++ [(1,v')]).map (fun x:Nat×Value=>x.1))↔(0:Nat)∈vs.map (fun x:Nat×Value=>x.1):=⟨fun h=>(zQ.1 h).resolve_right (by decide),fun h=>zQ.2 (.inl h)⟩;rw [if_pos e0];simp only [e1];exact h1.two ha hg hm
 ·have e1:((0:Nat)∈(vs++ [(1,v')]).map (fun x:Nat×Value=>x.1))↔(0:Nat)∈vs.map (fun x:Nat×Value=>x.1):=⟨fun h=>(zQ.1 h).resolve_right (by decide),fun h=>zQ.2 (.inl h)⟩;simp only [e1];by_cases hm1:0∈vs.map (·.1)
  ·rw [if_pos hm1] at h2 ⊢;exact fun z hz=>h2 z (YY hz (by decide))
  ·rw [if_neg hm1] at h2 ⊢;exact h2
 ·have e0:(1:Nat)∈(vs++ [(1,v')]).map (fun x:Nat×Value=>x.1):=zQ.2 (.inr rfl);rw [if_pos e0];intro z hz;exact Yw hz hn
theorem ZL.fin(h:ZL E F base e f Z D v0 u0 xs ys x y vs W)(h0: ∀q,q< 2↔q∈vs.map (·.1)){v u:Value}(hv:(0,v)∈vs)(hu:(1,u)∈vs):Zj E F base e f Z W v u (xs++ [x]) (ys++ [y])∧yQ v0.ownBlock u0.ownBlock D W:=by
 obtain ⟨v',u',h1,h2,h3,h4⟩:=h;rw [if_pos ((h0 0).1 (by decide))] at h1 h2;rw [if_pos ((h0 1).1 (by decide))] at h1 h3;rw [h2 v hv,h3 u hu];exact ⟨h1,h4⟩
def LH(n0:Nat)(t:TypeId)(cs:Array Value)(hv: ∀g,v0.ownBlock=some g→g< n0)(hu: ∀g,u0.ownBlock=some g→g< n0):FR.Qv (Nb E F base e f Z D v0 u0 xs ys x y):=⟨fun _ v w=> ∃b,v= .slice (some ⟨b,0,none⟩) 1 1∧n0≤b∧Bk w b t cs,fun ⟨b,h1,h2,h3⟩ hg=>⟨b,h1,h2,h3.grown hg (by simp)⟩,fun _ hr ⟨b,h1,h2,h3⟩=>by
 rcases hr with ⟨_,hg,_⟩|⟨_,hg,_⟩
 ·exact ⟨b,h1,h2,h3.grown hg (fun e=>by have:=hv b e.symm;omega)⟩
 ·exact ⟨b,h1,h2,h3.grown hg (fun e=>by have:=hu b e.symm;omega)⟩⟩
def GZ{γ:Type}(G:Enc γ)(l:List γ)(n0:Nat)(hv: ∀g,v0.ownBlock=some g→g< n0)(hu: ∀g,u0.ownBlock=some g→g< n0):FR.Qv (Nb E F base e f Z D v0 u0 xs ys x y):=⟨fun vs v w=>Sl G (fun g=>n0≤g∧ ∀q z,(q,z)∈vs→q< 2→some g≠z.ownBlock) w v l,fun h hg=>h.kept hg,fun {vs q u v w w'} _ hr h=>by
 have key: ∀s:Value,(∀g,s.ownBlock=some g→g< n0)→Zr w s u→w.grownBy w' s.ownBlock→Sl G (fun g=>n0≤g∧ ∀q' z,(q',z)∈vs++ [(q,u)]→q'< 2→some g≠z.ownBlock) w' v l:=fun s hs hm hg=>by
  have h1:Sl G (fun g=>n0≤g∧ ∀q' z,(q',z)∈vs++ [(q,u)]→q'< 2→some g≠z.ownBlock) w v l:=h.more fun g hl hx=>⟨hx.1,fun q' z hz hq' e=>by
   rcases List.mem_append.1 hz with hz|hz
   ·exact hx.2 q' z hz hq' e
   ·rw [mSg] at hz;injection hz with _ hz
    subst hz;exact hm.ne hl (fun e'=>by have:=hs g e';omega) e.symm⟩
  exact h1.keep hg fun g hx e=>by have:=hs g e.symm;omega
 rcases hr with ⟨_,hg,hm⟩|⟨_,hg,hm⟩
 ·exact key v0 hv hm hg
 ·exact key u0 hu hm hg⟩
end
section
variable {α:Type} (E:Enc α) (base:Nat) (e:TypeId) (X:Nat→Prop) (D:World) (a0:Value) (L:List α) (y:α) (bO:Nat) (t:TypeId) (cs:Array Value) (s:Nat)
def Zb(vs:List (Nat×Value))(W:World):Prop:= ∃a1,Acc E base e X W a1 (if 0∈vs.map (·.1) then L++ [y] else L)∧(if 0∈vs.map (·.1) then (∀z,(0,z)∈vs→z=a1) else a1=a0)∧Bk W bO t (if 1∈vs.map (·.1) then cs.setIfInBounds s a1 else cs)∧yQ a0.ownBlock (some bO) D W∧(1∈vs.map (·.1)→0∈vs.map (·.1))∧bO< base
def MC:FR.Lt where
 C:=Zb E base e X D a0 L y bO t cs s
 R q u W W':=(q=0∧W.grownBy W' a0.ownBlock∧Zr W a0 u)∨(q=1∧W.grownBy W' (some bO))
 G W W':=W.grownBy W' none
 g:=fun ⟨a1,h1,h2,h3,h4,h5⟩ hg=>⟨a1,h1.kept hg,h2,h3.grown hg (by simp),h4.step hg (.inl rfl),h5⟩
end
section
variable {α:Type} {E:Enc α} {base:Nat} {e:TypeId} {X:Nat→Prop} {D W W':World} {a0:Value} {L:List α} {y:α} {bO:Nat} {t:TypeId} {cs:Array Value} {s:Nat} {vs:List (Nat×Value)}
theorem Zb.start(h:Acc E base e X D a0 L)(hb:Bk D bO t cs)(hO:bO< base):Zb E base e X D a0 L y bO t cs s [] D:=⟨a0,by simpa using h,by simp,by simpa using hb,yQ.refl _ _ _,by simp,hO⟩
theorem Zb.gr(h:Zb E base e X D a0 L y bO t cs s vs W):yQ a0.ownBlock (some bO) D W:=by
 obtain ⟨_,_,_,_,h,_⟩:=h;exact h
theorem Zb.bk0(h:Zb E base e X D a0 L y bO t cs s vs W)(hn:1 ∉ vs.map (·.1)):Bk W bO t cs:=by
 obtain ⟨_,_,_,h,_⟩:=h
 rwa [if_neg hn] at h
theorem Zb.app{P:Program}{cx:List Value}{ta:TypeId}{bytes b c:Nat}{o:Oper}{a:Act}{K:Act→World→Prop}{Q:Exit→Act→World→Prop}(h:Zb E base e X D a0 L y bO t cs s vs W)(hn:0 ∉ vs.map (·.1))(hE:zM P ta e E.size bytes)
  (hrep:E.rep (fun g=>X g∧some g≠a0.ownBlock) W cx y) (hcell: ∀j u,cx[j]? =some u→W.cell? ⟨b,j,none⟩=some u) (hlen:(L.length+1)*bytes≤140737488355328) (hb:base≤W.heap.size) (hN: ∀g,W.heap.size≤g→X g) (q k:Operand)
  (ho:o.op= .call {callee:= .builtin .append,args:= #[q,k],argTypes:= #[ta,ta]}) (hs:a.eval q=a0) (hx:a.eval k= .slice (some ⟨b,0,none⟩) 1 c)
  (hK: ∀v' w',(MC E base e X D a0 L y bO t cs s).R 0 v' W w'∧Zb E base e X D a0 L y bO t cs s (vs++ [(0,v')]) w'→K (a.put o.dst v') w'):o.wp P a W K Q:=by
 obtain ⟨a1,h1,h2,h3,h4,h5,h6⟩:=h;have hn1:1 ∉ vs.map (·.1):=fun hm=>hn (h5 hm)
 rw [if_neg hn] at h1 h2;rw [if_neg hn1] at h3;subst h2;refine yu hE h1 hrep hcell hlen hb hN q k ho hs hx fun v' w' ha hg hm=>hK v' w' ⟨.inl ⟨rfl,hg,hm⟩,v', ?_, ?_, ?_,h4.step hg (.inr (.inl rfl)), ?_,h6⟩
 ·have e0:(0:Nat)∈(vs++ [(0,v')]).map (fun x:Nat×Value=>x.1):=zQ.2 (.inr rfl);rw [if_pos e0];exact ha
 ·have e0:(0:Nat)∈(vs++ [(0,v')]).map (fun x:Nat×Value=>x.1):=zQ.2 (.inr rfl);rw [if_pos e0];intro z hz;exact Yw hz hn
 ·have e1:(1:Nat) ∉ (vs++ [(0,v')]).map (fun x:Nat×Value=>x.1):=fun h=>hn1 ((zQ.1 h).resolve_right (by decide))
  rw [if_neg e1];exact h3.grown hg (fun e=>by have:=(h1.lt bO e.symm).1;omega)
 ·exact fun _=>zQ.2 (.inr rfl)
theorem Zb.put{u:Value}(h:Zb E base e X D a0 L y bO t cs s vs W)(hn:1 ∉ vs.map (·.1)){a1:Value}(ha:(0,a1)∈vs)(hX: ∀g,X g→g≠bO)(hG:W.grownBy W' (some bO))(hb:Bk W' bO t (cs.setIfInBounds s a1)):(MC E base e X D a0 L y bO t cs s).R 1 u W W'∧Zb E base e X D a0 L y bO t cs s (vs++ [(1,u)]) W':=by
 obtain ⟨a2,h1,h2,h3,h4,h5,h6⟩:=h;have hm:0∈vs.map (·.1):=List.mem_map.2 ⟨_,ha,rfl⟩;rw [if_pos hm] at h1 h2
 have:=h2 a1 ha
 subst this;have e0:(0:Nat)∈(vs++ [(1,u)]).map (fun x:Nat×Value=>x.1):=zQ.2 (.inl hm);have e1:(1:Nat)∈(vs++ [(1,u)]).map (fun x:Nat×Value=>x.1):=zQ.2 (.inr rfl);refine ⟨.inr ⟨rfl,hG⟩,a1, ?_, ?_, ?_,h4.step hG (.inr (.inr rfl)),fun _=>e0,h6⟩
 ·rw [if_pos e0];have h7:Acc E base e (fun g=>X g) W a1 (L++ [y]):=h1;refine h7.keep hG fun g hg e=> ?_
  injection e with e
  exact hX g hg e
 ·rw [if_pos e0];exact fun z hz=>h2 z (YY hz (by decide))
 ·rw [if_pos e1];exact hb
theorem Zb.fin(h:Zb E base e X D a0 L y bO t cs s vs W)(h0: ∀q,q< 2↔q∈vs.map (·.1)): ∃a1,Acc E base e X W a1 (L++ [y])∧Bk W bO t (cs.setIfInBounds s a1)∧yQ a0.ownBlock (some bO) D W:=by
 obtain ⟨a1,h1,h2,h3,h4,_⟩:=h;rw [if_pos ((h0 0).1 (by decide))] at h1;rw [if_pos ((h0 1).1 (by decide))] at h3;exact ⟨a1,h1,h3,h4⟩
def Ef(n0:Nat)(t':TypeId)(c':Array Value)(hv: ∀g,a0.ownBlock=some g→g< n0)(hu:bO< n0):FR.Qv (MC E base e X D a0 L y bO t cs s):=⟨fun _ v w=> ∃b,v= .slice (some ⟨b,0,none⟩) 1 1∧n0≤b∧Bk w b t' c',fun ⟨b,h1,h2,h3⟩ hg=>⟨b,h1,h2,h3.grown hg (by simp)⟩,fun _ hr ⟨b,h1,h2,h3⟩=>by
 rcases hr with ⟨_,hg,_⟩|⟨_,hg⟩
 ·exact ⟨b,h1,h2,h3.grown hg (fun e=>by have:=hv b e.symm;omega)⟩
 ·exact ⟨b,h1,h2,h3.grown hg (fun e=>by injection e with e;omega)⟩⟩
end
structure TpP (pa:Option Addr) (g:Nat) (q:Int) (dr:Nat→Int) (TI:Nat→World→Prop) (bl:Nat→Prop) (most:Nat):Prop where
 own:bl g
 old: ∀{k w b},TI k w→bl b→b< w.heap.size
 val: ∀k,U64 (dr k)
 keep: ∀{k w w'} {row:Option Nat},TI k w→w.grownBy w' row→(∀b,row=some b→ ¬bl b)→TI k w'
 next: ∀{k w},k< most→TI k w→Calls prog 98 #[.pointer pa, .int .u64 q] w fun e w'=>e= .returned (.int .u64 (dr k))∧TI (k+1) w'∧w.grownBy w' (some g)
abbrev Tp(g:Nat):=TpP (some ⟨g,0,none⟩) g
def Qw(q s:Int):Nat→Int
 |0=>s
 |k+1=>VQ q (Qw q s k)
theorem Qu(q s:Int)(hs:U64 s): ∀k,U64 (Qw q s k)
 |0=>hs
 |k+1=>JO q _ (Qu q s hs k)
theorem Dr(g:Nat)(q s:Int)(hs:U64 s)(hq:U64 q):Tp g q (fun k=>JN q (Qw q s k)) (fun k w=>Bk w g 174 #[.int .u64 (Qw q s k), .slice none 0 0, .int .i64 k]) (fun b=>b=g) 1000000 where
 own:=rfl
 old:=fun h e=>by subst e;exact h.lt
 val:=fun k=>Pm q _ hq
 keep:=fun h hg hr=>h.grown hg (fun e=>hr g e.symm rfl)
 next:=fun {k w} hk h=>(Gj g none 0 (Qw q s k) k q w (Qu q s hs k) hq (by omega) (by omega) h).mono fun _ _ ⟨h1,h2,h3⟩=>⟨h1,by simpa [Qw] using h2,h3⟩
theorem Jd(s:Int)(w:World):
  Calls prog 44 #[.int .u64 s] w fun e w'=>e= .returned (.pointer (some ⟨w.heap.size,0,none⟩))∧w'=w.alloc (.cells #[.int .u64 s, .slice none 0 0, .int .i64 0] 174):=by
 go_enter func44,ntmps44;go_wp2_with fail;go_ret;exact ⟨rfl,rfl⟩
theorem VG(p:Par)(w:World):
  Calls prog 97 #[p.v] w fun e w'=>e= .returned (.int .i64 (zU p))∧w.grownBy w' none:=by
 go_enter func97,ntmps97;go_wp2;go_ret;exact ⟨rfl,gAl w _ none⟩
theorem Acc.made1(w:World)(e:TypeId){B:Nat}(hB:B≤w.heap.size)(X:Nat→Prop)(hX:X w.heap.size)(z:Int)(hz:U64 z):Acc ze B e X (w.alloc (.cells #[.int .u64 z] e)) (.slice (some ⟨w.heap.size,0,none⟩) 1 1) [z]:=
 ⟨fun g hg=>by simp [Value.ownBlock] at hg;subst hg;exact hX, [[.int .u64 z]],rfl,fun i hi hi'=>by
  obtain rfl:i=0:=by simp at hi;omega
  exact ⟨rfl,hz⟩,⟨by simp [ze], .inr ⟨w.heap.size,1, #[.int .u64 z],rfl,hB,heap_alloc_new w _,nRf _,by decide,rfl,by simp [ze]⟩⟩⟩
def Xf(x q:Int)(dr:Nat→Int)(n k:Nat):List Int:=x%q::(List.range n).map fun j=>dr (k+j)
theorem Im(x q:Int)(dr:Nat→Int)(n k:Nat):Xf x q dr (n+1) k=Xf x q dr n k++ [dr (k+n)]:=by
 simp [Xf,List.range_succ]
theorem xx(x q:Int)(dr:Nat→Int)(n k:Nat):(Xf x q dr n k).length=n+1:=by simp [Xf]
theorem Vr{pa:Option Addr}{g:Nat}{q:Int}{dr:Nat→Int}{TI:Nat→World→Prop}{bl:Nat→Prop}{a0:Nat}(hT:TpP pa g q dr TI bl a0)(x:Int)(n k:Nat)(w:World)(hx:U64 x)(hq:U64 q)(m0:0< q)(hn:n≤1000)(hk:k+n≤a0)(hI:TI k w):
  Calls prog 99 #[.int .u64 x, .int .i64 n, .int .u64 q, .func (.func 98) #[.pointer pa] #[]] w fun e w'=> ∃v,e= .returned v∧Sl ze (fun b=>w.heap.size≤b) w' v (Xf x q dr n k)∧TI (k+n) w'∧w.grownBy w' (some g):=by
 have HT:=za hT;obtain ⟨q0,q1⟩:=hq;obtain ⟨x0,x1⟩:=hx;have v0:(q==0)=false:=by simp;omega
 have l0: ¬q=0:=by omega
 have c0:Int.tmod x q=x%q:=Int.tmod_eq_emod_of_nonneg x0;obtain ⟨z,hz⟩:=exq (x%q);have HZ:Hid (U64 z):=za (by rw [hz];exact ⟨Int.emod_nonneg _ (by omega),Int.lt_trans (Int.emod_lt_of_pos _ m0) (by omega)⟩);have u0:IntKind.u64.wrap z=z:=IntWalk.u64_in _ (by have:=HZ.z;obtain ⟨a,b⟩:=this;omega);have s0:Hid (g< w.heap.size):=za (hT.old hI hT.own);obtain ⟨w1,b0⟩:=exq (w.alloc (Obj.cells #[.int .u64 z] 22));have k0:Hid (w.grownBy w1 none):=za (by rw [b0];exact gAl w _ none);have t0:Hid (Acc ze w.heap.size 22 (fun b=>w.heap.size≤b) w1 (.slice (some ⟨w.heap.size,0,none⟩) 1 1) (Xf x q dr 0 k)):=za (by
  rw [b0,show Xf x q dr 0 k= [z] by simp [Xf,hz]];exact Acc.made1 w _ (nRf _) _ (nRf _) z HZ.z)
 have r0:Hid (TI k w1):=za (hT.keep hI k0.z (by simp));have n0:Hid (∀b,bl b→b< w.heap.size):=za (fun b hb=>hT.old hI hb);have e1:x%q=z:=hz.symm;rw [e1] at c0;clear hT hI hz;go_enter func99,ntmps99;go_wp2_with fail;rw [←b0];clear b0;go_loopg [9,15] n (fun gk s9 s15 wx=> ∃j:Nat,j+gk=n∧s15= .int .i64 j∧Hid (Acc ze w.heap.size 22 (fun b=>w.heap.size≤b) wx s9 (Xf x q dr j k)∧TI (k+j) wx∧w.grownBy wx (some g)))
 case atStart=>exact ⟨0,by omega,rfl,za ⟨t0.z,r0.z,k0.z.but _⟩⟩
 case round=>
  obtain ⟨j,hj,rfl,HX⟩:=hrel;cases gk with
  |zero=>
   obtain rfl:j=n:=by omega
   have HR:Hid (Sl ze (fun b=>w.heap.size≤b) wr u9 (Xf x q dr j k)∧TI (k+j) wr∧w.grownBy wr (some g)):=za ⟨HX.z.1.sl,HX.z.2⟩;have y0: ¬((j:Int)< (j:Int)):=by omega
   clear HX;go_wp2;go_ret;exact ⟨_,rfl,HR.z⟩
  |succ m=>
   have z0:(j:Int)< (n:Int):=by omega
   have HC:=za (HT.z.next (by omega) HX.z.2.1);have HA:=za HX.z.1;have HG:=za HX.z.2.2;have HV:=za (HT.z.val (k+j));have i0:=za (Im x q dr j k);have o0:Hid (((Xf x q dr j k).length+1)*8≤140737488355328):=za (by rw [xx];omega);obtain ⟨y,hy⟩:=exq (dr (k+j));rw [←hy] at HC HV i0;clear HX hy;go_wp2_with fail;refine HC.z.mono ?_;rintro e w2 ⟨rfl,hi2,hg2⟩;have f0:=za (HA.z.keep hg2 (fun b hb e=>by injection e with e;have:=s0.z;omega));have p0:=za hi2;have j0:Hid (w.grownBy w2 (some g)):=za (HG.z.trans hg2);have g0:Hid (w.heap.size≤w2.heap.size):=za j0.z.size;clear hi2 hg2;go_wp2_with (at_builtin;refine zW rfl (.tmp 17) (.tmp 21) rfl (E:=ze) (y:=y) xD f0.z rfl rfl ⟨rfl,HV.z⟩ o0.z g0.z (fun _ h=>nLT g0.z h) ?_);intro v9 w3 ha hg hm;have d0:Hid (Acc ze w.heap.size 22 (fun b=>w.heap.size≤b) w3 v9 (Xf x q dr (j+1) k)∧TI (k+(j+1)) w3∧w.grownBy w3 (some g)):=za ⟨by rw [i0.z];exact ha,HT.z.keep p0.z hg (fun b e hb=>by have:=(f0.z.lt b e).1;have:=n0.z b hb;omega),j0.z.andThen hg (fun b e=> .inl (f0.z.lt b e).1)⟩;clear ha hg hm;go_wp2_with fail;go_roundg m
   case measure=>omega
   case rel=>exact ⟨j+1,by omega,by go_num,d0⟩
theorem Sl.piece{X:Nat→Prop}{w:World}{g o n c:Nat}{l:List Int}(h:Sl ze X w (.slice (some ⟨g,o,none⟩) n c) l)(a m:Nat)(hm:0< m)(ha:a+m≤l.length):Sl ze X w (.slice (some ⟨g,o+a,none⟩) m m) ((l.drop a).take m):=by
 obtain ⟨A,c',e,h1,h2,h3⟩:=h;injection e with e1 e2 e3
 subst e1 e3;have hl:((l.drop a).take m).length=m:=by simp;omega
 obtain ⟨g',o',eA,lt,hX,hi⟩:=h3 (by intro e;rw [e] at ha;simp at ha;omega);injection eA with eA
 injection eA with eA1 eA2 _
 subst eA1 eA2;refine ⟨_,m,by rw [hl],by rw [hl];exact nRf _,by omega,fun _=>⟨g,o+a,rfl,lt,hX,fun i hi'=> ?_⟩⟩;have hi2:i< m:=by rw [hl] at hi';exact hi'
 obtain ⟨cs,hr,hc⟩:=hi (a+i) (by omega);refine ⟨cs, ?_,fun j u hu=> ?_⟩
 ·have e:((l.drop a).take m)[i]=l[a+i]:=by simp
  rw [e];exact hr
 ·have:=hc j u hu
  rw [show o+a+i*ze.size+j=o+(a+i)*ze.size+j by show o+a+i*1+j=o+(a+i)*1+j;omega];exact this
def xS(gb ob t j:Nat):List Value:=(List.range t).map fun i=>if i< j then .slice (some ⟨gb,ob+i*t,none⟩) t t else .slice none 0 0
theorem TU(gb ob t j:Nat):(xS gb ob t j).set j (.slice (some ⟨gb,ob+j*t,none⟩) t t)=xS gb ob t (j+1):=by
 refine List.ext_getElem (by simp [xS]) fun k h1 h2=> ?_
 rw [List.getElem_set];simp only [xS,List.getElem_map,List.getElem_range];split
 ·rename_i e;subst e;rw [if_pos (by omega)]
 ·rename_i e;by_cases h:k< j
  ·rw [if_pos h,if_pos (by omega)]
  ·rw [if_neg h,if_neg (by omega)]
theorem QF{X:Nat→Prop}{w:World}{gb ob n c t Bo:Nat}{l:List Int}(h:Sl ze X w (.slice (some ⟨gb,ob,none⟩) n c) l)(ht:0< t)(ht2:t≤100)(hl:l.length=t*t)(hb:Bk w Bo 31 (xS gb ob t t).toArray)(hX:X Bo):Sl (zh ze) X w (.slice (some ⟨Bo,0,none⟩) t t) (chk t l t):=by
 have hlen:(chk t l t).length=t:=zI _ _ _
 have:=Sl.block (E:=zh ze) (X:=X) (xs:=chk t l t) (c:=t) hb hX ((xS gb ob t t).map fun v=> [v]) (by simp [xS,hlen]) (fun i hi hi'=>by
  have hit:i< t:=by rw [hlen] at hi;exact hi
  have ha:i*t+t≤l.length:=by
   rw [hl]
   have:=Nat.mul_le_mul_right t (show i+1≤t from hit)
   rw [Nat.add_mul,Nat.one_mul] at this;exact this
  have e1:(chk t l t)[i]=(l.drop (i*t)).take t:=by simp [chk]
  have e2:((xS gb ob t t).map fun v=> [v])[i]= [.slice (some ⟨gb,ob+i*t,none⟩) t t]:=by simp [xS,hit]
  rw [e1,e2];exact ⟨_,rfl,h.piece (i*t) t ht ha⟩) (by rw [zZ]) (by rw [hlen];exact nRf _) (by omega)
 rwa [hlen] at this
theorem IZ{pa:Option Addr}{g:Nat}{dr:Nat→Int}{TI:Nat→World→Prop}{bl:Nat→Prop}{a0:Nat}(p:Par)(hT:TpP pa g p.Q dr TI bl a0)(x:Int)(k:Nat)(w:World)(hx:U64 x)(hq:U64 p.Q)(r0:0< p.Q)(ht:p.T=1)(hk:k+3≤a0)(hI:TI k w):
  Calls prog 101 #[p.v, .int .u64 x, .func (.func 98) #[.pointer pa] #[]] w fun e w'=> ∃v,e= .returned v∧Sl (zh ze) (fun b=>w.heap.size≤b) w' v (chk 2 (Xf x p.Q dr 3 k) 2)∧TI (k+3) w'∧w.grownBy w' (some g):=by
 obtain ⟨w0,d0⟩:=exq (w.alloc (Obj.cells p.cells 39));have j0:Hid (w.grownBy w0 none):=za (by rw [d0];exact gAl w _ none);have t0:Hid (Bk w0 w.heap.size 39 p.cells):=za (by rw [d0];exact Bk.new w _ _);have B0:Hid (TI k w0):=za (hT.keep hI j0.z (by simp));have H0:=za (Vr hT x 3 k w0 hx hq r0 (by decide) hk B0.z);have I0:=t0.z.prule;have HT:=za hT;have z0:Hid (∀b,bl b→b< w.heap.size):=za (fun b hb=>hT.old hI hb);have C0:Hid (g< w.heap.size):=za (hT.old hI hT.own);clear hT hI hx hq r0;go_enter func101,ntmps101;go_wp2_with fail;rw [←d0];clear d0;go_wp2_with fail;refine H0.z.mono ?_;rintro e w1 ⟨v8,rfl,hs1,hi1,hg1⟩;obtain ⟨A8,c8,e8,n0,m0⟩:=hs1.form;rw [xx] at e8 n0;obtain ⟨gb,ob,c8',e8',s0,b0,_,_⟩:=hs1.atU (k:=0) (by rw [xx];decide);rw [e8] at e8';injection e8' with e81 e82 e83
 subst e81;have e8:v8= .slice (some ⟨gb,ob,none⟩) 4 c8:=e8;have n0:4≤c8:=n0;subst e8;have y0:=za hs1;have A0:=za hi1;have F0:Hid (w.grownBy w1 (some g)):=za ((j0.z.but _).trans hg1);have q0:Hid (w.heap.size≤gb∧gb< w1.heap.size):=za ⟨nLT j0.z.size b0,s0⟩;have l0:=run_make_row' (P:=prog) 43 31 (.slice none 0 0) 24 Tryz.underlying43 XE rfl .i64 .i64 2 (by decide) (by decide) w1;have l0:(Instr.makeSlice 43 (.int .i64 2) (.int .i64 2)).run prog w1= .ok (.slice (some ⟨w1.heap.size,0,none⟩) 2 2) (w1.alloc (.cells (madeCells #[.slice none 0 0] 2) 31)):=l0;obtain ⟨D0,g0⟩:=exq (w1.alloc (.cells (madeCells #[.slice none 0 0] 2) 31));obtain ⟨Bo,i0⟩:=exq (w1.heap.size);have o0:Hid (w1.grownBy D0 none):=za (by rw [g0];exact gAl _ _ none);have G0:Hid (Bk D0 Bo 31 (xS gb ob 2 0).toArray):=za (by
  rw [g0,i0];exact (Bk.new w1 31 (madeCells #[.slice none 0 0] 2)).of_eq (Array.toList_inj.1 (by rw [toList_madeCells_one];rfl)))
 have k0:Hid (Bo=w1.heap.size):=za i0;have u0: ∀o,w1.cell? ⟨w.heap.size,o,none⟩=(#[.int .u64 p.P, .int .u64 p.Q, .int .u64 p.G, .int .u64 p.H, .int .i64 p.Nodes, .int .i64 p.N, .int .i64 p.T, .int .i64 p.K, .int .i64 p.D, .int .i64 p.R, .int .i64 p.M, .int .i64 p.X]:Array Value)[o]? :=(t0.z.grown hg1 (fun e=>by injection e with e;have:=C0.z;omega)).prule;clear hs1 hi1 hg1 s0 b0 e82 e83 m0;go_upto_region 5 with (fail)
 rw [←g0, ←i0];clear g0 i0 l0 u0;go_loopg [27] 2 (fun gk s27 wx=> ∃j:Nat,j+gk=2∧s27= .int .i64 j∧Hid (Bk wx Bo 31 (xS gb ob 2 j).toArray∧D0.grownBy wx (some Bo)))
 case atStart=>exact ⟨0,by omega,rfl,za ⟨G0.z,gRr _ _⟩⟩
 case round=>
  obtain ⟨j,hj,rfl,HX⟩:=hrel;cases gk with
  |zero=>
   obtain rfl:j=2:=by omega
   have J0: ¬((2:Int)< 2):=by omega
   have HR:Hid (Sl (zh ze) (fun b=>w.heap.size≤b) wr (.slice (some ⟨Bo,0,none⟩) 2 2) (chk 2 (Xf x p.Q dr 3 k) 2)∧TI (k+3) wr∧w.grownBy wr (some g)):=za (by
    have hs:=((y0.z.bounded.kept o0.z).keep HX.z.2 (fun b hb e=>by injection e with e;have:=k0.z;have:=hb.2;omega)).more (Y:=fun b=>w.heap.size≤b) fun b _ hb=>nLT j0.z.size hb.1
    refine ⟨QF hs (by decide) (by decide) (by rw [xx]) HX.z.1 (by have:=q0.z;have:=k0.z;omega),HT.z.keep (HT.z.keep A0.z o0.z (by simp)) HX.z.2 (fun b e hb=>by injection e with e;have:=z0.z b hb;have:=q0.z;have:=k0.z;omega),(F0.z.trans (o0.z.but _)).andThen HX.z.2 (fun b e=> .inl (by injection e with e;have:=q0.z;have:=k0.z;omega))⟩)
   clear HX;go_wp2;go_ret;exact ⟨_,rfl,HR.z⟩
  |succ m=>
   have v0:j< 2:=by omega
   have K0:(j:Int)< 2:=by omega
   have L0:(0:Int)≤(j:Int):=iNn j;have hb:=HX.z.1;have c0:wr.cell? ⟨Bo,j,none⟩=some (.slice none 0 0):=by rw [hb.cell j];simp [xS,v0]
   have f0:=hb.free;have p0:Hid (Bk (wr.setCell ⟨Bo,j,none⟩ (.slice (some ⟨gb,ob+j*2,none⟩) ((j+1)*2 - j*2) ((j+1)*2 - j*2))) Bo 31 (xS gb ob 2 (j+1)).toArray∧D0.grownBy (wr.setCell ⟨Bo,j,none⟩ (.slice (some ⟨gb,ob+j*2,none⟩) ((j+1)*2 - j*2) ((j+1)*2 - j*2))) (some Bo)):=za ⟨(hb.set j _).of_eq (by
    rw [show (j+1)*2 - j*2=2 by omega, ←TU];simp),HX.z.2.trans (zo wr Bo _ _)⟩
   clear hb;go_wp2_with fail;go_roundg m
   case measure=>omega
   case rel=>exact ⟨j+1,by omega,by go_num,p0⟩
theorem IY{pa:Option Addr}{g:Nat}{dr:Nat→Int}{TI:Nat→World→Prop}{bl:Nat→Prop}{a0:Nat}(p:Par)(hT:TpP pa g p.Q dr TI bl a0)(x:Int)(k:Nat)(w:World)(hx:U64 x)(hq:U64 p.Q)(r0:0< p.Q)(ht:p.T=2)(hk:k+8≤a0)(hI:TI k w):
  Calls prog 101 #[p.v, .int .u64 x, .func (.func 98) #[.pointer pa] #[]] w fun e w'=> ∃v,e= .returned v∧Sl (zh ze) (fun b=>w.heap.size≤b) w' v (chk 3 (Xf x p.Q dr 8 k) 3)∧TI (k+8) w'∧w.grownBy w' (some g):=by
 obtain ⟨w0,d0⟩:=exq (w.alloc (Obj.cells p.cells 39));have j0:Hid (w.grownBy w0 none):=za (by rw [d0];exact gAl w _ none);have t0:Hid (Bk w0 w.heap.size 39 p.cells):=za (by rw [d0];exact Bk.new w _ _);have B0:Hid (TI k w0):=za (hT.keep hI j0.z (by simp));have H0:=za (Vr hT x 8 k w0 hx hq r0 (by decide) hk B0.z);have I0:=t0.z.prule;have HT:=za hT;have z0:Hid (∀b,bl b→b< w.heap.size):=za (fun b hb=>hT.old hI hb);have C0:Hid (g< w.heap.size):=za (hT.old hI hT.own);clear hT hI hx hq r0;go_enter func101,ntmps101;go_wp2_with fail;rw [←d0];clear d0;go_wp2_with fail;refine H0.z.mono ?_;rintro e w1 ⟨v8,rfl,hs1,hi1,hg1⟩;obtain ⟨A8,c8,e8,n0,m0⟩:=hs1.form;rw [xx] at e8 n0;obtain ⟨gb,ob,c8',e8',s0,b0,_,_⟩:=hs1.atU (k:=0) (by rw [xx];decide);rw [e8] at e8';injection e8' with e81 e82 e83
 subst e81;have e8:v8= .slice (some ⟨gb,ob,none⟩) 9 c8:=e8;have n0:9≤c8:=n0;subst e8;have y0:=za hs1;have A0:=za hi1;have F0:Hid (w.grownBy w1 (some g)):=za ((j0.z.but _).trans hg1);have q0:Hid (w.heap.size≤gb∧gb< w1.heap.size):=za ⟨nLT j0.z.size b0,s0⟩;have l0:=run_make_row' (P:=prog) 43 31 (.slice none 0 0) 24 Tryz.underlying43 XE rfl .i64 .i64 3 (by decide) (by decide) w1;have l0:(Instr.makeSlice 43 (.int .i64 3) (.int .i64 3)).run prog w1= .ok (.slice (some ⟨w1.heap.size,0,none⟩) 3 3) (w1.alloc (.cells (madeCells #[.slice none 0 0] 3) 31)):=l0;obtain ⟨D0,g0⟩:=exq (w1.alloc (.cells (madeCells #[.slice none 0 0] 3) 31));obtain ⟨Bo,i0⟩:=exq (w1.heap.size);have o0:Hid (w1.grownBy D0 none):=za (by rw [g0];exact gAl _ _ none);have G0:Hid (Bk D0 Bo 31 (xS gb ob 3 0).toArray):=za (by
  rw [g0,i0];exact (Bk.new w1 31 (madeCells #[.slice none 0 0] 3)).of_eq (Array.toList_inj.1 (by rw [toList_madeCells_one];rfl)))
 have k0:Hid (Bo=w1.heap.size):=za i0;have u0: ∀o,w1.cell? ⟨w.heap.size,o,none⟩=(#[.int .u64 p.P, .int .u64 p.Q, .int .u64 p.G, .int .u64 p.H, .int .i64 p.Nodes, .int .i64 p.N, .int .i64 p.T, .int .i64 p.K, .int .i64 p.D, .int .i64 p.R, .int .i64 p.M, .int .i64 p.X]:Array Value)[o]? :=(t0.z.grown hg1 (fun e=>by injection e with e;have:=C0.z;omega)).prule;clear hs1 hi1 hg1 s0 b0 e82 e83 m0;go_upto_region 5 with (fail)
 rw [←g0, ←i0];clear g0 i0 l0 u0;go_loopg [27] 3 (fun gk s27 wx=> ∃j:Nat,j+gk=3∧s27= .int .i64 j∧Hid (Bk wx Bo 31 (xS gb ob 3 j).toArray∧D0.grownBy wx (some Bo)))
 case atStart=>exact ⟨0,by omega,rfl,za ⟨G0.z,gRr _ _⟩⟩
 case round=>
  obtain ⟨j,hj,rfl,HX⟩:=hrel;cases gk with
  |zero=>
   obtain rfl:j=3:=by omega
   have J0: ¬((3:Int)< 3):=by omega
   have HR:Hid (Sl (zh ze) (fun b=>w.heap.size≤b) wr (.slice (some ⟨Bo,0,none⟩) 3 3) (chk 3 (Xf x p.Q dr 8 k) 3)∧TI (k+8) wr∧w.grownBy wr (some g)):=za (by
    have hs:=((y0.z.bounded.kept o0.z).keep HX.z.2 (fun b hb e=>by injection e with e;have:=k0.z;have:=hb.2;omega)).more (Y:=fun b=>w.heap.size≤b) fun b _ hb=>nLT j0.z.size hb.1
    refine ⟨QF hs (by decide) (by decide) (by rw [xx]) HX.z.1 (by have:=q0.z;have:=k0.z;omega),HT.z.keep (HT.z.keep A0.z o0.z (by simp)) HX.z.2 (fun b e hb=>by injection e with e;have:=z0.z b hb;have:=q0.z;have:=k0.z;omega),(F0.z.trans (o0.z.but _)).andThen HX.z.2 (fun b e=> .inl (by injection e with e;have:=q0.z;have:=k0.z;omega))⟩)
   clear HX;go_wp2;go_ret;exact ⟨_,rfl,HR.z⟩
  |succ m=>
   have v0:j< 3:=by omega
   have K0:(j:Int)< 3:=by omega
   have L0:(0:Int)≤(j:Int):=iNn j;have hb:=HX.z.1;have c0:wr.cell? ⟨Bo,j,none⟩=some (.slice none 0 0):=by rw [hb.cell j];simp [xS,v0]
   have f0:=hb.free;have p0:Hid (Bk (wr.setCell ⟨Bo,j,none⟩ (.slice (some ⟨gb,ob+j*3,none⟩) ((j+1)*3 - j*3) ((j+1)*3 - j*3))) Bo 31 (xS gb ob 3 (j+1)).toArray∧D0.grownBy (wr.setCell ⟨Bo,j,none⟩ (.slice (some ⟨gb,ob+j*3,none⟩) ((j+1)*3 - j*3) ((j+1)*3 - j*3))) (some Bo)):=za ⟨(hb.set j _).of_eq (by
    rw [show (j+1)*3 - j*3=3 by omega, ←TU];simp),HX.z.2.trans (zo wr Bo _ _)⟩
   clear hb;go_wp2_with fail;go_roundg m
   case measure=>omega
   case rel=>exact ⟨j+1,by omega,by go_num,p0⟩
def LS(a b:List Int)(n:Nat):List (Int×Int):=(List.range n).map fun k=>(a[k]?.getD 0,b[k]?.getD 0)
def Ra(a b:List Int)(n j:Nat):List (Int×Int):=(List.range n).map fun k=>if k< j then (a[k]?.getD 0,b[k]?.getD 0) else (0,0)
theorem TZ(a b:List Int)(n j:Nat):(Ra a b n j).length=n:=by simp [Ra]
theorem LU(a b:List Int)(n:Nat):Ra a b n 0=List.replicate n (0,0):=by
 refine List.ext_getElem (by simp [Ra]) fun j h1 h2=> ?_
 simp [Ra]
theorem IQ(a b:List Int)(n:Nat):Ra a b n n=LS a b n:=List.map_congr_left fun _ hk=>if_pos (List.mem_range.1 hk)
theorem IP(a b:List Int)(n j:Nat):(Ra a b n j).set j (a[j]?.getD 0,b[j]?.getD 0)=Ra a b n (j+1):=by
 refine List.ext_getElem (by simp [Ra]) fun k h1 h2=> ?_
 rw [List.getElem_set];simp only [Ra,List.getElem_map,List.getElem_range];split
 ·rename_i e;subst e;rw [if_pos (by omega)]
 ·rename_i e;by_cases h:k< j
  ·rw [if_pos h,if_pos (by omega)]
  ·rw [if_neg h,if_neg (by omega)]
theorem UN(v1 v2:Value)(a b:List Int)(n:Nat)(X Y:Nat→Prop)(w:World)(h1:Sl ze X w v1 a)(h2:Sl ze Y w v2 b)(ha:a.length=n)(hb:b.length=n)(hn:n≤1000):
  Calls prog 103 #[v1,v2] w (zN zq (fun g=>w.heap.size≤g) w (LS a b n)):=by
 have H1:=za h1.bounded;have H2:=za h2.bounded;obtain ⟨A1,c1,rfl,_,_⟩:=h1.form;obtain ⟨A2,c2,rfl,_,_⟩:=h2.form;have HA:=za ha;have HB:=za hb;rw [ha] at H1 ⊢;rw [hb] at H2 ⊢;have C0:=MM n (by omega) w;obtain ⟨D0,f0⟩:=exq (w.alloc (.cells (madeCells #[.int .u64 0, .int .u64 0] (n*2)) 153));obtain ⟨Bo,a0⟩:=exq (w.heap.size);have p0:Hid (w.grownBy D0 none):=za (by rw [f0];exact gAl _ _ none);have N0:Hid (Bk D0 Bo 153 (pcs (Ra a b n 0)).toArray):=za (by
  rw [f0,a0,LU, ←MP];exact Bk.new w _ _)
 have K0:Hid (∀wx,D0.grownBy wx (some Bo)→Sl ze (fun g=>g< Bo) wx (.slice A1 n c1) a):=za (fun wx hg=>((H1.z.kept p0.z).more (Y:=fun g=>g< Bo) fun g _ hx=>by rw [a0];exact hx.2).keep hg (fun g hx e=>by injection e with e;omega));have J0:Hid (∀wx,D0.grownBy wx (some Bo)→Sl ze (fun g=>g< Bo) wx (.slice A2 n c2) b):=za (fun wx hg=>((H2.z.kept p0.z).more (Y:=fun g=>g< Bo) fun g _ hx=>by rw [a0];exact hx.2).keep hg (fun g hx e=>by injection e with e;omega));have L0:Hid (∀k,U64 (a[k]?.getD 0)∧U64 (b[k]?.getD 0)):=za (fun k=>by
  have t0: ∀(l:List Int) (Z:Nat→Prop) (v:Value),Sl ze Z w v l→U64 (l[k]?.getD 0):=fun l Z v h=>by
   rcases Nat.lt_or_ge k l.length with hk|hk
   ·obtain ⟨_,_,_,_,_,_,_,u⟩:=h.atU hk;rw [List.getElem?_eq_getElem hk];exact u
   ·rw [List.getElem?_eq_none hk];exact ⟨by decide,by decide⟩
  exact ⟨t0 a X _ h1,t0 b Y _ h2⟩)
 have B0:Hid (Bo=w.heap.size):=za a0;clear h1 h2 ha hb;go_enter func103,ntmps103;go_upto_region 3 with (fail)
 rw [←f0, ←a0];clear f0 a0 C0;go_loopg [12] n (fun g s12 wx=> ∃j:Nat,j+g=n∧s12= .int .i64 j∧Hid (Bk wx Bo 153 (pcs (Ra a b n j)).toArray∧D0.grownBy wx (some Bo)))
 case atStart=>exact ⟨0,by omega,rfl,za ⟨N0.z,gRr _ _⟩⟩
 case round=>
  obtain ⟨j,hj,rfl,HX⟩:=hrel;cases gk with
  |zero=>
   obtain rfl:j=n:=by omega
   have P0: ¬((j:Int)< (j:Int)):=by omega
   have HR:Hid (Sl zq (fun g=>w.heap.size≤g) wr (.slice (some ⟨Bo,0,none⟩) j j) (LS a b j)∧w.grownBy wr none):=za ⟨by
    have y0:=FU (X:=fun g=>w.heap.size≤g) HX.z.1 (by rw [B0.z];exact nRf _) (fun x hx=>by
     obtain ⟨k,_,rfl⟩:=List.mem_map.1 hx;split
     ·exact L0.z k
     ·exact ⟨⟨by decide,by decide⟩,⟨by decide,by decide⟩⟩) (by rw [TZ];omega)
    rw [TZ,IQ] at y0;exact y0,zP p0.z HX.z.2 (fun g e=>by injection e with e;rw [←e,B0.z];exact nRf _)⟩
   clear HX;go_wp2;go_ret;exact ⟨_,rfl,HR.z.1,HR.z.2⟩
  |succ m=>
   have Q0:(j:Int)< (n:Int):=by omega
   have l0:j< a.length:=by rw [HA.z];omega
   have k0:j< b.length:=by rw [HB.z];omega
   have R0:(0:Int)≤(j:Int):=iNn j;obtain ⟨z0,c0⟩:=HX.z;obtain ⟨g1,o1,c1',e1,G0,I0,n0,v0⟩:=(K0.z _ c0).atU l0;injection e1 with e11 e12 e13
   subst e11 e13;obtain ⟨g2,o2,c2',e2,F0,H0,m0,u0⟩:=(J0.z _ c0).atU k0;injection e2 with e21 e22 e23
   subst e21 e23;have g0:Hid (j< (Ra a b n j).length):=za (by rw [TZ];omega);have s0:Hid (((pcs (Ra a b n j)).set (j*2) (.int .u64 a[j])).set (j*2+1) (.int .u64 b[j])=pcs (Ra a b n (j+1))):=za (by
    have hs:=IP a b n j;rw [List.getElem?_eq_getElem l0,List.getElem?_eq_getElem k0,Option.getD_some,Option.getD_some] at hs;rw [NE _ _ j g0.z,ND _ _ j (by simpa using g0.z),List.set_set, ←hs];simp)
   obtain ⟨x,hx⟩:=exq (a[j]);obtain ⟨y,hy⟩:=exq (b[j]);rw [←hx] at n0 v0 s0;rw [←hy] at m0 u0 s0;have i0:Hid (wr.grownBy wr.drew none):=za (zb _ 1);have o0:Hid (∀W,wr.drew.grownBy W none→W.cell? ⟨g1,o1+j,none⟩=some (.int .u64 x)∧W.cell? ⟨g2,o2+j,none⟩=some (.int .u64 y)):=za (fun W hg=>⟨cell_kept n0 (i0.z.trans hg) (by simp),cell_kept m0 (i0.z.trans hg) (by simp)⟩);have O0:=za z0;have M0:=za c0;obtain ⟨p1,p2,A0⟩: ∃p1 p2:Int,Hid ((pcs (Ra a b n j)).toArray[j*2]? =some (.int .u64 p1)∧(pcs (Ra a b n j)).toArray[j*2+1]? =some (.int .u64 p2)):=⟨_,_,za ⟨by simpa using NG _ j g0.z,by simpa using NF _ j g0.z⟩⟩;clear z0 c0 n0 m0 G0 F0 I0 H0 v0 u0 hx hy l0 k0 e12 e22 HX;go_upto_region 5 with (fail)
   refine ZF 12 ?_;refine mP0 (.slice (some ⟨Bo,0,none⟩) n n) ?_;refine mP0 (.int .i64 (j:Int)) ?_;refine mP0 (.slice (some ⟨g1,o1,none⟩) n c1) ?_;refine mP0 (.int .i64 (j:Int)) ?_;refine zm.step (Pv.eq (.pointer (some ⟨g1,o1+j,none⟩))) [(2,17),(3,18)] (by kernel_rfl) (fun w' hw'=> ?_) ?_
   ·rintro _ rfl;rintro _ rfl;refine zr rfl fun K hK=> ?_
    go_simp;exact hK _ _ rfl rfl gRf
   refine zm.step (Pv.eq (.int .u64 x)) [(4,19)] (by kernel_rfl) (fun w' hw'=> ?_) ?_
   ·rintro _ rfl;refine zr rfl fun K hK=> ?_
    obtain ⟨q0,q1⟩:=o0.z w' hw';go_simp;exact hK _ _ rfl rfl gRf
   refine mP0 (.slice (some ⟨g2,o2,none⟩) n c2) ?_;refine mP0 (.int .i64 (j:Int)) ?_;refine zm.step (Pv.eq (.pointer (some ⟨g2,o2+j,none⟩))) [(6,21),(7,22)] (by kernel_rfl) (fun w' hw'=> ?_) ?_
   ·rintro _ rfl;rintro _ rfl;refine zr rfl fun K hK=> ?_
    go_simp;exact hK _ _ rfl rfl gRf
   refine zm.step (Pv.eq (.int .u64 y)) [(8,23)] (by kernel_rfl) (fun w' hw'=> ?_) ?_
   ·rintro _ rfl;refine zr rfl fun K hK=> ?_
    obtain ⟨q0,q1⟩:=o0.z w' hw';go_simp;exact hK _ _ rfl rfl gRf
   refine zm.step (Pv.eq (.agg #[.int .u64 x, .int .u64 y])) [(5,20),(9,24)] (by kernel_rfl) (fun w' hw'=> ?_) ?_
   ·rintro _ rfl;rintro _ rfl;refine zr rfl fun K hK=> ?_
    go_simp;exact hK _ _ rfl rfl gRf
   refine zm.step (Pv.eq (.pointer (some ⟨Bo,j*2,none⟩))) [(0,15),(1,16)] (by kernel_rfl) (fun w' hw'=> ?_) ?_
   ·rintro _ rfl;rintro _ rfl;refine zr rfl fun K hK=> ?_
    go_simp;exact hK _ _ rfl rfl gRf
   intro w3 j0
   iterate 10 (refine pD ?_;intro _)
   intro y10 k10 y11 k11;show wpList prog _ _ _ _ w3;simp only [Act.put,sAa,sAb,sAc];have e10:y10= .agg #[.int .u64 x, .int .u64 y]:=k10;have e11:y11= .pointer (some ⟨Bo,j*2,none⟩):=k11;subst e10 e11;have b0:Bk w3 Bo 153 (pcs (Ra a b n j)).toArray:=O0.z.grown (i0.z.trans j0) (by simp);have d0:w3.cell? ⟨Bo,j*2,none⟩=some (.int .u64 p1):=by rw [b0.cell];exact A0.z.1
   have d1:w3.cell? ⟨Bo,j*2+1,none⟩=some (.int .u64 p2):=by rw [b0.cell];exact A0.z.2
   have f3:=b0.free;have r0:Hid (Bk ((w3.setCell ⟨Bo,j*2,none⟩ (.int .u64 x)).setCell ⟨Bo,j*2+1,none⟩ (.int .u64 y)) Bo 153 (pcs (Ra a b n (j+1))).toArray∧D0.grownBy ((w3.setCell ⟨Bo,j*2,none⟩ (.int .u64 x)).setCell ⟨Bo,j*2+1,none⟩ (.int .u64 y)) (some Bo)):=za ⟨((b0.set (j*2) (.int .u64 x)).set (j*2+1) (.int .u64 y)).of_eq (by rw [←s0.z];simp),(M0.z.trans ((i0.z.trans j0).but _)).trans ((zo w3 Bo _ _).trans (zo _ Bo _ _))⟩;clear j0 b0 k10 k11 o0;go_wp2_with fail;go_roundg m
   case measure=>omega
   case rel=>exact ⟨j+1,by omega,by go_num,r0⟩
def pg(Q i:Int):List Int→Int→Int
 | [],_=>1
 |y::l,e=>y ^ e.toNat*pg Q i l (zR e i Q)
theorem Iw{p:Par}(hm:zO p.P=true)(i:Int): ∀(l:List Int) (x e:Int),Cg p.P (Mg p i l x e) (x*pg p.Q i l e)
 | [],x,e=>Cg.of_eq (by simp [Mg,pg])
 |y::l,x,e=>by
  show Cg p.P (Mg p i l (yh p.P [x,YW y e p.P]) (zR e i p.Q)) _;refine (Iw hm i l _ _).trans ?_;refine (((Ql _ _ _ hm).trans (Cg.mul_left (Oz _ _ _ hm) x)).mul_right _).trans (Cg.of_eq ?_);simp only [pg,Int.mul_assoc]
theorem Md{p:Par}(hm:zO p.P=true)(l:List Int)(i:Int):Cg p.P (atI p l i) (pg p.Q i l (zR 1 1 p.Q)):=by
 refine (Iw hm i l _ _).trans ?_;rw [Ys _ hm];exact ((Cg.mod _ _).mul_right _).trans (Cg.of_eq (Int.one_mul _))
theorem Me{p:Par}(hm:zO p.P=true)(i:Int): ∀(l:List Int) (x e:Int),x%p.P=x→Mg p i l x e%p.P=Mg p i l x e
 | [],_,_,h=>h
 |y::l,x,e,_=>by
  refine Me hm i l _ _ ?_;rw [Zy _ _ _ hm];exact Int.emod_emod_of_dvd _ (Int.dvd_refl _)
theorem It{p:Par}(hm:zO p.P=true)(l:List Int)(i:Int):atI p l i%p.P=atI p l i:=Me hm i l _ _ (by rw [Ys _ hm];exact Int.emod_emod_of_dvd _ (Int.dvd_refl _))
theorem Iu{p:Par}(hm:zO p.P=true){l l':List Int}{i i':Int}(h:Cg p.P (atI p l i) (atI p l' i')):atI p l i=atI p l' i':=by
 rw [←It hm l i, ←It hm l' i'];exact h
def CgL(m:Int):List Int→List Int→Prop
 | [], []=>True
 |a::l,b::k=>Cg m a b∧CgL m l k
 |_,_=>False
theorem CgL.map{α:Type}{m:Int}{f g:α→Int}: ∀(l:List α),(∀x∈l,Cg m (f x) (g x))→CgL m (l.map f) (l.map g)
 | [],_=>trivial
 |x::l,h=>⟨h x (by simp),CgL.map l fun y hy=>h y (by simp [hy])⟩
theorem Ej{m Q i:Int}: ∀{l k:List Int} (e:Int),CgL m l k→Cg m (pg Q i l e) (pg Q i k e)
 | [], [],_,_=>Cg.refl _ _
 |_::_,_::_,_,⟨h1,h2⟩=>(h1.pow _).mul (Ej _ h2)
theorem Fo{α:Type}{Q i:Int}(f g:α→Int): ∀(l:List α) (e:Int),pg Q i (l.map fun x=>f x*g x) e=pg Q i (l.map f) e*pg Q i (l.map g) e
 | [],_=>by simp [pg]
 |x::l,e=>by
  simp only [List.map_cons,pg,Fo f g l,Int.mul_pow];exact Ap _ _ _ _
theorem Fn{α:Type}{Q i:Int}(f:α→Int)(k:Nat): ∀(l:List α) (e:Int),pg Q i (l.map fun x=>f x ^ k) e=pg Q i (l.map f) e ^ k
 | [],_=>by simp [pg,Int.one_pow]
 |x::l,e=>by
  simp only [List.map_cons,pg,Fn f k l,Int.mul_pow];rw [←Int.pow_mul, ←Int.pow_mul,Nat.mul_comm]
theorem KO{α:Type}{Q i:Int}: ∀(l:List α) (e:Int),pg Q i (l.map fun _=>1) e=1
 | [],_=>rfl
 |x::l,e=>by simp [pg,KO l,Int.one_pow]
theorem Gl{l:List Int}{n:Nat}(h:l.length=n)(d:Int):(List.range n).map (fun j=>l[j]?.getD d)=l:=by
 subst h;refine List.ext_getElem (by simp) fun i h1 h2=> ?_
 have h2:i< l.length:=h2;simp [List.getElem?_eq_getElem h2]
theorem QG{p:Par}{x y:Int}{n:Nat}: ∀(M:List (List Int)) (e f:Int),(∀r∈M,r.length=n)→
  pg p.Q y ((List.range n).map fun j=>pg p.Q x (US p M j) e) f=pg p.Q x (M.map fun r=>pg p.Q y r f) e
 | [],e,f,_=>KO _ _
 |r::M,e,f,h=>by
  have h1: ∀j,pg p.Q x (US p (r::M) j) e=(r[j]?.getD (yh p.P [])) ^ e.toNat*pg p.Q x (US p M j) (zR e x p.Q):=fun j=>rfl
  simp only [h1];rw [Fo,Fn,Gl (h r (by simp)),QG M _ _ fun r hr=>h r (by simp [hr])];rfl
theorem Oh{n:Nat}: ∀(M:List (List Int)) (k:Nat),(∀r∈M,r.length=n)→k≤n→M≠ []→M.foldl (fun k c=>max k c.length) k=n
 | [],_,_,_,h=>absurd rfl h
 | [r],k,h,hk,_=>by
  have:=h r (by simp)
  show max k r.length=n;omega
 |r::s::M,k,h,hk,_=>by
  refine Oh (s::M) _ (fun r hr=>h r (by simp [hr])) ?_ (by simp)
  have:=h r (by simp)
  show max k r.length≤n;omega
theorem Lk{p:Par}(hm:zO p.P=true)(M:List (List Int))(n:Nat)(h: ∀r∈M,r.length=n)(hn:M≠ [])(x y:Int):atI p (zC p (yj p M) x) y=atI p (zC p M y) x:=by
 have hw:yH M=n:=Oh M 0 h (Nat.zero_le _) hn;refine Iu hm ((Md hm _ _).trans (Cg.trans ?_ (Md hm _ _).symm));have e1:zC p (yj p M) x=(List.range n).map fun j=>atI p (US p M j) x:=by simp [zC,yj,hw,Function.comp_def]
 rw [e1];refine (Ej _ (CgL.map (g:=fun j=>pg p.Q x (US p M j) (zR 1 1 p.Q)) _ fun j _=>Md hm _ _)).trans ?_;rw [QG M _ _ h];exact (Ej _ (CgL.map M fun r _=>Md hm r y)).symm
theorem TN{p:Par}(hm:zO p.P=true)(m:List (List (List Int)))(n:Nat)(h: ∀M∈m,M≠ []∧ ∀r∈M,r.length=n)(x y:Int):zC p (zD p m x) y=zC p (yq p m y) x:=by
 simp only [zC,zD,yq,List.map_map];refine List.map_congr_left fun M hM=> ?_
 exact Lk hm M n (h M hM).2 (h M hM).1 x y
def VN(x:Int):List Int→Int
 | []=>0
 |y::l=>y+x*VN x l
theorem TK(q:Int)(y:Int)(c:List Int)(x:Int):zH q (y::c) x=xn (zR (zH q c x) x q) y q:=by simp [zH,YA]
theorem YI{q:Int}(hq:zO q=true)(c:List Int)(x:Int):0≤zH q c x∧zH q c x< q:=by
 have h:=(Yx hq).1;cases c with
 |nil=>exact ⟨Int.le_refl _,h⟩
 |cons y c=>
  rw [TK,yO _ _ _ hq];exact ⟨Int.emod_nonneg _ (by omega),Int.emod_lt_of_pos _ h⟩
theorem RH{q:Int}(hq:zO q=true)(x:Int): ∀(c:List Int),Cg q (zH q c x) (VN x c)
 | []=>Cg.refl _ _
 |y::c=>by
  rw [TK,yO _ _ _ hq,yG _ _ _ hq];refine (Cg.mod _ _).trans (((Cg.mod _ _).trans ((RH hq x c).mul_right x)).add (Cg.refl _ y)|>.trans (Cg.of_eq ?_));show VN x c*x+y=y+x*VN x c;rw [Int.mul_comm,Int.add_comm]
theorem Ni{q x:Int}(hq:zO q=true): ∀(l:List (Int×Int)) (v:Int×Int) (e:Int),Cg q (VL q x l v e).1 (v.1+e*VN x (l.map Prod.fst))∧Cg q (VL q x l v e).2 (v.2+e*VN x (l.map Prod.snd))
 | [],v,e=>⟨Cg.of_eq (by simp [VL,VN]),Cg.of_eq (by simp [VL,VN])⟩
 |y::l,v,e=>by
  obtain ⟨h1,h2⟩:=Ni hq l (xn v.1 (zR y.1 e q) q,xn v.2 (zR y.2 e q) q) (zR e x q);have key: ∀(a b s:Int),Cg q (xn a (zR b e q) q+zR e x q*s) (a+e*(b+x*s)):=fun a b s=>by
   rw [yO _ _ _ hq,yG _ _ _ hq,yG _ _ _ hq];refine (((Cg.mod _ _).trans ((Cg.refl _ a).add (Cg.mod _ _))).add ((Cg.mod _ _).mul_right s)).trans (Cg.of_eq ?_);rw [Int.mul_add,Int.mul_comm b e,Int.mul_assoc];omega
  exact ⟨h1.trans (key _ _ _),h2.trans (key _ _ _)⟩
theorem Nj{q x:Int}(hq:zO q=true): ∀(l:List (Int×Int)) (v:Int×Int) (e:Int),0≤v.1∧v.1< q→0≤v.2∧v.2< q→(0≤(VL q x l v e).1∧(VL q x l v e).1< q)∧0≤(VL q x l v e).2∧(VL q x l v e).2< q
 | [],v,e,h1,h2=>⟨h1,h2⟩
 |y::l,v,e,_,_=>by
  have h:=(Yx hq).1;have k: ∀a b:Int,0≤xn a b q∧xn a b q< q:=fun a b=>by
   rw [yO _ _ _ hq];exact ⟨Int.emod_nonneg _ (by omega),Int.emod_lt_of_pos _ h⟩
  exact Nj hq l _ _ (k _ _) (k _ _)
theorem IU{q x:Int}(hq:zO q=true)(l:List (Int×Int)):VL q x l (0,0) 1=(zH q (l.map Prod.fst) x,zH q (l.map Prod.snd) x):=by
 have h:=(Yx hq).1;obtain ⟨h1,h2⟩:=Ni (x:=x) hq l (0,0) 1;obtain ⟨b1,b2⟩:=Nj (x:=x) hq l (0,0) 1 ⟨Int.le_refl _,h⟩ ⟨Int.le_refl _,h⟩;have e1:=YI hq (l.map Prod.fst) x;have e2:=YI hq (l.map Prod.snd) x;rw [show (0:Int)+1*VN x (l.map Prod.fst)=VN x (l.map Prod.fst) by omega] at h1;rw [show (0:Int)+1*VN x (l.map Prod.snd)=VN x (l.map Prod.snd) by omega] at h2;exact Prod.ext ((h1.trans (RH hq x _).symm).eq b1.1 b1.2 e1.1 e1.2) ((h2.trans (RH hq x _).symm).eq b2.1 b2.2 e2.1 e2.2)
theorem Ir{p:Par}(h:FG p)(i:Int)(hi:0≤i)(l:List (Int×Int))(hl: ∀y∈l,0≤y.1∧0≤y.2):atI p (l.map (zj p)) i=zj p (zH p.Q (l.map Prod.fst) i,zH p.Q (l.map Prod.snd) i):=by
 rw [LF h i hi l hl,IU h.Q]
def Sq(n:Nat)(F:List (List Int)):Prop:=F.length=n∧ ∀r∈F,r.length=n∧ ∀y∈r,0≤y
theorem GR(p:Par){F B:List (List Int)}{n:Nat}(hF:F.length=n)(hB:B.length=n):yy p F B=(List.range n).map fun i=>NV p (F[i]?.getD [],B[i]?.getD []):=by
 simp [yy,Zs,hF,hB,Function.comp_def]
theorem Sq.row{n:Nat}{F:List (List Int)}(h:Sq n F){i:Nat}(hi:i< n): ∃r,F[i]? =some r∧r.length=n∧ ∀y∈r,0≤y:=by
 have hl:i< F.length:=by rw [h.1];exact hi
 exact ⟨F[i],List.getElem?_eq_getElem hl,h.2 _ (lGm hl)⟩
theorem JZ{p:Par}{F B:List (List Int)}{n:Nat}(hF:Sq n F)(hB:Sq n B):(yy p F B).length=n∧ ∀r∈yy p F B,r.length=n:=by
 rw [GR p hF.1 hB.1];refine ⟨by simp,fun r hr=> ?_⟩;obtain ⟨i,hi,rfl⟩:=List.mem_map.1 hr;obtain ⟨a,ha,hal,_⟩:=hF.row (List.mem_range.1 hi);obtain ⟨b,hb,hbl,_⟩:=hB.row (List.mem_range.1 hi);rw [ha,hb];simp [NV,Ua,hal,hbl]
end
end Go.Proofs.YtkdfjkdphdfclaaGreatDoor
