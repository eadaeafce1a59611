/- Part 10 of the proof of a card of AvssAnew. -/
import Derived.Test.YtkdfjkdphdfclaaGreatDoorV8
import Derived.Test.YtkdfjkdphdfclaaGreatDoorV9
set_option maxRecDepth 100000
set_option maxHeartbeats 16000000
set_option linter.unusedVariables false
set_option linter.unusedSimpArgs false
namespace Go.Proofs.YtkdfjkdphdfclaaGreatDoor
open Tryz
section
open Go Go.RowKit Go.Shelf
theorem Qp{α:Type}{a b:List α}{i:Nat}(ha:i< a.length)(hb:i< b.length)(h:a.take i=b.take i)(e:a[i]=b[i]):a.take (i+1)=b.take (i+1):=by
 rw [tSg ha,tSg hb,h,e]
theorem Nq{α:Type}{a b:List α}{n:Nat}(ha:a.length=n)(hb:b.length=n)(h:a.take n=b.take n):a=b:=by
 rwa [List.take_of_length_le (by omega),List.take_of_length_le (by omega)] at h
def xu(p:Par)(l:List (List (Int×Int)))(cs:List (List Int)):Bool:=decide ((l.map fun c=>c.map (zj p))=cs)
theorem Pr(p:Par)(v1 v2:Value)(l:List (List (Int×Int)))(cs:List (List Int))(X Y:Nat→Prop)(w:World)(hp:p.ok)(h1:Sl (zh zq) X w v1 l)(h2:Sl (zh ze) Y w v2 cs)(hb:l.length≤1000)(M0: ∀c∈l,c.length≤1000):
  Calls prog 162 #[p.v,v1,v2] w fun e w'=>e= .returned (.bool (xu p l cs))∧w.grownBy w' none:=by
 have H1:=za h1;have H2:=za h2;have HP:=za hp;have k1:=za M0;obtain ⟨A1,c1,rfl,q1,q2⟩:=h1.form;clear q1 q2;obtain ⟨A2,c2,rfl,q1,q2⟩:=h2.form;clear q1 q2;obtain ⟨B,hB⟩:=exq (xu p l cs);have O0:=za hB;rw [←hB];obtain ⟨w0,l0⟩:=exq (w.alloc (Obj.cells p.cells 39));have a1:Hid (Bk w0 w.heap.size 39 p.cells):=za (by rw [l0];exact Bk.new w _ _);have j0:Hid (w.grownBy w0 none):=za (by rw [l0];exact gAl w _ none);have u1:Hid (w.heap.size< w0.heap.size):=za a1.z.lt;by_cases hl:l.length=cs.length
 ·have Z0:=za hl;rw [←hl] at H2 ⊢;obtain ⟨L,hL⟩:=exq (l.length);have HL:=za hL;rw [←hL] at H1 H2 hb ⊢;clear h1 h2 hp M0 hL hl hB;go_enter func162,ntmps162;go_upto_region 4 with (fail)
  rw [←l0];clear l0;go_loopg [17] L (fun gk s17 wx=> ∃i:Nat,i+gk=L∧s17= .int .i64 i∧Hid (w0.grownBy wx none∧(l.map fun c=>c.map (zj p)).take i=cs.take i))
  case atStart=>exact ⟨0,by omega,rfl,za ⟨gRr _ _,rfl⟩⟩
  case round=>
   obtain ⟨i,r1,rfl,HX⟩:=hrel;cases gk with
   |zero=>
    have eI:L=i:=by omega
    subst eI;have f1: ¬((L:Int)< (L:Int)):=by omega
    have p0:Hid (w.grownBy wr none):=za (j0.z.trans HX.z.1);have HT:Hid (B=true):=za (by
     rw [O0.z];exact decide_eq_true (Nq (by rw [lLm];exact HL.z.symm) (by rw [←Z0.z];exact HL.z.symm) HX.z.2))
    clear HX;go_wp2;go_ret;exact ⟨zn HT.z.symm,p0.z⟩
   |succ m=>
    have s1:(i:Int)< (L:Int):=by omega
    have t1:(0:Int)≤(i:Int):=iNn i;have hi:i< l.length:=by rw [←HL.z];omega
    have z0:i< cs.length:=by rw [←Z0.z];exact hi
    obtain ⟨gA,oA,cA',uA,eA,q1,q2,J0,n0⟩:=(H1.z.kept (j0.z.trans HX.z.1)).atS hi;clear q1 q2;injection eA with eA1 eA2 eA3
    clear eA2;subst eA1 eA3;obtain ⟨gB,oB,cB',uB,eB,q1,q2,I0,m0⟩:=(H2.z.kept (j0.z.trans HX.z.1)).atS z0;clear q1 q2;injection eB with eB1 eB2 eB3
    clear eB2;subst eB1 eB3;have a0:Hid (l[i].map (zj p)=cs[i]→(l.map fun c=>c.map (zj p)).take (i+1)=cs.take (i+1)):=za (fun h=>Qp (by rw [lLm];exact hi) z0 HX.z.2 (by rw [List.getElem_map];exact h));have A0:Hid (l[i].map (zj p)≠cs[i]→B=false):=za (fun h=>by
     rw [O0.z];exact decide_eq_false fun e=>h (by
      have h1:(l.map fun c=>c.map (zj p))[i]? =cs[i]? :=by rw [e]
      rw [List.getElem?_eq_getElem (by rw [lLm];exact hi),List.getElem?_eq_getElem z0,List.getElem_map] at h1;exact Option.some.inj h1))
    obtain ⟨y,hy⟩:=exq (l[i]);obtain ⟨z,hz⟩:=exq (cs[i]);have i1:Hid (y.length≤1000):=za (by rw [hy];exact k1.z _ (lGm hi));rw [←hy] at n0 a0 A0;rw [←hz] at m0 a0 A0;obtain ⟨Ai,ci,ef,q1,q2⟩:=n0.form;clear q1 q2;obtain ⟨Bi,di,eb,q1,q2⟩:=m0.form;clear q1 q2;subst ef eb;obtain ⟨ny,u0⟩:=exq (y.length);obtain ⟨nz,D0⟩:=exq (z.length);have i0:=za (And.intro u0 D0);have d1:ny≤1000:=by rw [u0];exact i1.z
    rw [←u0] at n0 J0;rw [←D0] at m0 I0;have e0:Hid (w0.grownBy wr.drew none):=za (HX.z.1.trans (zb wr 1));have B0:Hid (∀W,wr.drew.grownBy W none→W.cell? ⟨gA,oA+i,none⟩=some (.slice Ai ny ci)∧W.cell? ⟨gB,oB+i,none⟩=some (.slice Bi nz di)):=za (fun W hg=>⟨XS J0 ((zb wr 1).trans hg) (by simp),XS I0 ((zb wr 1).trans hg) (by simp)⟩);have V0:=za (n0.kept (zb wr 1));have U0:=za (m0.kept (zb wr 1));clear n0 m0 J0 I0 hy hz u0 D0 HX z0;go_upto_region 6 with (fail)
    refine ZF 11 ?_;refine mP0 (.slice (some ⟨gA,oA,none⟩) L c1) ?_;refine mP0 (.int .i64 (i:Int)) ?_;refine mP2 (.pointer (some ⟨gA,oA+i,none⟩)) 0 20 1 21 ?_;refine mQ1 (.slice Ai ny ci) 2 22 (fun w' hw' K hK=> ?_) ?_
    ·obtain ⟨q0,q1⟩:=B0.z w' hw';go_simp;exact hK _ rfl rfl
    refine mP1 (.int .i64 (ny:Int)) 3 23 ?_;refine mP0 (.slice (some ⟨gB,oB,none⟩) L c2) ?_;refine mP0 (.int .i64 (i:Int)) ?_;refine mP2 (.pointer (some ⟨gB,oB+i,none⟩)) 5 25 6 26 ?_;refine mQ1 (.slice Bi nz di) 7 27 (fun w' hw' K hK=> ?_) ?_
    ·obtain ⟨q0,q1⟩:=B0.z w' hw';go_simp;exact hK _ rfl rfl
    refine mP1 (.int .i64 (nz:Int)) 8 28 ?_;refine mP2 (.bool ((ny:Int) !=(nz:Int))) 4 24 9 29 ?_;intro w3 k0
    iterate 10 (refine pD ?_;intro _)
    intro y10 k10;have e10:y10= .bool ((ny:Int) !=(nz:Int)):=k10;subst e10;obtain ⟨q0,q1⟩:=B0.z w3 k0;have j1:=za q1;have Y0:=za (V0.z.kept k0);have T0:=za (U0.z.kept k0);have C0:Hid (w0.grownBy w3 none):=za (e0.z.trans k0);clear k10 k0 B0 V0 U0 e0 q1;refine wpList_nil ?_;simp only [Act.put,sAa,sAb,sAc];by_cases F0:ny=nz
    ·subst F0;have G0:((ny:Int) !=(ny:Int))=false:=by simp
     go_upto_region 9 with (fail)
     go_loopg [36] ny (fun gk s36 wx=> ∃j:Nat,j+gk=ny∧s36= .int .i64 j∧Hid (w3.grownBy wx none∧(y.map (zj p)).take j=z.take j))
     case atStart=>exact ⟨0,by omega,rfl,za ⟨gRr _ _,rfl⟩⟩
     case round=>
      rename World=>wj
      obtain ⟨j,l1,rfl,HY⟩:=hrel;cases gk with
      |zero=>
       have eJ:ny=j:=by omega
       subst eJ;have f1: ¬((ny:Int)< (ny:Int)):=by omega
       have f0:Hid (w0.grownBy wj none∧(l.map fun c=>c.map (zj p)).take (i+1)=cs.take (i+1)):=za ⟨C0.z.trans HY.z.1,a0.z (Nq (by rw [lLm];exact i0.z.1.symm) i0.z.2.symm HY.z.2)⟩;clear HY Y0 T0 q0 hi;go_wp2_with fail;go_roundg m
       case measure=>omega
       case rel=>exact ⟨i+1,by omega,by go_num,f0⟩
      |succ q=>
       have o1:(j:Int)< (ny:Int):=by omega
       have p1:(0:Int)≤(j:Int):=iNn j;have y0:j< y.length:=by rw [←i0.z.1];omega
       have v0:j< z.length:=by rw [←i0.z.2];omega
       obtain ⟨ga,oa,ca,ea,q1,q2,L0,K0,t0,s0⟩:=(Y0.z.kept HY.z.1).atP y0;clear q1 q2;injection ea with ea1 ea2 ea3
       clear ea2;subst ea1 ea3;obtain ⟨gb,ob,cb,eb,q1,q2,H0,b1⟩:=(T0.z.kept HY.z.1).atU v0;clear q1 q2;injection eb with eb1 eb2 eb3
       clear eb2;subst eb1 eb3;have c0:Hid (zj p y[j]=z[j]→(y.map (zj p)).take (j+1)=z.take (j+1)):=za (fun h=>Qp (by rw [lLm];exact y0) v0 HY.z.2 (by rw [List.getElem_map];exact h));have d0:Hid (zj p y[j]≠z[j]→B=false):=za (fun h=>A0.z fun e=>h (by
        have h1:(y.map (zj p))[j]? =z[j]? :=by rw [e]
        rw [List.getElem?_eq_getElem (by rw [lLm];exact y0),List.getElem?_eq_getElem v0,List.getElem_map] at h1;exact Option.some.inj h1))
       obtain ⟨x,hx⟩:=exq (y[j]);obtain ⟨s,hs⟩:=exq (z[j]);rw [←hx] at L0 K0 t0 s0 c0 d0;rw [←hs] at H0 c0 d0;obtain ⟨x1,x2⟩:=x;simp only at L0 K0 t0 s0;obtain ⟨c,hc⟩:=exq (zj p (x1,x2));rw [←hc] at c0 d0;obtain ⟨wa,r0⟩:=exq (wj.alloc (Obj.cells #[.int .u64 x1, .int .u64 x2] 153));obtain ⟨Bb,N0⟩:=exq (wj.heap.size);have h0:Hid (wj.grownBy wa none):=za (by rw [r0];exact gAl _ _ none);have P0:Hid (Bk wa Bb 153 #[.int .u64 x1, .int .u64 x2]):=za (by rw [r0,N0];exact Bk.new _ _ _);have X0:Hid (Bk wj w.heap.size 39 p.cells):=za (a1.z.grown (C0.z.trans HY.z.1) (by simp));have o0:Hid (wj.grownBy wa.drew none):=za (h0.z.trans (zb wa 1));have b0:Hid (∀W,wa.drew.grownBy W none→(∀o,W.cell? ⟨w.heap.size,o,none⟩=(#[.int .u64 p.P, .int .u64 p.Q, .int .u64 p.G, .int .u64 p.H, .int .i64 p.Nodes, .int .i64 p.N, .int .i64 p.T, .int .i64 p.K, .int .i64 p.D, .int .i64 p.R, .int .i64 p.M, .int .i64 p.X]:Array Value)[o]?)∧W.cell? ⟨Bb,0,none⟩=some (.int .u64 x1)∧W.cell? ⟨Bb,1,none⟩=some (.int .u64 x2)∧W.cell? ⟨gB,oB+i,none⟩=some (.slice (some ⟨gb,ob,none⟩) ny di)∧W.cell? ⟨gb,ob+j,none⟩=some (.int .u64 s)):=za (fun W hW=>⟨(X0.z.grown (o0.z.trans hW) (by simp)).prule,(P0.z.grown ((zb wa 1).trans hW) (by simp)).cell 0,(P0.z.grown ((zb wa 1).trans hW) (by simp)).cell 1,XS j1.z ((HY.z.1.trans o0.z).trans hW) (by simp),XS H0 (o0.z.trans hW) (by simp)⟩);have W0:Hid (∀W,Calls prog 95 #[p.v, .agg #[.int .u64 x1, .int .u64 x2]] W fun e' w'=>e'= .returned (.int .u64 c)∧W.grownBy w' none):=za (fun W=>by rw [hc];exact ZS p (x1,x2) W HP.z t0 s0)
       have E0:Hid (w3.grownBy wa.drew none):=za (HY.z.1.trans o0.z);clear H0 b1 hx hs t0 s0 HY q0 y0 v0 hc;go_upto_region 11 with (fail)
       rw [←r0, ←N0];clear r0 N0 L0 K0;refine ZF 11 ?_;refine mQ0 (p.v) (fun w' hw' K hK=> ?_) ?_
       ·obtain ⟨q0,q1,q2,q3,q4⟩:=b0.z w' hw';go_simp;exact hK _ rfl rfl
       refine mQ0 (.agg #[.int .u64 x1, .int .u64 x2]) (fun w' hw' K hK=> ?_) ?_
       ·obtain ⟨q0,q1,q2,q3,q4⟩:=b0.z w' hw';go_simp;exact hK _ rfl rfl
       refine mN2 (Pv.eq (.int .u64 c)) 0 41 1 42 (fun w' hw' K hK=> ?_) ?_
       ·go_simp;refine (W0.z w').mono ?_;rintro e w3 ⟨rfl,hg⟩;exact hK _ _ rfl rfl hg
       refine mP0 (.slice (some ⟨gB,oB,none⟩) L c2) ?_;refine mP0 (.int .i64 (i:Int)) ?_;refine mP2 (.pointer (some ⟨gB,oB+i,none⟩)) 3 44 4 45 ?_;refine mQ1 (.slice (some ⟨gb,ob,none⟩) ny di) 5 46 (fun w' hw' K hK=> ?_) ?_
       ·obtain ⟨q0,q1,q2,q3,q4⟩:=b0.z w' hw';go_simp;exact hK _ rfl rfl
       refine mP0 (.int .i64 (j:Int)) ?_;refine mP2 (.pointer (some ⟨gb,ob+j,none⟩)) 6 47 7 48 ?_;refine mQ1 (.int .u64 s) 8 49 (fun w' hw' K hK=> ?_) ?_
       ·obtain ⟨q0,q1,q2,q3,q4⟩:=b0.z w' hw';go_simp;exact hK _ rfl rfl
       refine mP2 (.bool (c !=s)) 2 43 9 50 ?_;intro w5 Q0
       iterate 10 (refine pD ?_;intro _)
       intro y10 k10;have e10:y10= .bool (c !=s):=k10;subst e10;have x0:Hid (w3.grownBy w5 none):=za (E0.z.trans Q0);clear k10 Q0 b0 W0 E0 o0 X0 P0 h0;refine wpList_nil ?_;simp only [Act.put,sAa,sAb,sAc];by_cases g0:c=s
       ·have g1:(c !=s)=false:=by simpa using g0
        have f0:Hid (w3.grownBy w5 none∧(y.map (zj p)).take (j+1)=z.take (j+1)):=za ⟨x0.z,c0.z g0⟩;clear g0;go_wp2_with fail;go_roundg q
        case measure=>omega
        case rel=>exact ⟨j+1,by omega,by go_num,f0⟩
       ·have g1:(c !=s)=true:=by simpa using g0
        have HF:=za (d0.z g0);have p0:Hid (w.grownBy w5 none):=za (j0.z.trans (C0.z.trans x0.z));clear g0;go_wp2_with fail;go_ret;exact ⟨zn HF.z.symm,p0.z⟩
    ·have G0:((ny:Int) !=(nz:Int))=true:=by simpa using (by omega: ¬(ny:Int)=(nz:Int))
     have HF:=za (A0.z fun e=>F0 (by rw [i0.z.1,i0.z.2, ←e,lLm]));have p0:Hid (w.grownBy w3 none):=za (j0.z.trans C0.z);clear F0;go_wp2_with fail;go_ret;exact ⟨zn HF.z.symm,p0.z⟩
 ·have G0:((l.length:Int) !=(cs.length:Int))=true:=by simpa using (by omega: ¬(l.length:Int)=(cs.length:Int))
  have HF:Hid (B=false):=za (by
   rw [O0.z];exact decide_eq_false fun h=>hl (by rw [←h,lLm]))
  obtain ⟨n1,S0⟩:=exq (l.length);obtain ⟨n2,R0⟩:=exq (cs.length);rw [←S0, ←R0] at G0 ⊢;clear h1 h2 hp M0 hl hB S0 R0 H1 H2 hb;go_enter func162,ntmps162;go_wp2_with fail;rw [←l0];go_ret;exact ⟨zn HF.z.symm,j0.z⟩
end
section
open Go
structure zw where
 m:List (List (List Int))
 a:List (List (Int×Int))
 b:List (List (Int×Int))
 deriving DecidableEq
structure zy where
 p:Par
 dealer:Int
 me:Int
 coms:List (List Int)
structure ASt where
 dealt:Option zw
 own:Option zw
 heard:Int→Int→Option zw
 done:Bool
def ASt.start:ASt:=⟨none,none,fun _ _=>none,false⟩
abbrev yE:=Int×Int×List Int
def zA(E:zy)(nums:List Int)(k:Int):zw×Bool:=(⟨TD E.p nums k,Qb E.p nums k,Qa E.p nums k⟩,decide (Uy E.p nums.length k=0) && yx E.p (TD E.p nums k) E.coms E.dealer)
def zu(E:zy)(nums:List Int):zw×Bool:=((zA E nums (E.p.T+1)).1,(zA E nums (E.p.T+1)).2 && xu E.p (zA E nums (E.p.T+1)).1.a (zD E.p (zA E nums (E.p.T+1)).1.m E.me) && xu E.p (zA E nums (E.p.T+1)).1.b (yq E.p (zA E nums (E.p.T+1)).1.m E.me))
def zv(l:List (List (Int×Int))):List (Int×Int):=l.map fun c=>c.headD (0,0)
def zi(E:zy)(i:Int)(nums:List Int):zw×Bool:=((zA E nums 1).1,(zA E nums 1).2 && Xa E.p (zD E.p (zA E nums 1).1.m i) E.me (zv (zA E nums 1).1.a) && Xa E.p (zD E.p (zA E nums 1).1.m E.me) i (zv (zA E nums 1).1.b))
def ASt.put(s:ASt)(k i:Int)(x:zw):ASt:={s with heard:=fun k' i'=>if k'=k∧i'=i then some x else s.heard k' i'}
def Tf(N:Int):List Int:=(List.range N.toNat).map fun (i:Nat)=>(i:Int)+1
def UD(s:ASt)(k:Int)(m:List (List (List Int)))(i:Int):Bool:=match s.heard k i with|some x=>decide (x.m=m)|none=>false
def ym(E:zy)(s:ASt)(k:Int)(m:List (List (List Int))):List Int:=(Tf E.p.N).filter (UD s k m)
def Gt:Int:=7
def XD:Int:=8
def yY:Int:=9
def QS:Int:=10
def zt(E:zy)(s:ASt)(m:List (List (List Int))):List (Int×Int):=
 if ((ym E s XD m).length:Int)>(E.p.N+E.p.T).tdiv 2 then (ym E s XD m).map fun i=>(XD,i)
 else if ((ym E s yY m).length:Int)>E.p.T then (ym E s yY m).map fun i=>(yY,i) else []
noncomputable def VS(E:zy)(xs:List Int)(ps:List (List (Int×Int))):List (List (Int×Int)):=(List.range E.coms.length).map fun s=>
 ((Xn E.p.Q xs (ps.map fun l=>(l[s]?.getD (0,0)).1)).zip (Xn E.p.Q xs (ps.map fun l=>(l[s]?.getD (0,0)).2)))
def xy(s:ASt)(h:Int×Int)(one:zw→List (Int×Int)):List (Int×Int):=match s.heard h.1 h.2 with|some x=>one x|none=> []
noncomputable def zS(E:zy)(s:ASt)(by_:List (Int×Int))(one:zw→List (Int×Int)):List (List (Int×Int)):=VS E (by_.map (·.2)) (by_.map fun h=>xy s h one)
noncomputable def yk(E:zy)(s:ASt)(m:List (List (List Int)))(by_:List (Int×Int)):zw:=
 let thr:zw:=⟨m,zS E s (by_.take (E.p.T+1).toNat) (fun x=>zv x.b),zS E s (by_.take (E.p.T+1).toNat) (fun x=>zv x.a)⟩
 match s.dealt with
 |some d=>if d.m=m then d else thr
 |none=>thr
def zB(l:List (Int×Int)):List (List (Int×Int)):=l.map fun x=> [x]
def yl(E:zy)(x:zw)(i:Int):List Int:=yz x.m (zB (x.a.map (atP E.p.Q i))) (zB (x.b.map (atP E.p.Q i)))
def yA(E:zy)(kind:Int)(x:zw):List yE:=((Tf E.p.N).filter fun i=>decide (i≠E.me)).map fun i=>(kind,i,yl E x i)
def Za(E:zy)(hear:ASt→Int→Int→List Int→ASt×List yE)(s:ASt)(kind:Int)(x:zw):ASt×List yE:=
 ((hear s kind E.me (yl E x E.me)).1,yA E kind x++(hear s kind E.me (yl E x E.me)).2)
def Tl(m:List (List (List Int))):List (List Int):=m.map fun f=>f.map fun row=>row.headD 0
def yg(E:zy)(s:ASt)(out:List yE):ASt×List yE:=match s.own with
 |some o=>if s.done=false∧((ym E s yY o.m).length:Int)≥E.p.N - E.p.T then ({s with done:=true},out++ [(QS,0,(Tl o.m).flatten)]) else (s,out)
 |none=>(s,out)
noncomputable def yL(E:zy)(tell:ASt→zw→ASt×List yE)(s:ASt)(kind i:Int)(nums:List Int):ASt×List yE:=
 if (s.heard kind i).isSome=true∨i< 1∨E.p.N< i∨(zi E i nums).2=false then (s, [])
 else
  let x:=(zi E i nums).1
  let s1:=s.put kind i x
  if s1.own=none∧zt E s1 x.m≠ [] then
   let o:=yk E s1 x.m (zt E s1 x.m)
   yg E (tell {s1 with own:=some o} o).1 (tell {s1 with own:=some o} o).2
  else yg E s1 []
noncomputable def xX(E:zy):ASt→Int→Int→List Int→ASt×List yE:=yL E fun s _=>(s, [])
noncomputable def yF(E:zy):ASt→Int→Int→List Int→ASt×List yE:=yL E fun s o=>Za E (xX E) s yY o
noncomputable def zV(E:zy)(s:ASt)(kind i:Int)(nums:List Int):ASt×List yE:=
 if kind=Gt∧i=0∧s.dealt=none then
  (if (zu E nums).2=false then (s, []) else Za E (yF E) {s with dealt:=some (zu E nums).1} XD (zu E nums).1)
 else if kind=XD∨kind=yY then yF E s kind i nums else (s, [])
def zE:Option zw→List Int
 |none=> []
 |some x=>yz x.m x.a x.b
def xE(E:zy)(s:ASt)(kind:Int):List (Int×List Int):=(Tf E.p.N).filterMap fun i=>(s.heard kind i).map fun x=>(i,yz x.m x.a x.b)
end
section
open Go Go.RowKit Go.Shelf Go.Maps
def zL(X:Nat→Prop)(W:World)(b:Nat)(x:zw):Prop:= ∃vm va vb,X b∧Bk W b 146 #[vm,va,vb]∧Sl (zh (zh ze)) X W vm x.m∧Sl (zh zq) X W va x.a∧Sl (zh zq) X W vb x.b
theorem zL.keep{X:Nat→Prop}{W W':World}{b:Nat}{x:zw}(h:zL X W b x){row:Option Nat}(hg:W.grownBy W' row)(hX: ∀g,X g→some g≠row):zL X W' b x:=by
 obtain ⟨vm,va,vb,h1,h2,h3,h4,h5⟩:=h;exact ⟨vm,va,vb,h1,h2.grown hg (hX b h1),h3.keep hg hX,h4.keep hg hX,h5.keep hg hX⟩
theorem zL.more{X Y:Nat→Prop}{W:World}{b:Nat}{x:zw}(h:zL X W b x)(hX: ∀g,g< W.heap.size→X g→Y g):zL Y W b x:=by
 obtain ⟨vm,va,vb,h1,h2,h3,h4,h5⟩:=h;exact ⟨vm,va,vb,hX b h2.lt h1,h2,h3.more hX,h4.more hX,h5.more hX⟩
def Te(X:Nat→Prop)(W:World)(v:Value):Option zw→Prop
 |none=>v= .pointer none
 |some x=> ∃b,v= .pointer (some ⟨b,0,none⟩)∧zL X W b x
theorem Te.keep{X:Nat→Prop}{W W':World}{v:Value}{o:Option zw}(h:Te X W v o){row:Option Nat}(hg:W.grownBy W' row)(hX: ∀g,X g→some g≠row):Te X W' v o:=by
 cases o with
 |none=>exact h
 |some x=>obtain ⟨b,e,hp⟩:=h;exact ⟨b,e,hp.keep hg hX⟩
theorem Te.more{X Y:Nat→Prop}{W:World}{v:Value}{o:Option zw}(h:Te X W v o)(hX: ∀g,g< W.heap.size→X g→Y g):Te Y W v o:=by
 cases o with
 |none=>exact h
 |some x=>obtain ⟨b,e,hp⟩:=h;exact ⟨b,e,hp.more hX⟩
def OA(v:Value):Option (DataW Unit×List MemPlace):=match v with
 | .pointer none=>some (.lit (.int .i64 (-1)), [])
 | .pointer (some ⟨b,0,none⟩)=>some (.lit (.int .i64 b), [])
 |_=>none
theorem KQ(b:Nat):OA (.pointer (some ⟨b,0,none⟩))=some (.lit (.int .i64 (b:Int)), []):=rfl
theorem Vd{v:Value}{b:Nat}{ps:List MemPlace}(h:OA v=some (.lit (.int .i64 (b:Int)),ps)):v= .pointer (some ⟨b,0,none⟩):=by
 unfold OA at h;split at h
 ·simp at h
 ·rename_i b';simp at h;obtain rfl:b'=b:=by omega
  rfl
 ·cases h
theorem CX:laidOutB prog=true:=by kernel_rfl
theorem Vz:Keyed prog 133:=Keyed.of_law (deep_law_laid CX (m:=2) (by omega) (of_decide_eq_true (by kernel_rfl)) (by kernel_rfl) (by rw [Tryz.underlying133]))
def plV(k i:Int):Value:= .agg #[.int .u8 k, .int .i64 i]
theorem Dq: ∃n,Tryz.prog.types.size=n+1:=⟨Tryz.prog.types.size - 1,by kernel_rfl⟩
theorem CH(k i:Int)(hk:0≤k∧k< 256)(hi:I64 i): ∃kl,keyOf prog 133 (plV k i)=some kl:=by
 obtain ⟨n,hn⟩:=Dq;have hkt:Tryz.prog.keyType 133=true:=by kernel_rfl
 have hf:(plV k i).formed prog 133=true:=by
  simp only [plV,Value.formed,Tryz.underlying133]
  kernel_rfl
 have hw1:(Lit.int .u8 k).wf=true:=by simp [Lit.wf,IntKind.min,IntKind.max,IntKind.bits,IntKind.signed];omega
 have hw2:(Lit.int .i64 i).wf=true:=by obtain ⟨h1,h2⟩:=hi;simp [Lit.wf,IntKind.min,IntKind.max,IntKind.bits,IntKind.signed];omega
 unfold keyOf;rw [Tryz.underlying133];simp only [hkt,hf,Bool.and_self,if_true];have c1:Tryz.prog.cellsOf 133=2:=by kernel_rfl
 have c2:Tryz.prog.cellsOf 5=1:=by kernel_rfl
 have c3:Tryz.prog.cellsOf 3=1:=by kernel_rfl
 have l1:Tryz.prog.keyLits (n+1) 5 [.int .u8 k]=some [.int .u8 k]:=by
  unfold Program.keyLits;simp [Tryz.underlying5,hw1]
 have l2:Tryz.prog.keyLits (n+1) 3 [.int .i64 i]=some [.int .i64 i]:=by
  unfold Program.keyLits;simp [Tryz.underlying3,hw2]
 have hl:Tryz.prog.keyLits (Tryz.prog.types.size+1) 133 (plV k i).cells.toList=some [.int .u8 k, .int .i64 i]:=by
  rw [hn];unfold Program.keyLits;simp [plV,Tryz.underlying133,c1,c2,c3,Value.cells,l1,l2]
 rw [hl];exact ⟨_,rfl⟩
noncomputable def plL(k i:Int):Lit:=(keyOf prog 133 (plV k i)).getD (.bool false)
theorem Yb(k i:Int)(hk:0≤k∧k< 256)(hi:I64 i):keyOf prog 133 (plV k i)=some (plL k i):=by
 obtain ⟨kl,h⟩:=CH k i hk hi;unfold plL;rw [h];rfl
theorem Ei{k i k' i':Int}(hk:0≤k∧k< 256)(hi:I64 i)(hk':0≤k'∧k'< 256)(hi':I64 i')(h:plL k i=plL k' i'):k=k'∧i=i':=by
 have h1:=Yb k i hk hi;have h2:=Yb k' i' hk' hi';rw [h] at h1
 have:=Vz.inj h1 h2
 unfold plV at this;injection this with h3
 simpa using h3
theorem Eh(k i:Int)(hk:0≤k∧k< 256)(hi:I64 i):WideAt.IsKeyLit (plL k i):=by
 have h:=Yb k i hk hi;generalize plL k i=l at h ⊢;exact Vz.key h
def zT(X:Nat→Prop)(W:World)(gM nn:Nat)(hd:Int→Int→Option zw):Prop:=
 ∃D:DataW Unit,W.ownsMap prog 133 OA gM nn D∧ ∀k i,0≤k∧k< 256→I64 i→match hd k i with
  |none=>Maps.has D (plL k i)=false
  |some x=>Maps.has D (plL k i)=true∧ ∃b:Nat,D.atKey (plL k i) (.lit (.int .i64 (-1)))= .lit (.int .i64 (b:Int))∧zL X W b x
section
variable {X Y:Nat→Prop} {W W':World} {gM nn:Nat} {hd:Int→Int→Option zw}
theorem zT.keep(h:zT X W gM nn hd){row:Option Nat}(hg:W.grownBy W' row)(hX: ∀g,X g→some g≠row)(hM:some gM≠row):zT X W' gM nn hd:=by
 obtain ⟨D,h1,h2⟩:=h;refine ⟨D,h1.kept hg hM,fun k i hk hi=> ?_⟩
 have:=h2 k i hk hi
 revert this
 cases hd k i with
 |none=>exact id
 |some x=>exact fun ⟨a,b,c,d⟩=>⟨a,b,c,d.keep hg hX⟩
theorem zT.more(h:zT X W gM nn hd)(hX: ∀g,g< W.heap.size→X g→Y g):zT Y W gM nn hd:=by
 obtain ⟨D,h1,h2⟩:=h;refine ⟨D,h1,fun k i hk hi=> ?_⟩
 have:=h2 k i hk hi
 revert this
 cases hd k i with
 |none=>exact id
 |some x=>exact fun ⟨a,b,c,d⟩=>⟨a,b,c,d.more hX⟩
theorem zT.lt(h:zT X W gM nn hd):gM< W.heap.size:=h.choose_spec.1.lt
theorem Ve{v:Value}{ps:List MemPlace}(h:OA v=some (.lit (.int .i64 (-1)),ps)):v= .pointer none:=by
 unfold OA at h;split at h
 ·rfl
 ·simp at h
 ·cases h
theorem zT.new(W:World):zT X (W.alloc (.map #[] 0)) W.heap.size 0 (fun _ _=>none):=⟨.map [],World.ownsMap_made W _ _ _,fun _ _ _ _=>rfl⟩
end
end
section
open Go Go.RowKit Go.Shelf
theorem VH(p:Par)(vm vl:Value)(m:List (List (List Int)))(x:Int)(l:List (List (Int×Int)))(X Y:Nat→Prop)(w:World)(hp:p.ok)(h1:Sl (zh (zh ze)) X w vm m)(hx:U64 x)(h2:Sl (zh zq) Y w vl l)(l0:m.length≤100000)(k0: ∀l∈m,l.length≤100000∧ ∀c∈l,c.length≤100000)(hb:l.length≤1000)(j0: ∀c∈l,c.length≤1000):
  Calls prog 116 #[p.v,vm, .int .u64 x,vl] w fun e w'=>e= .returned (.bool (xu p l (zD p m x)))∧w.grownBy w' none:=by
 obtain ⟨Am,nm,cm,rfl⟩:=h1.shape;obtain ⟨Al,nl,cl,rfl⟩:=h2.shape;obtain ⟨w0,a0⟩:=exq (w.alloc (Obj.cells p.cells 39));have o0:Hid (Bk w0 w.heap.size 39 p.cells):=za (by rw [a0];exact Bk.new w _ _);have n0:Hid (w.grownBy w0 none):=za (by rw [a0];exact gAl w _ none);have g0:Hid (w.grownBy w0.drew none):=za (n0.z.trans (zb w0 1));have f0:Hid (∀W,w0.drew.grownBy W none→ ∀o,W.cell? ⟨w.heap.size,o,none⟩=(#[.int .u64 p.P, .int .u64 p.Q, .int .u64 p.G, .int .u64 p.H, .int .i64 p.Nodes, .int .i64 p.N, .int .i64 p.T, .int .i64 p.K, .int .i64 p.D, .int .i64 p.R, .int .i64 p.M, .int .i64 p.X]:Array Value)[o]?):=za (fun W hW=>(o0.z.grown ((zb w0 1).trans hW) (by simp)).prule);have d0:Hid (∀W,w0.drew.grownBy W none→Calls prog 163 #[p.v, .slice Am nm cm, .int .u64 x] W (zN (zh ze) (fun g=>W.heap.size≤g) W (zD p m x))):=za (fun W hW=>Up p _ m x X W (h1.kept (g0.z.trans hW)) hx l0 k0);have c0:Hid (∀W v,w0.drew.grownBy W none→Sl (zh ze) TT W v (zD p m x)→Calls prog 162 #[p.v, .slice Al nl cl,v] W fun e w'=>e= .returned (.bool (xu p l (zD p m x)))∧W.grownBy w' none):=za (fun W v hW hv=>Pr p _ v l _ Y TT W hp (h2.kept (g0.z.trans hW)) hv hb j0);obtain ⟨R,hR⟩:=exq (zD p m x);rw [←hR] at d0 c0 ⊢;obtain ⟨B,hB⟩:=exq (xu p l R);rw [←hB] at c0 ⊢;clear h1 h2 hp hx l0 k0 hb j0 hR hB;go_enter func116,ntmps116;go_upto_region 1 with (fail)
 rw [←a0];clear a0;refine ZF 7 ?_;refine mQ0 (p.v) (fun w' hw' K hK=> ?_) ?_
 ·have hp:=f0.z w' hw';go_simp;exact hK _ rfl rfl
 refine mP0 (.slice Al nl cl) ?_;refine mQ0 (p.v) (fun w' hw' K hK=> ?_) ?_
 ·have hp:=f0.z w' hw';go_simp;exact hK _ rfl rfl
 refine mP0 (.slice Am nm cm) ?_;refine mP0 (.int .u64 x) ?_;refine mN3 (Pv.sl (zh ze) TT R) 2 11 3 12 4 13 (fun w' hw' K hK=> ?_) ?_
 ·go_simp;refine (d0.z w' hw').mono ?_;rintro e w3 ⟨v3,rfl,h3,hg⟩;exact hK _ _ rfl (h3.more (fun _ _ _=>trivial)) hg
 refine mS (.bool B) [(0,9),(1,10),(5,14)] (fun w' hw'=>pQ (pQ (fun x14 b0=>kD fun K hK=> ?_))) ?_
 ·have b0:Sl (zh ze) TT w' x14 R:=b0;obtain ⟨A14,c14,e14,k14,l14⟩:=b0.form;have e14:x14= .slice A14 R.length c14:=e14;subst e14;go_simp;refine (c0.z w' _ hw' b0).mono ?_;rintro e w3 ⟨rfl,hg⟩;exact hK _ _ rfl rfl hg
 intro w5 i0
 iterate 6 (refine pD ?_;intro _)
 intro y6 k6;have e6:y6= .bool B:=k6;subst e6;have m0:Hid (w.grownBy w5 none):=za (g0.z.trans i0);clear k6 i0 d0 c0 f0;show wpList prog _ _ _ _ w5;simp only [Act.put,sAa,sAb,sAc];go_wp2_with fail;go_ret;exact ⟨rfl,m0.z⟩
theorem Ps(p:Par)(vm vl:Value)(m:List (List (List Int)))(x:Int)(l:List (List (Int×Int)))(X Y:Nat→Prop)(w:World)(hp:p.ok)(h1:Sl (zh (zh ze)) X w vm m)(hx:U64 x)(h2:Sl (zh zq) Y w vl l)(l0:m.length≤100000)(k0: ∀l∈m,l.length≤100000∧ ∀c∈l,c.length≤100000)(hb:l.length≤1000)(j0: ∀c∈l,c.length≤1000):
  Calls prog 117 #[p.v,vm, .int .u64 x,vl] w fun e w'=>e= .returned (.bool (xu p l (yq p m x)))∧w.grownBy w' none:=by
 obtain ⟨Am,nm,cm,rfl⟩:=h1.shape;obtain ⟨Al,nl,cl,rfl⟩:=h2.shape;obtain ⟨w0,a0⟩:=exq (w.alloc (Obj.cells p.cells 39));have o0:Hid (Bk w0 w.heap.size 39 p.cells):=za (by rw [a0];exact Bk.new w _ _);have n0:Hid (w.grownBy w0 none):=za (by rw [a0];exact gAl w _ none);have g0:Hid (w.grownBy w0.drew none):=za (n0.z.trans (zb w0 1));have f0:Hid (∀W,w0.drew.grownBy W none→ ∀o,W.cell? ⟨w.heap.size,o,none⟩=(#[.int .u64 p.P, .int .u64 p.Q, .int .u64 p.G, .int .u64 p.H, .int .i64 p.Nodes, .int .i64 p.N, .int .i64 p.T, .int .i64 p.K, .int .i64 p.D, .int .i64 p.R, .int .i64 p.M, .int .i64 p.X]:Array Value)[o]?):=za (fun W hW=>(o0.z.grown ((zb w0 1).trans hW) (by simp)).prule);have d0:Hid (∀W,w0.drew.grownBy W none→Calls prog 164 #[p.v, .slice Am nm cm, .int .u64 x] W (zN (zh ze) (fun g=>W.heap.size≤g) W (yq p m x))):=za (fun W hW=>OY p _ m x X W (h1.kept (g0.z.trans hW)) hx l0 (fun l hl=>(k0 l hl).1));have c0:Hid (∀W v,w0.drew.grownBy W none→Sl (zh ze) TT W v (yq p m x)→Calls prog 162 #[p.v, .slice Al nl cl,v] W fun e w'=>e= .returned (.bool (xu p l (yq p m x)))∧W.grownBy w' none):=za (fun W v hW hv=>Pr p _ v l _ Y TT W hp (h2.kept (g0.z.trans hW)) hv hb j0);obtain ⟨R,hR⟩:=exq (yq p m x);rw [←hR] at d0 c0 ⊢;obtain ⟨B,hB⟩:=exq (xu p l R);rw [←hB] at c0 ⊢;clear h1 h2 hp hx l0 k0 hb j0 hR hB;go_enter func117,ntmps117;go_upto_region 1 with (fail)
 rw [←a0];clear a0;refine ZF 7 ?_;refine mQ0 (p.v) (fun w' hw' K hK=> ?_) ?_
 ·have hp:=f0.z w' hw';go_simp;exact hK _ rfl rfl
 refine mP0 (.slice Al nl cl) ?_;refine mQ0 (p.v) (fun w' hw' K hK=> ?_) ?_
 ·have hp:=f0.z w' hw';go_simp;exact hK _ rfl rfl
 refine mP0 (.slice Am nm cm) ?_;refine mP0 (.int .u64 x) ?_;refine mN3 (Pv.sl (zh ze) TT R) 2 11 3 12 4 13 (fun w' hw' K hK=> ?_) ?_
 ·go_simp;refine (d0.z w' hw').mono ?_;rintro e w3 ⟨v3,rfl,h3,hg⟩;exact hK _ _ rfl (h3.more (fun _ _ _=>trivial)) hg
 refine mS (.bool B) [(0,9),(1,10),(5,14)] (fun w' hw'=>pQ (pQ (fun x14 b0=>kD fun K hK=> ?_))) ?_
 ·have b0:Sl (zh ze) TT w' x14 R:=b0;obtain ⟨A14,c14,e14,k14,l14⟩:=b0.form;have e14:x14= .slice A14 R.length c14:=e14;subst e14;go_simp;refine (c0.z w' _ hw' b0).mono ?_;rintro e w3 ⟨rfl,hg⟩;exact hK _ _ rfl rfl hg
 intro w5 i0
 iterate 6 (refine pD ?_;intro _)
 intro y6 k6;have e6:y6= .bool B:=k6;subst e6;have m0:Hid (w.grownBy w5 none):=za (g0.z.trans i0);clear k6 i0 d0 c0 f0;show wpList prog _ _ _ _ w5;simp only [Act.put,sAa,sAb,sAc];go_wp2_with fail;go_ret;exact ⟨rfl,m0.z⟩
end
section
open Go Go.RowKit Go.Shelf Go.Maps
abbrev zz(E:zy)(vc vd vo:Value)(gM:Nat)(dn:Bool):Array Value:= #[.int .u64 E.p.P, .int .u64 E.p.Q, .int .u64 E.p.G, .int .u64 E.p.H, .int .i64 E.p.Nodes, .int .i64 E.p.N, .int .i64 E.p.T, .int .i64 E.p.K, .int .i64 E.p.D, .int .i64 E.p.R, .int .i64 E.p.M, .int .i64 E.p.X, .int .i64 E.dealer, .int .i64 E.me,vc,vd,vo, .map (some gM), .bool dn]
structure zy.ok (E:zy):Prop where
 p:E.p.ok
 may:Zv E.p=true
 dealer:1≤E.dealer∧E.dealer≤E.p.N
 me:1≤E.me∧E.me≤E.p.N
 formed:xt E.p E.coms=true
 few:E.coms.length≤100000
structure AvW (X:Nat→Prop) (gA gM nn:Nat) (E:zy) (st:ASt) (W:World):Prop where
 cells: ∃vc vd vo,Bk W gA 125 (zz E vc vd vo gM st.done)∧Sl (zh ze) X W vc E.coms∧Te X W vd st.dealt∧Te X W vo st.own
 heard:zT X W gM nn st.heard
 apart:gA≠gM
section
variable {X Y:Nat→Prop} {gA gM nn:Nat} {E:zy} {st:ASt} {W W':World}
theorem AvW.keep(h:AvW X gA gM nn E st W){row:Option Nat}(hg:W.grownBy W' row)(hX: ∀g,X g→some g≠row)(hA:some gA≠row)(hM:some gM≠row):AvW X gA gM nn E st W':=by
 obtain ⟨⟨vc,vd,vo,h1,h2,h3,h4⟩,h5,h6⟩:=h;exact ⟨⟨vc,vd,vo,h1.grown hg hA,h2.keep hg hX,h3.keep hg hX,h4.keep hg hX⟩,h5.keep hg hX hM,h6⟩
theorem AvW.kept(h:AvW X gA gM nn E st W)(hg:W.grownBy W' none):AvW X gA gM nn E st W':=h.keep hg (fun _ _=>by simp) (by simp) (by simp)
theorem AvW.more(h:AvW X gA gM nn E st W)(hX: ∀g,g< W.heap.size→X g→Y g):AvW Y gA gM nn E st W:=by
 obtain ⟨⟨vc,vd,vo,h1,h2,h3,h4⟩,h5,h6⟩:=h;exact ⟨⟨vc,vd,vo,h1,h2.more hX,h3.more hX,h4.more hX⟩,h5.more hX,h6⟩
theorem AvW.ltA(h:AvW X gA gM nn E st W):gA< W.heap.size:=by
 obtain ⟨vc,vd,vo,h1,_⟩:=h.cells;exact h1.lt
theorem AvW.ltM(h:AvW X gA gM nn E st W):gM< W.heap.size:=h.heard.lt
end
structure zk (gA gM:Nat) (w w':World):Prop where
 os:w'.os=w.os
 tape:w'.tape=w.tape
 output:w'.output=w.output
 size:w.heap.size≤w'.heap.size
 block: ∀i,i< w.heap.size→i≠gA→i≠gM→w'.heap[i]? =w.heap[i]?
theorem zk.of{gA gM:Nat}{w w':World}{row:Option Nat}(h:w.grownBy w' row)(hr:row=none∨row=some gA∨row=some gM):zk gA gM w w':=⟨h.os,h.tape,h.output,h.size,fun i hi h1 h2=>h.block i hi (by
 rcases hr with rfl|rfl|rfl
 ·simp
 ·simpa using h1
 ·simpa using h2)⟩
theorem zk.trans{gA gM:Nat}{a b c:World}(h:zk gA gM a b)(k:zk gA gM b c):zk gA gM a c:=⟨k.os.trans h.os,k.tape.trans h.tape,k.output.trans h.output,nLT h.size k.size,fun i hi h1 h2=>(k.block i (nLl hi h.size) h1 h2).trans (h.block i hi h1 h2)⟩
theorem zk.refl(gA gM:Nat)(a:World):zk gA gM a a:=zk.of (gRr a none) (.inl rfl)
end
section
open Go Go.RowKit Go.Shelf Go.Maps
attribute [local go_sem] Oper.semAt_some
def Pv.bk(n0:Nat)(t:TypeId)(cs:Array Value):Pv:=⟨fun v w=> ∃b,v= .pointer (some ⟨b,0,none⟩)∧n0≤b∧Bk w b t cs,fun ⟨b,h1,h2,h3⟩ hg=>⟨b,h1,h2,h3.grown hg (by simp)⟩⟩
def XV(w:World)(x:zw)(ok:Bool)(e:Ending)(w':World):Prop:= ∃b,e= .returned (.tuple #[.pointer (some ⟨b,0,none⟩), .bool ok])∧zL (fun g=>w.heap.size≤g) w' b x∧w.grownBy w' none
theorem PN(E:zy)(gA gM:Nat)(vc vd vo:Value)(dn:Bool)(v:Value)(l:List Int)(k:Int)(X Y:Nat→Prop)(w:World)(hE:E.ok)(hb:Bk w gA 125 (zz E vc vd vo gM dn))(hc:Sl (zh ze) X w vc E.coms)(h:Sl ze Y w v l)(hl:l.length≤100000)(hk:I64 k):
  Calls prog 115 #[.pointer (some ⟨gA,0,none⟩),v, .int .i64 k] w (XV w (zA E l k).1 (zA E l k).2):=by
 obtain ⟨Ac,nc,cc,rfl⟩:=hc.shape;obtain ⟨Al,nl,cl,rfl⟩:=h.shape;have HE:=za hE;have HC:=za hc;have HB:=za hb;have HO:=za (Gg E.p (.slice Al nl cl) l k Y w h hl hk);have hr:=hb.rule;obtain ⟨_,_,_,n0,m0,_,l0,k0,_⟩:=zx hE.may;have j0:=hE.dealer;have HD:Hid (U64 E.dealer∧E.coms.length≤100000):=za ⟨⟨by omega,by omega⟩,hE.few⟩;have eD:IntKind.u64.wrap E.dealer=E.dealer:=IntWalk.u64_in _ (by omega);clear hE hc hb h hl hk n0 m0 l0 k0 j0;by_cases h0:Uy E.p l.length k=0
 ·obtain ⟨bb,g0⟩:=exq (yx E.p (TD E.p l k) E.coms E.dealer);have o0:=za g0;have i0:Hid ((zA E l k).2=bb):=za (by simp [zA,h0,g0]);rw [h0] at HO;rw [i0.z];clear g0 h0;go_enter func115,ntmps115;go_wp2_with (refine HO.z.mono ?_;rintro e w1 ⟨vm,va,vb,rfl,s1,s2,s3,hg1⟩);obtain ⟨Am,nm,cm,rfl⟩:=s1.shape;obtain ⟨Aa,na,ca,rfl⟩:=s2.shape;obtain ⟨Ab,nb,cb,rfl⟩:=s3.shape;have HG:Hid (w.grownBy w1.drew none):=za (hg1.trans (zb w1 1));have HS:Hid (∀w',w1.drew.grownBy w' none→Sl (zh (zh ze)) (fun g=>w.heap.size≤g) w' (.slice Am nm cm) (TD E.p l k)∧Sl (zh zq) (fun g=>w.heap.size≤g) w' (.slice Aa na ca) (Qb E.p l k)∧Sl (zh zq) (fun g=>w.heap.size≤g) w' (.slice Ab nb cb) (Qa E.p l k)):=za (fun w' hw=>by
   have hg:=(zb w1 1).trans hw;exact ⟨s1.plain2.kept hg,s2.kept hg,s3.kept hg⟩)
  have d0:Hid (∀w',w1.drew.grownBy w' none→(∀o,w'.cell? ⟨gA,o,none⟩=(zz E (.slice Ac nc cc) vd vo gM dn)[o]?)∧Sl (zh ze) X w' (.slice Ac nc cc) E.coms):=za (fun w' hw=>⟨(HB.z.grown (HG.z.trans hw) (by simp)).rule,HC.z.kept (HG.z.trans hw)⟩);clear s1 s2 s3 hg1 HO HB HC hr;go_wp2_with fail;refine ZF 26 ?_;refine mP0 (.slice Am nm cm) ?_;refine mP0 (.slice Aa na ca) ?_;refine mP0 (.slice Ab nb cb) ?_;refine mP3 (.agg #[.slice Am nm cm, .slice Aa na ca, .slice Ab nb cb]) 0 24 1 25 2 26 ?_;refine mN1 (Pv.bk w1.drew.heap.size 146 #[.slice Am nm cm, .slice Aa na ca, .slice Ab nb cb]) 3 27 (fun w' hw' K hK=> ?_) ?_
  ·go_simp;exact hK _ _ rfl ⟨_,rfl,hw'.size,Bk.new w' _ _⟩ (gAl w' _ none)
  refine mP0 (.int .i64 0) ?_;refine mP1 (.bool true) 5 29 ?_;refine mP1 (.bool true) 6 30 ?_;refine ZH (.pointer (some ⟨gA,0,none⟩)) 7 31 ?_;refine yV (.pointer (some ⟨gA,0,none⟩)) 7 31 8 32 ?_;refine yV (.pointer (some ⟨gA,0,none⟩)) 7 31 9 33 ?_;refine YM (E.p.v) 7 31 10 34 (fun w' hw' K hK=> ?_) ?_
  ·have hc:=(d0.z w' hw').1;go_simp;exact hK _ rfl rfl
  refine ZH (.slice Am nm cm) 7 31 ?_;refine ZH (.pointer (some ⟨gA,0,none⟩)) 7 31 ?_;refine yV (.pointer (some ⟨gA,0,none⟩)) 7 31 13 37 ?_;refine yV (.pointer (some ⟨gA,14,none⟩)) 7 31 14 38 ?_;refine YM (.slice Ac nc cc) 7 31 15 39 (fun w' hw' K hK=> ?_) ?_
  ·have hc:=(d0.z w' hw').1;go_simp;exact hK _ rfl rfl
  refine ZH (.pointer (some ⟨gA,0,none⟩)) 7 31 ?_;refine yV (.pointer (some ⟨gA,0,none⟩)) 7 31 17 41 ?_;refine yV (.pointer (some ⟨gA,12,none⟩)) 7 31 18 42 ?_;refine YM (.int .i64 E.dealer) 7 31 19 43 (fun w' hw' K hK=> ?_) ?_
  ·have hc:=(d0.z w' hw').1;go_simp;exact hK _ rfl rfl
  refine yV (.int .u64 E.dealer) 7 31 20 44 ?_;refine Co (Pv.eq (.bool bb)) 7 31 11 35 12 36 16 40 21 45 (fun w' hw' K hK=> ?_) ?_
  ·go_simp;refine (Lw E.p _ _ (TD E.p l k) E.coms E.dealer _ _ w' HE.z.p (HS.z w' hw').1 (d0.z w' hw').2 HD.z.1 HD.z.2).mono ?_;rintro e w3 ⟨rfl,hg⟩;rw [←o0.z];exact hK _ _ rfl rfl hg
  refine mP2 (.bool bb) 7 31 22 46 ?_;refine mV (Pv.bk w1.drew.heap.size 146 #[.slice Am nm cm, .slice Aa na ca, .slice Ab nb cb]) [(4,28)] (fun w' hw' x28 b0=>kD fun K hK=> ?_) ?_
  ·have b0: ∃b,x28= .pointer (some ⟨b,0,none⟩)∧w1.drew.heap.size≤b∧Bk w' b 146 #[.slice Am nm cm, .slice Aa na ca, .slice Ab nb cb]:=b0;obtain ⟨b28,e28,k28,l28⟩:=b0;subst e28;go_simp;exact hK _ _ rfl ⟨b28,rfl,k28,l28⟩ gRf
  refine mP1 (.bool bb) 23 47 ?_;intro w3 a0
  iterate 24 (refine pD ?_;intro _)
  intro y24 k24 y25 k25;obtain ⟨b,e24,kb,c0⟩:=k24;have e25:y25= .bool bb:=k25;subst e24 e25;have HF:Hid (zL (fun g=>w.heap.size≤g) w3 b (zA E l k).1∧w.grownBy w3 none):=za ⟨⟨_,_,_,nLT HG.z.size kb,c0,(HS.z w3 a0).1,(HS.z w3 a0).2.1,(HS.z w3 a0).2.2⟩,HG.z.trans a0⟩;clear k25 a0 kb c0;refine wpList_nil ?_;simp only [Act.put,sAa,sAb,sAc];go_wp2_with fail;go_ret2;exact ⟨b,rfl,HF.z.1,HF.z.2⟩
 ·have i0:Hid ((zA E l k).2=false):=za (by simp [zA,h0]);rw [i0.z];obtain ⟨er,f0⟩:=exq (Uy E.p l.length k);rw [←f0] at HO;have p0:(er==0)=false:=by rw [f0];simpa using h0
  clear h0 f0;go_enter func115,ntmps115;go_wp2_with (refine HO.z.mono ?_;rintro e w1 ⟨vm,va,vb,rfl,s1,s2,s3,hg1⟩);obtain ⟨Am,nm,cm,rfl⟩:=s1.shape;obtain ⟨Aa,na,ca,rfl⟩:=s2.shape;obtain ⟨Ab,nb,cb,rfl⟩:=s3.shape;have HG:Hid (w.grownBy w1.drew none):=za (hg1.trans (zb w1 1));have HS:Hid (∀w',w1.drew.grownBy w' none→Sl (zh (zh ze)) (fun g=>w.heap.size≤g) w' (.slice Am nm cm) (TD E.p l k)∧Sl (zh zq) (fun g=>w.heap.size≤g) w' (.slice Aa na ca) (Qb E.p l k)∧Sl (zh zq) (fun g=>w.heap.size≤g) w' (.slice Ab nb cb) (Qa E.p l k)):=za (fun w' hw=>by
   have hg:=(zb w1 1).trans hw;exact ⟨s1.plain2.kept hg,s2.kept hg,s3.kept hg⟩)
  have d0:Hid (∀w',w1.drew.grownBy w' none→(∀o,w'.cell? ⟨gA,o,none⟩=(zz E (.slice Ac nc cc) vd vo gM dn)[o]?)∧Sl (zh ze) X w' (.slice Ac nc cc) E.coms):=za (fun w' hw=>⟨(HB.z.grown (HG.z.trans hw) (by simp)).rule,HC.z.kept (HG.z.trans hw)⟩);clear s1 s2 s3 hg1 HO HB HC hr;go_wp2_with fail;refine ZF 26 ?_;refine mP0 (.slice Am nm cm) ?_;refine mP0 (.slice Aa na ca) ?_;refine mP0 (.slice Ab nb cb) ?_;refine mP3 (.agg #[.slice Am nm cm, .slice Aa na ca, .slice Ab nb cb]) 0 24 1 25 2 26 ?_;refine mN1 (Pv.bk w1.drew.heap.size 146 #[.slice Am nm cm, .slice Aa na ca, .slice Ab nb cb]) 3 27 (fun w' hw' K hK=> ?_) ?_
  ·go_simp;exact hK _ _ rfl ⟨_,rfl,hw'.size,Bk.new w' _ _⟩ (gAl w' _ none)
  refine mP0 (.int .i64 er) ?_;refine mP1 (.bool false) 5 29 ?_;refine mP1 (.bool false) 6 30 ?_;refine mS (undef) [(7,31)] (fun w' hw'=>pQ (zc rfl rfl rfl)) ?_;refine mS (undef) [(7,31),(8,32)] (fun w' hw'=>pQ (pQ (zc rfl rfl rfl))) ?_;refine mS (undef) [(7,31),(9,33)] (fun w' hw'=>pQ (pQ (zc rfl rfl rfl))) ?_;refine mS (undef) [(7,31),(10,34)] (fun w' hw'=>pQ (pQ (zc rfl rfl rfl))) ?_;refine mS (undef) [(7,31)] (fun w' hw'=>pQ (zc rfl rfl rfl)) ?_;refine mS (undef) [(7,31)] (fun w' hw'=>pQ (zc rfl rfl rfl)) ?_;refine mS (undef) [(7,31),(13,37)] (fun w' hw'=>pQ (pQ (zc rfl rfl rfl))) ?_;refine mS (undef) [(7,31),(14,38)] (fun w' hw'=>pQ (pQ (zc rfl rfl rfl))) ?_;refine mS (undef) [(7,31),(15,39)] (fun w' hw'=>pQ (pQ (zc rfl rfl rfl))) ?_;refine mS (undef) [(7,31)] (fun w' hw'=>pQ (zc rfl rfl rfl)) ?_;refine mS (undef) [(7,31),(17,41)] (fun w' hw'=>pQ (pQ (zc rfl rfl rfl))) ?_;refine mS (undef) [(7,31),(18,42)] (fun w' hw'=>pQ (pQ (zc rfl rfl rfl))) ?_;refine mS (undef) [(7,31),(19,43)] (fun w' hw'=>pQ (pQ (zc rfl rfl rfl))) ?_;refine mS (undef) [(7,31),(20,44)] (fun w' hw'=>pQ (pQ (zc rfl rfl rfl))) ?_;refine mS (undef) [(7,31),(11,35),(12,36),(16,40),(21,45)] (fun w' hw'=>pQ (pQ (pQ (pQ (pQ (zc rfl rfl rfl)))))) ?_;refine mP2 (.bool false) 7 31 22 46 ?_;refine mV (Pv.bk w1.drew.heap.size 146 #[.slice Am nm cm, .slice Aa na ca, .slice Ab nb cb]) [(4,28)] (fun w' hw' x28 b0=>kD fun K hK=> ?_) ?_
  ·have b0: ∃b,x28= .pointer (some ⟨b,0,none⟩)∧w1.drew.heap.size≤b∧Bk w' b 146 #[.slice Am nm cm, .slice Aa na ca, .slice Ab nb cb]:=b0;obtain ⟨b28,e28,k28,l28⟩:=b0;subst e28;go_simp;exact hK _ _ rfl ⟨b28,rfl,k28,l28⟩ gRf
  refine mP1 (.bool false) 23 47 ?_;intro w3 a0
  iterate 24 (refine pD ?_;intro _)
  intro y24 k24 y25 k25;obtain ⟨b,e24,kb,c0⟩:=k24;have e25:y25= .bool false:=k25;subst e24 e25;have HF:Hid (zL (fun g=>w.heap.size≤g) w3 b (zA E l k).1∧w.grownBy w3 none):=za ⟨⟨_,_,_,nLT HG.z.size kb,c0,(HS.z w3 a0).1,(HS.z w3 a0).2.1,(HS.z w3 a0).2.2⟩,HG.z.trans a0⟩;clear k25 a0 kb c0;refine wpList_nil ?_;simp only [Act.put,sAa,sAb,sAc];go_wp2_with fail;go_ret2;exact ⟨b,rfl,HF.z.1,HF.z.2⟩
end
section
open Go Go.RowKit Go.Shelf Go.Maps
theorem ZO(v:Value)(ls:List (List (Int×Int)))(X:Nat→Prop)(w:World)(h:Sl (zh zq) X w v ls)(m0: ∀x∈ls,x≠ [])(hb:ls.length≤100000):
  Calls prog 168 #[v] w (zN zq (fun g=>w.heap.size≤g) w (zv ls)):=by
 have H:=za h;have HS:Hid (∀x∈ls,0< x.length):=za (fun x hx=>List.length_pos_iff.2 (m0 x hx));have HB:=za hb;obtain ⟨A,c,rfl,B0,A0⟩:=h.form;clear h hb m0;unfold zv;go_enter func168,ntmps168;go_wp2_with fail;go_loopg [3,8] ls.length (fun g s3 s8 wx=> ∃j:Nat,j+g=ls.length∧s8= .int .i64 j∧Hid (Acc zq w.heap.size 153 (fun g=>w.heap.size≤g) wx s3 ((ls.take j).map fun c=>c.headD (0,0))∧w.grownBy wx none))
 case atStart=>exact ⟨0,by omega,rfl,za ⟨Acc.nil _ _ _ _ _,gRf⟩⟩
 case round=>
  obtain ⟨j,hj,rfl,HX⟩:=hrel;cases gk with
  |zero=>
   obtain rfl:j=ls.length:=by omega
   have HR:Hid (Sl zq (fun g=>w.heap.size≤g) wr u3 (ls.map fun c=>c.headD (0,0))∧w.grownBy wr none):=za ⟨by have:=HX.z.1.sl;rwa [List.take_length] at this,HX.z.2⟩;clear HX;go_wp2;go_ret;exact ⟨_,rfl,HR.z.1,HR.z.2⟩
  |succ m=>
   have u0:(j:Int)< (ls.length:Int):=by omega
   have g0:j< ls.length:=by omega
   obtain ⟨c0,hg⟩:=HX.z;obtain ⟨g,o,c',u,e,_,_,b0,d0⟩:=H.out.atS g0;injection e with e1 e2 e3
   subst e1 e3;have v0:wr.cell? ⟨g,o+j,none⟩=some u:=cell_kept b0 hg (by simp);have f0:0< ls[j].length:=HS.z _ (lGm g0);have o0:(0:Int)< (ls[j].length:Int):=by omega
   obtain ⟨A1,c1,e1,z0,y0⟩:=d0.form;subst e1;obtain ⟨g2,o2,c2,e2,_,_,q0,i0,l0⟩:=(d0.kept hg).atP f0;injection e2 with e21 e22 e23
   subst e21 e23;rw [Nat.zero_mul,Nat.add_zero] at q0 i0;have j0:Hid (zq.rep (fun g=>(fun g=>w.heap.size≤g) g∧some g≠u3.ownBlock) wr [.int .u64 ls[j][0].1, .int .u64 ls[j][0].2] ls[j][0]):=za ⟨rfl,l0⟩;have r0:Hid ((ls.take (j+1)).map (fun c=>c.headD (0,0))=(ls.take j).map (fun c=>c.headD (0,0))++ [ls[j][0]]):=za (by
    rw [tSg g0,lMa];have e:(ls[j]).headD (0,0)=ls[j][0]:=by
     generalize ls[j]=z at f0;cases z with
     |nil=>simp at f0
     |cons a b=>rfl
    rw [List.map_cons,List.map_nil,e])
   have t0:=za c0;have HG:=za hg;have s0:Hid ((((ls.take j).map fun c=>c.headD (0,0)).length+1)*16≤140737488355328):=za (by have:=HB.z;simp;omega);clear c0 hg d0 HX b0 l0 e2;generalize ls[j][0]=y at *;generalize ls[j].length=n1 at *;go_wp2_with (at_builtin;refine zF rfl (.tmp 12) (.tmp 16) rfl (E:=zq) Xd HG.z t0.z (fun _ h=>h) j0.z s0.z rfl rfl ?_);intro v2 w2 a0 n0 p0;have k0:Hid (Acc zq w.heap.size 153 (fun g=>w.heap.size≤g) w2 v2 ((ls.take (j+1)).map fun c=>c.headD (0,0))∧w.grownBy w2 none):=za ⟨by rw [r0.z];simpa using a0,n0⟩;clear a0 n0 p0;go_wp2_with fail;go_roundg m
   case measure=>omega
   case rel=>exact ⟨j+1,by omega,by go_num,k0⟩
theorem CC{X:Nat→Prop}{w:World}{v:Value}{l:List Int}(h:Sl ze X w v l):AH w v l:=by
 obtain ⟨A,c,rfl,h1,h2⟩:=h.form;refine ⟨A,c,rfl,fun hn=> ?_,h1,h2⟩;have hl:0< l.length:=by
  rw [Nat.pos_iff_ne_zero];intro e;exact hn (by rw [List.eq_nil_of_length_eq_zero e];rfl)
 obtain ⟨g,o,c',e,hg,_,_,_⟩:=h.atU hl;injection e with e1 _ _
 subst e1;refine ⟨g,o,rfl,hg,fun j u hj=> ?_⟩;have hjl:j< l.length:=by
  have:=(List.getElem?_eq_some_iff.1 hj).1
  simpa [nums] using this
 obtain ⟨g',o',_,e,_,_,hcu,_⟩:=h.atU hjl;injection e with e1 _ _
 injection e1 with e1
 injection e1 with e2 e3
 subst e2 e3;rw [hcu, ←hj];simp [nums,hjl]
theorem CE{Y:Nat→Prop}{w:World}{l:List Int}{A:Option Addr}{c:Nat}(h:Rd w A (nums l))(hu: ∀x∈l,U64 x)(h1:l.length≤c)(h2:c≤9223372036854775807)(hY: ∀g o,A=some ⟨g,o,none⟩→Y g):Sl ze Y w (.slice A l.length c) l:=by
 refine ⟨A,c,rfl,h1,h2,fun hn=> ?_⟩;obtain ⟨g,o,e,hg,hr⟩:=h (by intro e;apply hn;cases l with|nil=>rfl|cons x l=>simp [nums] at e);refine ⟨g,o,e,hg,hY g o e,fun i hi=>⟨[.int .u64 l[i]],⟨rfl,hu _ (lGm hi)⟩,fun j u hj=> ?_⟩⟩;have h0:j=0:=by
  have:=(List.getElem?_eq_some_iff.1 hj).1
  simp at this;exact this
 subst h0;simp at hj;subst hj
 have:=hr i (.int .u64 l[i]) (by simp [nums,hi])
 simpa [ze] using this
theorem Ky{X:Nat→Prop}{w:World}{v:Value}{l:List Int}(h:Sl ze X w v l): ∀x∈l,U64 x:=fun x hx=>by
 obtain ⟨i,hi,rfl⟩:=List.getElem_of_mem hx;obtain ⟨_,_,_,_,_,_,_,hu⟩:=h.atU hi;exact hu
theorem GU(v:Value)(l:List Int)(X:Nat→Prop)(w:World)(h:Sl ze X w v l)(hn:l.length≤1000000):Calls prog 106 #[v] w (zN ze (fun g=>w.heap.size≤g) w l):=
 (If v l w (CC h) (by omega)).mono fun e w' ⟨A,c,he,hr,h1,h2,h3,hg⟩=>⟨_,he,CE hr (Ky h) h1 h2 (fun g o e=>(h3 g o e).1),hg⟩
theorem TQ(v:Value)(ls:List (List Int))(X:Nat→Prop)(w:World)(h:Sl (zh ze) X w v ls)(hb:ls.length≤100000)(m0: ∀x∈ls,x.length≤1000000):
  Calls prog 47 #[v] w (zN (zh ze) (fun g=>w.heap.size≤g) w ls):=by
 have H:=za h;have HS:=za m0;have HB:=za hb;obtain ⟨A,c,rfl,z0,y0⟩:=h.form;clear h hb m0;go_enter func47,ntmps47;go_wp2_with fail;go_loopg [3,8] ls.length (fun g s3 s8 wx=> ∃j:Nat,j+g=ls.length∧s8= .int .i64 j∧Hid (Acc (zh ze) w.heap.size 31 (fun g=>w.heap.size≤g) wx s3 (ls.take j)∧w.grownBy wx none))
 case atStart=>exact ⟨0,by omega,rfl,za ⟨Acc.nil _ _ _ _ _,gRf⟩⟩
 case round=>
  obtain ⟨j,hj,rfl,HX⟩:=hrel;cases gk with
  |zero=>
   obtain rfl:j=ls.length:=by omega
   have HR:Hid (Sl (zh ze) (fun g=>w.heap.size≤g) wr u3 ls∧w.grownBy wr none):=za ⟨by have:=HX.z.1.sl;rwa [List.take_length] at this,HX.z.2⟩;clear HX;go_wp2;go_ret;exact ⟨_,rfl,HR.z.1,HR.z.2⟩
  |succ m=>
   have s0:(j:Int)< (ls.length:Int):=by omega
   have f0:j< ls.length:=by omega
   obtain ⟨c0,hg⟩:=HX.z;obtain ⟨g,o,c',u,e,_,_,b0,d0⟩:=H.out.atS f0;injection e with e1 e2 e3
   subst e1 e3;have t0:wr.cell? ⟨g,o+j,none⟩=some u:=cell_kept b0 hg (by simp);have n0:=za (GU u ls[j] X wr (d0.kept hg) (HS.z _ (lGm f0)));obtain ⟨A1,c1,e1,v0,u0⟩:=d0.form;subst e1;have p0:Hid (ls.take (j+1)=ls.take j++ [ls[j]]):=za (tSg f0);have k0:=za c0;have HG:=za hg;have q0:Hid (((ls.take j).length+1)*24≤140737488355328):=za (by have:=HB.z;simp;omega);clear c0 hg d0 HX b0 e2;generalize ls[j]=y at *;go_wp2_with fail;refine n0.z.mono ?_;rintro e w2 ⟨v2,rfl,hs2,hg2⟩;obtain ⟨A2,n2,c2,rfl⟩:=hs2.shape;have j0:=za (k0.z.kept hg2);have r0:=za (HG.z.trans hg2);have g0:Hid ((zh ze).rep (fun g=>(fun g=>w.heap.size≤g) g∧some g≠u3.ownBlock) w2 [.slice A2 n2 c2] y):=za ⟨_,rfl,hs2.more fun g _ hg=>⟨nLT HG.z.size hg,fun e=>absurd hg (Nat.not_le_of_lt (k0.z.lt g e.symm).2)⟩⟩;clear hs2 hg2 n0 k0 HG;go_wp2_with (at_builtin;refine zF rfl (.tmp 12) (.tmp 15) rfl (E:=zh ze) Zo r0.z j0.z (fun _ h=>h) g0.z q0.z rfl rfl ?_);intro v3 w3 a0 l0 o0;have i0:Hid (Acc (zh ze) w.heap.size 31 (fun g=>w.heap.size≤g) w3 v3 (ls.take (j+1))∧w.grownBy w3 none):=za ⟨by rw [p0.z];simpa using a0,l0⟩;clear a0 l0 o0;go_wp2_with fail;go_roundg m
   case measure=>omega
   case rel=>exact ⟨j+1,by omega,by go_num,i0⟩
end
section
open Go
theorem NX{α:Type}{n k:Nat}{l c:List α}(hl:k*n≤l.length)(h:c∈chk n l k):c.length=n∧ ∀x∈c,x∈l:=by
 obtain ⟨j,hj,rfl⟩:=List.mem_map.1 h;have hj':j< k:=by simpa using hj
 have:(j+1)*n≤k*n:=Nat.mul_le_mul_right n hj'
 rw [Nat.add_mul,Nat.one_mul] at this;refine ⟨by rw [lLt,List.length_drop];omega,fun x hx=> ?_⟩;exact List.mem_of_mem_drop (mMt hx)
structure ZE (s t k:Nat) (x:zw):Prop where
 m:x.m.length=s∧ ∀f∈x.m,f.length=t∧ ∀r∈f,r.length=t
 a:x.a.length=s∧ ∀c∈x.a,c.length=k
 b:x.b.length=s∧ ∀c∈x.b,c.length=k
theorem Vg{p:Par}{l:List Int}{k:Int}(h:Uy p l.length k=0):ZE (xY p).toNat (p.T+1).toNat k.toNat ⟨TD p l k,Qb p l k,Qa p l k⟩∧0≤k∧k≤3∧(xY p).toNat≤10∧(p.T+1).toNat≤3∧0≤xY p∧0≤p.T:=by
 have h':=h;unfold Uy at h';split at h'
 ·rename_i hs;split at h'
  ·rename_i hn;obtain ⟨hsm,k0,k3⟩:=hs;obtain ⟨q,t,hq,ht,q1,t1,t2⟩:=KB hsm;obtain ⟨kk,rfl⟩:=Int.eq_ofNat_of_zero_le k0;have hq':(xY p).toNat=q:=by omega
   have ht':(p.T+1).toNat=t:=by omega
   have hlen:l.length=q*t*t+2*(2*q*kk):=by
    rw [hq,ht] at hn;have e1:(q:Int)*(t:Int)*(t:Int)=((q*t*t:Nat):Int):=by simp
    have e2:2*(q:Int)*(kk:Int)=((2*q*kk:Nat):Int):=by simp
    rw [e1,e2] at hn;omega
   refine ⟨?_,k0,k3,by omega,by omega,by omega,by omega⟩;have e0:q*(q*t)≤q*(q*t):=nRf _;have hM:TD p l kk=chk t (chk t (l.take (q*t*t)) (q*t)) q:=by simp only [TD,h,if_true,hq',ht']
   have hA:Qb p l kk=chk kk (Nz ((l.drop (q*t*t)).take (2*q*kk)) (q*kk)) q:=by simp only [Qb,h,if_true,hq',ht',Int.toNat_natCast]
   have hB:Qa p l kk=chk kk (Nz (l.drop (q*t*t+2*q*kk)) (q*kk)) q:=by simp only [Qa,h,if_true,hq',ht',Int.toNat_natCast]
   rw [hq',ht',Int.toNat_natCast,hM,hA,hB];refine ⟨⟨zI _ _ _,fun f hf=> ?_⟩,⟨zI _ _ _,fun c hc=> ?_⟩,⟨zI _ _ _,fun c hc=> ?_⟩⟩
   ·have h1:=NX (by rw [zI];exact nRf _) hf;refine ⟨h1.1,fun r hr=> ?_⟩;exact (NX (by rw [lLt,hlen];omega) (h1.2 r hr)).1
   ·exact (NX (by rw [yv];exact nRf _) hc).1
   ·exact (NX (by rw [yv];exact nRf _) hc).1
  ·omega
 ·omega
end
section
open Go Go.RowKit Go.Shelf Go.Maps
def U8(k:Int):Prop:=0≤k∧k< 256
def xZ:Enc yE where
 size:=3
 pos:=by decide
 rep:=fun X w cs d=> ∃v,cs= [.int .u8 d.1, .int .i64 d.2.1,v]∧U8 d.1∧I64 d.2.1∧Sl ze X w v d.2.2
 len:=fun h=>by obtain ⟨v,rfl,_⟩:=h;rfl
 ones:=fun h u hu=>by
  obtain ⟨v,rfl,_,_,A,c,rfl,_⟩:=h;simp at hu;rcases hu with rfl|rfl|rfl<;>rfl
 keep:=fun h hg hX=>by obtain ⟨v,e,i,j,h⟩:=h;exact ⟨v,e,i,j,h.keep hg hX⟩
 more:=fun h hX=>by obtain ⟨v,e,i,j,h⟩:=h;exact ⟨v,e,i,j,h.more hX⟩
 keepc:=fun h hg hr=>by obtain ⟨v,e,i,j,h⟩:=h;exact ⟨v,e,i,j,h.keepc hg hr⟩
theorem Sl.atO{X:Nat→Prop}{w:World}{v:Value}{xs:List yE}(h:Sl xZ X w v xs){k:Nat}(hk:k< xs.length):
  ∃g o c u,v= .slice (some ⟨g,o,none⟩) xs.length c∧g< w.heap.size∧X g∧(w.cell? ⟨g,o+k*3,none⟩=some (.int .u8 xs[k].1)∧w.cell? ⟨g,o+k*3+1,none⟩=some (.int .i64 xs[k].2.1)∧w.cell? ⟨g,o+k*3+2,none⟩=some u)∧U8 xs[k].1∧I64 xs[k].2.1∧Sl ze X w u xs[k].2.2:=by
 obtain ⟨g,o,c,cs,e,hg,hX,⟨u,rfl,hi,hj,hu⟩,hc⟩:=h.at hk;exact ⟨g,o,c,u,e,hg,hX,⟨hc 0 _ rfl,hc 1 _ rfl,hc 2 _ rfl⟩,hi,hj,hu⟩
def Yg:Enc (Int×List Int) where
 size:=2
 pos:=by decide
 rep:=fun X w cs d=> ∃v,cs= [.int .i64 d.1,v]∧I64 d.1∧Sl ze X w v d.2
 len:=fun h=>by obtain ⟨v,rfl,_⟩:=h;rfl
 ones:=fun h u hu=>by
  obtain ⟨v,rfl,_,A,c,rfl,_⟩:=h;simp at hu;rcases hu with rfl|rfl<;>rfl
 keep:=fun h hg hX=>by obtain ⟨v,e,i,h⟩:=h;exact ⟨v,e,i,h.keep hg hX⟩
 more:=fun h hX=>by obtain ⟨v,e,i,h⟩:=h;exact ⟨v,e,i,h.more hX⟩
 keepc:=fun h hg hr=>by obtain ⟨v,e,i,h⟩:=h;exact ⟨v,e,i,h.keepc hg hr⟩
theorem Sl.atT{X:Nat→Prop}{w:World}{v:Value}{xs:List (Int×List Int)}(h:Sl Yg X w v xs){k:Nat}(hk:k< xs.length):
  ∃g o c u,v= .slice (some ⟨g,o,none⟩) xs.length c∧g< w.heap.size∧X g∧w.cell? ⟨g,o+k*2,none⟩=some (.int .i64 xs[k].1)∧w.cell? ⟨g,o+k*2+1,none⟩=some u∧I64 xs[k].1∧Sl ze X w u xs[k].2:=by
 obtain ⟨g,o,c,cs,e,hg,hX,⟨u,rfl,hi,hu⟩,hc⟩:=h.at hk;exact ⟨g,o,c,u,e,hg,hX,hc 0 _ rfl,hc 1 _ rfl,hi,hu⟩
def Oc:Enc (Int×Int) where
 size:=2
 pos:=by decide
 rep:=fun _ _ cs x=>cs= [.int .u8 x.1, .int .i64 x.2]∧U8 x.1∧I64 x.2
 len:=fun h=>by rw [h.1];rfl
 ones:=fun h u hu=>by rw [h.1] at hu;simp at hu;rcases hu with rfl|rfl<;>rfl
 keep:=fun h _ _=>h
 more:=fun h _=>h
 keepc:=fun h _ _=>h
theorem Sl.atL{X:Nat→Prop}{w:World}{v:Value}{xs:List (Int×Int)}(h:Sl Oc X w v xs){k:Nat}(hk:k< xs.length):
  ∃g o c,v= .slice (some ⟨g,o,none⟩) xs.length c∧g< w.heap.size∧X g∧w.cell? ⟨g,o+k*2,none⟩=some (.int .u8 xs[k].1)∧w.cell? ⟨g,o+k*2+1,none⟩=some (.int .i64 xs[k].2)∧U8 xs[k].1∧I64 xs[k].2:=by
 obtain ⟨g,o,c,cs,e,hg,hX,⟨rfl,hu⟩,hc⟩:=h.at hk;exact ⟨g,o,c,e,hg,hX,hc 0 _ rfl,hc 1 _ rfl,hu⟩
theorem La:(Tryz.prog.info? 133).map (fun i=>(i.zero,i.size,i.bytes))=some (some (.agg #[.int .u8 0, .int .i64 0]),2,16):=by kernel_rfl
theorem GH:zM prog 193 133 2 16:=zM.mk' (by decide) Tryz.underlying193 La rfl
theorem Jw:(Tryz.prog.info? 71).map (fun i=>(i.zero,i.size,i.bytes))=some (some (.agg #[.int .u8 0, .int .i64 0, .slice none 0 0]),3,40):=by kernel_rfl
theorem OQ:zM prog 63 71 3 40:=zM.mk' (by decide) Tryz.underlying63 Jw rfl
theorem Jv:(Tryz.prog.info? 96).map (fun i=>(i.zero,i.size,i.bytes))=some (some (.agg #[.int .i64 0, .slice none 0 0]),2,32):=by kernel_rfl
theorem ED:zM prog 80 96 2 32:=zM.mk' (by decide) Tryz.underlying80 Jv rfl
theorem zk.split{gA gM:Nat}{w w':World}(h:zk gA gM w w'): ∃u,w.grownBy u (some gM)∧u.grownBy w' (some gA):=by
 by_cases hA:gA< w.heap.size
 ·refine ⟨{w' with heap:=w'.heap.setIfInBounds gA (w.heap[gA])},⟨h.os,h.tape,h.output, ?_,fun i hi hr=> ?_⟩,⟨rfl,rfl,rfl, ?_,fun i hi hr=> ?_⟩⟩
  ·simpa using h.size
  ·have hm:i≠gM:=fun e=>hr (by rw [e])
   have:=h.size
   by_cases e:i=gA
   ·subst e;simp only [Array.getElem?_setIfInBounds_self_of_lt (show i< w'.heap.size by omega),Array.getElem?_eq_getElem hA]
   ·simp only [Array.getElem?_setIfInBounds_ne (Ne.symm e)];exact h.block i hi e hm
  ·simp
  ·have e:i≠gA:=fun e=>hr (by rw [e])
   simp only [Array.getElem?_setIfInBounds_ne (Ne.symm e)]
 ·exact ⟨w',⟨h.os,h.tape,h.output,h.size,fun i hi hr=>h.block i hi (by omega) (fun e=>hr (by rw [e]))⟩,gRr _ _⟩
theorem Sl.keep2{α:Type}{E:Enc α}{X:Nat→Prop}{w w':World}{v:Value}{xs:List α}{gA gM:Nat}(h:Sl E X w v xs)(hg:zk gA gM w w')(hA: ¬X gA)(hM: ¬X gM):Sl E X w' v xs:=by
 obtain ⟨u,h1,h2⟩:=hg.split;exact (h.keep h1 (fun g hg e=>hM (by injection e with e;rwa [←e]))).keep h2 (fun g hg e=>hA (by injection e with e;rwa [←e]))
theorem AvW.keep2{X:Nat→Prop}{gA gM nn hA hM:Nat}{E:zy}{st:ASt}{w w':World}(h:AvW X gA gM nn E st w)(hg:zk hA hM w w')(h1: ¬X hA)(h2: ¬X hM)(n1:gA≠hA∧gA≠hM)(n2:gM≠hA∧gM≠hM):AvW X gA gM nn E st w':=by
 obtain ⟨u,k1,k2⟩:=hg.split;exact (h.keep k1 (fun g hg e=>h2 (by injection e with e;rwa [←e])) (fun e=>n1.2 (by injection e)) (fun e=>n2.2 (by injection e))).keep k2 (fun g hg e=>h1 (by injection e with e;rwa [←e])) (fun e=>n1.1 (by injection e)) (fun e=>n2.1 (by injection e))
structure yP (x:zw):Prop where
 m:x.m.length≤10∧ ∀f∈x.m,f.length≤3∧ ∀r∈f,1≤r.length∧r.length≤3
 a:x.a.length≤10∧ ∀c∈x.a,c.length≤3
 b:x.b.length≤10∧ ∀c∈x.b,c.length≤3
structure XU (s:Nat) (x:zw):Prop where
 le:yP x
 a:x.a.length=s∧ ∀c∈x.a,c≠ []
 b:x.b.length=s∧ ∀c∈x.b,c≠ []
structure yI (E:zy) (st:ASt):Prop where
 heard: ∀k i x,st.heard k i=some x→XU E.coms.length x
 dealt: ∀x,st.dealt=some x→yP x
 own: ∀x,st.own=some x→yP x
theorem Dy{p:Par}(h:Zv p=true):zU p=xY p∧0≤xY p∧xY p≤10∧1≤p.T∧p.T≤2:=by
 obtain ⟨_,_,_,hN1,hN2,_,hT1,hT2,_,hs,hK,hD⟩:=zx h;simp only [Qs,decide_eq_true_eq] at hs;have hd:Zp p=true:=(xe p).2 ⟨by omega,by omega,by omega,by omega,by omega,by omega⟩;have hb:=Nu hd;refine ⟨?_,hb.1,hb.2,hT1,hT2⟩;have hk:p.K=1∨p.K=2:=by omega
 have hd':p.D=1∨p.D=2∨p.D=3∨p.D=4:=by omega
 unfold zU xY;rcases hk with hk|hk<;>rcases hd' with hd'|hd'|hd'|hd'<;>rw [hk,hd']<;>decide+kernel
theorem Zh{p:Par}{coms:List (List Int)}(hm:Zv p=true)(hf:xt p coms=true):coms.length=(xY p).toNat∧coms.length≤10∧ ∀x∈coms,x.length≤3:=by
 obtain ⟨e1,h0,h10,hT1,hT2⟩:=Dy hm;have e2:IntKind.i64.wrap (p.T+1)=p.T+1:=i6n _ (by omega);unfold xt LR at hf;rw [e1,e2] at hf;simp only [Bool.and_eq_true,decide_eq_true_eq,Bool.not_eq_true',List.any_eq_false,yB,Bool.or_eq_true,not_or] at hf;refine ⟨by omega,by omega,fun x hx=> ?_⟩
 have:=(hf.2 x hx).1
 omega
theorem VU{E:zy}(hE:E.ok):E.coms.length=(xY E.p).toNat∧E.coms.length≤10:=⟨(Zh hE.may hE.formed).1,(Zh hE.may hE.formed).2.1⟩
theorem Rt{E:zy}{l:List Int}{k:Int}(h:(zA E l k).2=true):ZE (xY E.p).toNat (E.p.T+1).toNat k.toNat (zA E l k).1∧0≤k∧k≤3∧(xY E.p).toNat≤10∧(E.p.T+1).toNat≤3∧0≤E.p.T:=by
 simp only [zA,Bool.and_eq_true,decide_eq_true_eq] at h;obtain ⟨h1,h2,h3,h4,h5,_,h6⟩:=Vg h.1;exact ⟨h1,h2,h3,h4,h5,h6⟩
theorem ZE.le{s t k:Nat}{x:zw}(h:ZE s t k x)(hs:s≤10)(ht:1≤t∧t≤3)(hk:k≤3):yP x:=⟨⟨by rw [h.m.1];exact hs,fun f hf=>⟨by rw [(h.m.2 f hf).1];exact ht.2,fun r hr=>by rw [(h.m.2 f hf).2 r hr];exact ht⟩⟩,⟨by rw [h.a.1];exact hs,fun c hc=>by rw [h.a.2 c hc];exact hk⟩,⟨by rw [h.b.1];exact hs,fun c hc=>by rw [h.b.2 c hc];exact hk⟩⟩
theorem Zx{E:zy}{l:List Int}(h:(zu E l).2=true):yP (zu E l).1:=by
 simp only [zu,Bool.and_eq_true] at h;obtain ⟨h1,h2,h3,h4,h5,h6⟩:=Rt h.1.1;exact h1.le h4 ⟨by omega,h5⟩ (by omega)
theorem Ut{E:zy}(hE:E.ok){i:Int}{l:List Int}(h:(zi E i l).2=true):XU E.coms.length (zi E i l).1:=by
 simp only [zi,Bool.and_eq_true] at h;obtain ⟨h1,h2,h3,h4,h5,h6⟩:=Rt h.1.1;have hs:=VU hE;refine ⟨h1.le h4 ⟨by omega,h5⟩ (by decide),⟨by rw [hs.1];exact h1.a.1,fun c hc=> ?_⟩,⟨by rw [hs.1];exact h1.b.1,fun c hc=> ?_⟩⟩
 ·have:=h1.a.2 c hc
  intro e;rw [e] at this;simp at this
 ·have:=h1.b.2 c hc
  intro e;rw [e] at this;simp at this
theorem YV(q:Int)(xs ys:List Int):(Xn q xs ys).length≤xs.length:=by
 unfold Xn;split
 ·rename_i h;by_cases hq:zO q=true
  ·have:=Vx hq xs ys xs.length
   omega
  ·unfold Mt at h;simp [hq] at h
 ·simp
theorem Tr{E:zy}(hE:E.ok)(s:ASt)(bs:List (Int×Int))(one:zw→List (Int×Int))(hb:bs.length≤3):(zS E s bs one).length≤10∧ ∀c∈zS E s bs one,c.length≤3:=by
 unfold zS VS;refine ⟨by simpa using (VU hE).2,fun c hc=> ?_⟩;obtain ⟨j,_,rfl⟩:=List.mem_map.1 hc;rw [List.length_zip]
 have:=YV E.p.Q (bs.map (·.2)) ((bs.map fun h=>xy s h one).map fun l=>(l[j]?.getD (0,0)).1)
 rw [lLm] at this;omega
theorem NL{E:zy}(hE:E.ok){s:ASt}(hs:yI E s)(m:List (List (List Int)))(hm:m.length≤10∧ ∀f∈m,f.length≤3∧ ∀r∈f,1≤r.length∧r.length≤3)(bs:List (Int×Int)):yP (yk E s m bs):=by
 obtain ⟨_,_,_,hN1,hN2,_,hT1,hT2,_⟩:=zx hE.may;have hl:(bs.take (E.p.T+1).toNat).length≤3:=by rw [lLt];omega
 have ht:yP ⟨m,zS E s (bs.take (E.p.T+1).toNat) (fun x=>zv x.b),zS E s (bs.take (E.p.T+1).toNat) (fun x=>zv x.a)⟩:=⟨hm,Tr hE s _ _ hl,Tr hE s _ _ hl⟩;unfold yk;cases hd:s.dealt with
 |none=>exact ht
 |some d=>
  dsimp only;split
  ·exact hs.dealt d hd
  ·exact ht
theorem yI.put{E:zy}{s:ASt}(h:yI E s)(k i:Int){x:zw}(hx:XU E.coms.length x):yI E (s.put k i x):=⟨fun k' i' y hy=>by
 unfold ASt.put at hy;dsimp only at hy;split at hy
 ·injection hy with hy
  subst hy;exact hx
 ·exact h.heard k' i' y hy,h.dealt,h.own⟩
theorem yI.ofEnd{E:zy}{s:ASt}(h:yI E s)(out:List yE):yI E (yg E s out).1:=by
 unfold yg;split
 ·split
  ·exact ⟨h.heard,h.dealt,h.own⟩
  ·exact h
 ·exact h
theorem yI.hear{E:zy}(hE:E.ok){tell:ASt→zw→ASt×List yE}(ht: ∀s x,yI E s→yP x→yI E (tell s x).1){s:ASt}(h:yI E s)(k i:Int)(l:List Int):yI E (yL E tell s k i l).1:=by
 unfold yL;split
 ·exact h
 ·rename_i hn;have hp:(zi E i l).2=true:=by
   simp only [not_or,Bool.not_eq_false] at hn;exact hn.2.2.2
  have hx:=Ut hE hp;have h1:=h.put k i hx;dsimp only;split
  ·have hk:=NL hE h1 (zi E i l).1.m hx.le.m (zt E (s.put k i (zi E i l).1) (zi E i l).1.m);have h2:yI E {(s.put k i (zi E i l).1) with own:=some (yk E (s.put k i (zi E i l).1) (zi E i l).1.m (zt E (s.put k i (zi E i l).1) (zi E i l).1.m))}:={heard:=h1.heard,dealt:=h1.dealt,own:=fun y hy=>by injection hy with hy;subst hy;exact hk};exact (ht _ _ h2 hk).ofEnd _
  ·exact h1.ofEnd _
theorem yI.hear1{E:zy}(hE:E.ok){s:ASt}(h:yI E s)(k i:Int)(l:List Int):yI E (xX E s k i l).1:=yI.hear hE (fun _ _ h _=>h) h k i l
theorem yI.hear2{E:zy}(hE:E.ok){s:ASt}(h:yI E s)(k i:Int)(l:List Int):yI E (yF E s k i l).1:=yI.hear hE (fun s o h _=>by
 show yI E (xX E s yY E.me (yl E o E.me)).1;exact yI.hear1 hE h _ _ _) h k i l
theorem yI.take{E:zy}(hE:E.ok){s:ASt}(h:yI E s)(k i:Int)(l:List Int):yI E (zV E s k i l).1:=by
 unfold zV;split
 ·split
  ·exact h
  ·rename_i hn;have hw:(zu E l).2=true:=by simpa using hn
   have h2:yI E {s with dealt:=some (zu E l).1}:={heard:=h.heard,dealt:=fun x hx=>by injection hx with hx;subst hx;exact Zx hw,own:=h.own};exact yI.hear2 hE h2 _ _ _
 ·split
  ·exact yI.hear2 hE h _ _ _
  ·exact h
theorem yI.start(E:zy):yI E ASt.start:=⟨fun _ _ _ h=>by simp [ASt.start] at h,fun _ h=>by simp [ASt.start] at h,fun _ h=>by simp [ASt.start] at h⟩
theorem Acc.low{α:Type}{E:Enc α}{b b':Nat}{e:TypeId}{X:Nat→Prop}{w:World}{v:Value}{xs:List α}(h:Acc E b e X w v xs)(hb:b'≤b):Acc E b' e X w v xs:=by
 obtain ⟨h0,css,h1,h2,h3,h4⟩:=h;refine ⟨h0,css,h1,h2,h3, ?_⟩;rcases h4 with h4|⟨g,cap,cur,e1,e2,h5⟩
 ·exact .inl h4
 ·exact .inr ⟨g,cap,cur,e1,nLT hb e2,h5⟩
def xK(X:Nat→Prop)(gA gM nn:Nat)(E:zy)(w:World)(r:ASt×List yE)(e:Ending)(w':World):Prop:= ∃v Z,e= .returned v∧(∀g,Z g→w.heap.size≤g)∧Acc xZ w.heap.size 71 Z w' v r.2∧AvW (fun g=>X g∧ ¬Z g) gA gM nn E r.1 w'∧zk gA gM w w'
end
section
open Go Go.RowKit Go.Shelf Go.Maps
section
variable {X Y:Nat→Prop} {W W':World} {gM nn:Nat} {hd:Int→Int→Option zw}
theorem Ub(w:World):(zeroValue 123).run prog w= .ok (.pointer none) w:=by kernel_rfl
attribute [local irreducible] plL
theorem zT.look(h:zT X W gM nn hd)(k i:Int)(hk:0≤k∧k< 256)(hi:I64 i): ∃v,(Instr.lookup 122 (.map (some gM)) (plV k i) true).run prog W= .ok (.tuple #[v, .bool (hd k i).isSome]) W∧Te X W v (hd k i):=by
 obtain ⟨D,h1,h2⟩:=h;obtain ⟨v,ps,hr,hv⟩:=h1.look_ok Vz Tryz.underlying122 (Ub W) (zd:= .lit (.int .i64 (-1))) (zp:= []) rfl (Yb k i hk hi)
 have:=h2 k i hk hi
 revert this
 cases hh:hd k i with
 |none=>
  intro hf;rw [hf] at hr;rw [Maps.atKey_of_not_has hf] at hv;exact ⟨v,hr,Ve hv⟩
 |some x=>
  rintro ⟨ht,b,hb,hp⟩;rw [ht] at hr;rw [hb] at hv;exact ⟨v,hr,b,Vd hv,hp⟩
theorem zT.lookA(h:zT X W gM nn hd)(k i:Int)(hk:0≤k∧k< 256)(hi:I64 i): ∃v,(∀W',W.grownBy W' none→(Instr.lookup 122 (.map (some gM)) (plV k i) true).run prog W'= .ok (.tuple #[v, .bool (hd k i).isSome]) W'∧(Instr.lookup 122 (.map (some gM)) (plV k i) false).run prog W'= .ok v W')∧Te X W v (hd k i):=by
 obtain ⟨D,h1,h2⟩:=h;have H1: ∀W',W.grownBy W' none→W'.ownsMap prog 133 OA gM nn D:=fun W' hg=>h1.kept hg (by simp)
 have:=h2 k i hk hi
 revert this
 cases hh:hd k i with
 |none=>
  intro hf;refine ⟨.pointer none,fun W' hg=>⟨?_, ?_⟩,rfl⟩
  ·obtain ⟨v,ps,hr,hv⟩:=(H1 W' hg).look_ok Vz Tryz.underlying122 (Ub W') (zd:= .lit (.int .i64 (-1))) (zp:= []) rfl (Yb k i hk hi);rw [hf] at hr;rw [Maps.atKey_of_not_has hf] at hv;rw [Ve hv] at hr;exact hr
  ·obtain ⟨v,ps,hr,hv⟩:=(H1 W' hg).lookup Vz Tryz.underlying122 (Ub W') (zd:= .lit (.int .i64 (-1))) (zp:= []) rfl (Yb k i hk hi);rw [Maps.atKey_of_not_has hf] at hv;rw [Ve hv] at hr;exact hr
 |some x=>
  rintro ⟨ht,b,hb,hp⟩;refine ⟨.pointer (some ⟨b,0,none⟩),fun W' hg=>⟨?_, ?_⟩,b,rfl,hp⟩
  ·obtain ⟨v,ps,hr,hv⟩:=(H1 W' hg).look_ok Vz Tryz.underlying122 (Ub W') (zd:= .lit (.int .i64 (-1))) (zp:= []) rfl (Yb k i hk hi);rw [ht] at hr;rw [hb] at hv;rw [Vd hv] at hr;exact hr
  ·obtain ⟨v,ps,hr,hv⟩:=(H1 W' hg).lookup Vz Tryz.underlying122 (Ub W') (zd:= .lit (.int .i64 (-1))) (zp:= []) rfl (Yb k i hk hi);rw [hb] at hv;rw [Vd hv] at hr;exact hr
theorem zT.put(h:zT X W gM nn hd)(hn:nn< maxLen)(k i:Int)(hk:0≤k∧k< 256)(hi:I64 i){b:Nat}{x:zw}(hp:zL X W b x)(hM: ¬X gM): ∃W',(Instr.mapUpdate 122 (.map (some gM)) (plV k i) (.pointer (some ⟨b,0,none⟩))).run prog W= .ok () W'∧zT X W' gM (nn+1) (fun k' i'=>if k'=k∧i'=i then some x else hd k' i')∧W.grownBy W' (some gM):=by
 obtain ⟨D,h1,h2⟩:=h;obtain ⟨W',hr,h3,hg⟩:=h1.update Vz Tryz.underlying122 hn (Yb k i hk hi) (KQ b);have hne: ∀g,X g→some g≠some gM:=fun g hx e=>by
  injection e with e
  subst e;exact hM hx
 refine ⟨W',hr,⟨_,h3,fun k' i' hk' hi'=> ?_⟩,hg⟩;by_cases e:k'=k∧i'=i
 ·obtain ⟨rfl,rfl⟩:=e;simp only [and_self,if_true];have hlit:=Eh _ _ hk hi;exact ⟨Maps.has_put_same h1.isMap hlit _,b,Maps.atKey_put_same h1.isMap hlit _ _,hp.keep hg hne⟩
 ·have hl:plL k' i'≠plL k i:=fun e'=>e (Ei hk' hi' hk hi e')
  simp only [if_neg e]
  have:=h2 k' i' hk' hi'
  revert this
  cases hd k' i' with
  |none=>exact fun hf=>by rw [Maps.has_put_other hl];exact hf
  |some y=>exact fun ⟨a,c,d,f⟩=>⟨by rw [Maps.has_put_other hl];exact a,c,by rw [Maps.atKey_put_other hl];exact d,f.keep hg hne⟩
end
end
section
open Go
theorem LC{E:zy}{s:ASt}{k i:Int}{m:List (List (List Int))}(h:i∈ym E s k m):(1≤i∧i≤E.p.N)∧(s.heard k i).isSome=true:=by
 unfold ym at h;obtain ⟨h1,h2⟩:=List.mem_filter.1 h;unfold Tf at h1;obtain ⟨j,hj,rfl⟩:=List.mem_map.1 h1
 have:=List.mem_range.1 hj
 refine ⟨by omega, ?_⟩;unfold UD at h2
 revert h2
 cases s.heard k ((j:Int)+1) with
 |none=>intro h;cases h
 |some x=>intro _;rfl
theorem LD(E:zy)(s:ASt)(k:Int)(m:List (List (List Int))):(ym E s k m).length≤E.p.N.toNat:=by
 unfold ym;refine nLT (List.length_filter_le _ _) ?_;unfold Tf;simp
theorem Nc(N:Int):(Tf N).Pairwise (· < ·):=by
 unfold Tf;rw [List.pairwise_map];exact List.pairwise_lt_range.imp fun {a b} h=>by omega
theorem In(E:zy)(s:ASt)(k:Int)(m:List (List (List Int))):(ym E s k m).Pairwise (· < ·):=(Nc E.p.N).filter _
theorem Yi(E:zy)(s:ASt)(m:List (List (List Int)))(hne:zt E s m≠ []): ∃k,(k=XD∨k=yY)∧zt E s m=(ym E s k m).map (fun i=>(k,i))∧(((ym E s k m).length:Int)>(E.p.N+E.p.T).tdiv 2∨((ym E s k m).length:Int)>E.p.T):=by
 unfold zt at hne ⊢;split
 ·rename_i h;exact ⟨XD, .inl rfl,rfl, .inl h⟩
 ·split
  ·rename_i h;exact ⟨yY, .inr rfl,rfl, .inr h⟩
  ·rename_i h1 h2;rw [if_neg h1,if_neg h2] at hne;exact absurd rfl hne
theorem UJ{E:zy}{s:ASt}{m:List (List (List Int))}: ∀h∈zt E s m,(s.heard h.1 h.2).isSome=true∧1≤h.2∧h.2≤E.p.N:=fun h hh=>by
 obtain ⟨k,_,e,_⟩:=Yi E s m (fun e=>by rw [e] at hh;cases hh);rw [e] at hh;obtain ⟨i,hi,rfl⟩:=List.mem_map.1 hh
 have:=LC hi
 exact ⟨this.2,this.1⟩
theorem Vl{E:zy}(hE:E.ok){s:ASt}{m:List (List (List Int))}(hne:zt E s m≠ []):E.p.T+1≤((zt E s m).length:Int)∧(zt E s m).length≤7:=by
 obtain ⟨_,_,_,hN1,hN2,_,hT1,hT2,hNT,_⟩:=zx hE.may;obtain ⟨k,_,e,h⟩:=Yi E s m hne;have hl:=LD E s k m;have hq:(E.p.N+E.p.T).tdiv 2=(E.p.N+E.p.T) / 2:=Int.tdiv_eq_ediv_of_nonneg (by omega);rw [hq] at h;rw [e,lLm];omega
theorem Hm: ∀a,a< 7→ ∀b,b< 7→a< b→upI [a,b]∈Yu:=by decide+kernel
theorem Ks: ∀a∈List.range 7, ∀b∈List.range 7, ∀c∈List.range 7,a< b→b< c→upI [a,b,c]∈Yu:=by decide+kernel
theorem Hl(a:Nat)(ha:a< 7)(b:Nat)(hb:b< 7)(h:a< b)(c:Nat)(hc:c< 7)(h2:b< c):upI [a,b,c]∈Yu:=Ks a (List.mem_range.2 ha) b (List.mem_range.2 hb) c (List.mem_range.2 hc) h h2
theorem FQ{l:List Int}(h:l.Pairwise (· < ·))(hb: ∀x∈l,1≤x∧x≤7)(hl:l.length=2∨l.length=3):l∈Yu:=by
 rcases hl with e|e
 ·match l,e with
  | [a,b],_=>
   simp at h hb
   have:=Hm (a - 1).toNat (by omega) (b - 1).toNat (by omega) (by omega)
   have e:upI [(a - 1).toNat,(b - 1).toNat]= [a,b]:=by simp [upI];omega
   rwa [e] at this
 ·match l,e with
  | [a,b,c],_=>
   simp at h hb
   have:=Hl (a - 1).toNat (by omega) (b - 1).toNat (by omega) (by omega) (c - 1).toNat (by omega) (by omega)
   have e:upI [(a - 1).toNat,(b - 1).toNat,(c - 1).toNat]= [a,b,c]:=by simp [upI];omega
   rwa [e] at this
theorem TM{E:zy}(hE:E.ok){s:ASt}{m:List (List (List Int))}(hne:zt E s m≠ []):((zt E s m).take (E.p.T+1).toNat).map (·.2)∈Yu:=by
 obtain ⟨_,_,_,hN1,hN2,_,hT1,hT2,hNT,_⟩:=zx hE.may;have hl:=Vl hE hne;obtain ⟨k,_,e,h⟩:=Yi E s m hne;refine FQ ?_ ?_ ?_
 ·rw [e, ←List.map_take,List.map_map]
  have:(fun x:Int×Int=>x.2) ∘ (fun i=>(k,i))=id:=rfl
  rw [this,List.map_id];exact (In E s k m).sublist (List.take_sublist _ _)
 ·intro x hx;obtain ⟨y,hy,rfl⟩:=List.mem_map.1 hx
  have:=(UJ y (mMt hy)).2
  omega
 ·rw [lLm,lLt];omega
def Hh(xs ys:List Int):List Int:=if xs.length=ys.length then (List.range xs.length).foldl (fun out i=>VT 11 out (xg 11 (wC xs i) (zR (kC xs i) (ys[i]?.getD 0) 11))) (List.replicate xs.length 0) else []
def AE(xs:List Int):Bool:=decide (xp xs 11=0) && (List.range xs.length).all fun i=>(Ft (xO 11 xs 0 i) 11).isSome
theorem EO:Yu.all AE=true:=by decide+kernel
theorem IT{xs:List Int}(h:xs∈Yu):FI 11 xs 0=0:=by
 have h1:=List.all_eq_true.1 EO xs h;simp only [AE,Bool.and_eq_true,decide_eq_true_eq] at h1;unfold FI;rw [if_pos h1.1,if_pos];intro i hi;exact (YZ (by decide)).2 (List.all_eq_true.1 h1.2 i (List.mem_range.2 hi))
theorem Rh{xs:List Int}(h:xs∈Yu)(ys:List Int):Xn 11 xs ys=if xs.length=ys.length then Zu 11 xs ys xs.length else []:=by
 by_cases e:xs.length=ys.length
 ·have h0:Mt 11 xs ys=0:=by
   unfold Mt;rw [if_pos ⟨Tj,e⟩];exact IT h
  unfold Xn;rw [if_pos h0,if_pos e]
 ·have h1:Mt 11 xs ys=1:=by
   unfold Mt;rw [if_neg (fun h=>e h.2)]
  unfold Xn;rw [h1,if_neg (by decide),if_neg e]
theorem Fj{xs:List Int}(h:xs∈Yu)(ys:List Int):Xn 11 xs ys=Hh xs ys:=by
 rw [Rh h];unfold Hh Zu wC;simp only [DI]
def Qo(E:zy)(xs:List Int)(ps:List (List (Int×Int))):List (List (Int×Int)):=(List.range E.coms.length).map fun s=>
 ((Hh xs (ps.map fun l=>(l[s]?.getD (0,0)).1)).zip (Hh xs (ps.map fun l=>(l[s]?.getD (0,0)).2)))
def Zi(E:zy)(s:ASt)(by_:List (Int×Int))(one:zw→List (Int×Int)):List (List (Int×Int)):=Qo E (by_.map (·.2)) (by_.map fun h=>xy s h one)
def RR(E:zy)(s:ASt)(m:List (List (List Int)))(by_:List (Int×Int)):zw:=
 match s.dealt with
 |some d=>if d.m=m then d else ⟨m,Zi E s (by_.take (E.p.T+1).toNat) (fun x=>zv x.b),Zi E s (by_.take (E.p.T+1).toNat) (fun x=>zv x.a)⟩
 |none=>⟨m,Zi E s (by_.take (E.p.T+1).toNat) (fun x=>zv x.b),Zi E s (by_.take (E.p.T+1).toNat) (fun x=>zv x.a)⟩
def RS(E:zy)(tell:ASt→zw→ASt×List yE)(s:ASt)(kind i:Int)(nums:List Int):ASt×List yE:=
 if (s.heard kind i).isSome=true∨i< 1∨E.p.N< i∨(zi E i nums).2=false then (s, [])
 else
  let x:=(zi E i nums).1
  let s1:=s.put kind i x
  if s1.own=none∧zt E s1 x.m≠ [] then
   let o:=RR E s1 x.m (zt E s1 x.m)
   yg E (tell {s1 with own:=some o} o).1 (tell {s1 with own:=some o} o).2
  else yg E s1 []
def Mc(E:zy):ASt→Int→Int→List Int→ASt×List yE:=RS E fun s _=>(s, [])
def RT(E:zy):ASt→Int→Int→List Int→ASt×List yE:=RS E fun s o=>Za E (Mc E) s yY o
def yK(E:zy)(s:ASt)(kind i:Int)(nums:List Int):ASt×List yE:=
 if kind=Gt∧i=0∧s.dealt=none then
  (if (zu E nums).2=false then (s, []) else Za E (RT E) {s with dealt:=some (zu E nums).1} XD (zu E nums).1)
 else if kind=XD∨kind=yY then RT E s kind i nums else (s, [])
theorem UV{E:zy}(hq:E.p.Q=11)(s:ASt)(bs:List (Int×Int))(one:zw→List (Int×Int))(h:bs.map (·.2)∈Yu):zS E s bs one=Zi E s bs one:=by
 unfold zS Zi VS Qo;rw [hq];refine List.map_congr_left fun j _=> ?_
 rw [Fj h,Fj h]
theorem Io{E:zy}(hE:E.ok)(hq:E.p.Q=11)(s:ASt)(m:List (List (List Int)))(hne:zt E s m≠ []):yk E s m (zt E s m)=RR E s m (zt E s m):=by
 have h:=TM hE hne;have t1:=UV hq s _ (fun x=>zv x.b) h;have t2:=UV hq s _ (fun x=>zv x.a) h;unfold yk RR;dsimp only;rw [t1,t2];try (cases s.dealt<;>rfl)
theorem Mb{E:zy}(hE:E.ok)(hq:E.p.Q=11){t1 t2:ASt→zw→ASt×List yE}(ht: ∀s o,t1 s o=t2 s o)(s:ASt)(k i:Int)(l:List Int):yL E t1 s k i l=RS E t2 s k i l:=by
 unfold yL RS;split
 ·rfl
 ·dsimp only;split
  ·rename_i h;rw [Io hE hq _ _ h.2,ht]
  ·rfl
theorem Ip{E:zy}(hE:E.ok)(hq:E.p.Q=11)(s:ASt)(k i:Int)(l:List Int):xX E s k i l=Mc E s k i l:=Mb hE hq (fun _ _=>rfl) s k i l
theorem NY{E:zy}{h1 h2:ASt→Int→Int→List Int→ASt×List yE}(h: ∀s k i l,h1 s k i l=h2 s k i l)(s:ASt)(k:Int)(x:zw):Za E h1 s k x=Za E h2 s k x:=by
 unfold Za;rw [h]
theorem PI{E:zy}(hE:E.ok)(hq:E.p.Q=11)(s:ASt)(k i:Int)(l:List Int):yF E s k i l=RT E s k i l:=Mb hE hq (fun s o=>NY (Ip hE hq) s _ o) s k i l
theorem NZ{E:zy}(hE:E.ok)(hq:E.p.Q=11)(s:ASt)(k i:Int)(l:List Int):zV E s k i l=yK E s k i l:=by
 unfold zV yK;rw [NY (PI hE hq),PI hE hq]
end
section
open Go Go.RowKit Go.Shelf Go.Maps
theorem GD(v1 v2:Value)(xs ys:List (List Int))(X Y:Nat→Prop)(w:World)(h1:Sl (zh ze) X w v1 xs)(h2:Sl (zh ze) Y w v2 ys):
  Calls prog 207 #[v1,v2, .func (.func 96) #[] #[]] w fun e w'=>e= .returned (.bool (decide (xs=ys)))∧w.grownBy w' none:=by
 have H1:=za h1;have H2:=za h2;obtain ⟨A1,c1,rfl,k0,p0⟩:=h1.form;obtain ⟨A2,c2,rfl,o0,n0⟩:=h2.form;clear h1 h2;by_cases hl:xs.length=ys.length
 ·have f0:=za hl;rw [hl] at H1 k0 ⊢;clear hl;go_enter func207,ntmps207;go_wp2_with fail;go_loopg [17] ys.length (fun g s17 wx=> ∃j:Nat,j+g=ys.length∧s17= .int .i64 j∧Hid (w.grownBy wx none∧xs.take j=ys.take j))
  case atStart=>exact ⟨0,by omega,rfl,za ⟨gRr w none,rfl⟩⟩
  case round=>
   obtain ⟨j,hj,rfl,HX⟩:=hrel;cases gk with
   |zero=>
    obtain rfl:j=ys.length:=by omega
    have HE:Hid (decide (xs=ys)=true∧w.grownBy wr none):=za ⟨by
     have i0:=HX.z.2;rw [List.take_length, ←f0.z,List.take_length] at i0;simpa using i0,HX.z.1⟩
    clear HX;go_wp2;go_ret;exact ⟨zn HE.z.1.symm,HE.z.2⟩
   |succ m=>
    have l0:(j:Int)< (ys.length:Int):=by omega
    have m0:(0:Int)≤(j:Int):=by omega
    have b0:j< ys.length:=by omega
    have j0:j< xs.length:=by rw [f0.z];exact b0
    have HG:=za HX.z.1;obtain ⟨g1,o1,c1',x1,e1,_,_,a1,u1⟩:=((f0.z ▸ H1.z:Sl (zh ze) X w (.slice A1 xs.length c1) xs).kept HG.z).atS j0;injection e1 with e11 e12 e13
    subst e11 e13;obtain ⟨g2,o2,c2',x2,e2,_,_,a2,u2⟩:=(H2.z.kept HG.z).atS b0;injection e2 with e21 e22 e23
    subst e21 e23;obtain ⟨A3,n3,c3,rfl⟩:=u1.shape;obtain ⟨A4,n4,c4,rfl⟩:=u2.shape;have HC:=za (Tt _ _ xs[j] ys[j] X Y wr u1 u2);have c0:Hid (xs[j]=ys[j]→xs.take (j+1)=ys.take (j+1)):=za (fun e=>by rw [tSg j0,tSg b0,e,HX.z.2]);have d0:Hid (¬xs[j]=ys[j]→decide (xs=ys)=false):=za (fun h=>by simp only [decide_eq_false_iff_not];intro e;apply h;subst e;rfl);clear HX u1 u2 e12 e22;by_cases a0:xs[j]=ys[j]
    ·have HN:=za (c0.z a0);have HD:Hid (decide (xs[j]=ys[j])=true):=za (by simpa using a0);rw [HD.z] at HC;clear a0 HD c0 d0;generalize ys[j]=y at *;generalize xs[j]=x at *;go_wp2_with (refine HC.z.mono ?_;rintro e w1 ⟨rfl,hg1⟩);have g0:=za (HG.z.trans hg1);clear hg1;go_roundg m
     case measure=>omega
     case rel=>exact ⟨j+1,by omega,by go_num,za ⟨g0.z,HN.z⟩⟩
    ·have HN:=za (d0.z a0);have HD:Hid (decide (xs[j]=ys[j])=false):=za (by simpa using a0);rw [HD.z] at HC;clear a0 HD c0 d0;generalize ys[j]=y at *;generalize xs[j]=x at *;go_wp2_with (refine HC.z.mono ?_;rintro e w1 ⟨rfl,hg1⟩);have g0:=za (HG.z.trans hg1);clear hg1;go_ret;exact ⟨zn HN.z.symm,g0.z⟩
 ·have hd:((xs.length:Int) !=(ys.length:Int))=true:=by simp;omega
  have HE:Hid (decide (xs=ys)=false):=za (by simp only [decide_eq_false_iff_not];intro e;exact hl (by rw [e]));clear hl;go_enter func207,ntmps207;go_wp2;go_ret;exact ⟨zn HE.z.symm,gRr w none⟩
theorem KD(v1 v2:Value)(xs ys:List (List Int))(X Y:Nat→Prop)(w:World)(h1:Sl (zh ze) X w v1 xs)(h2:Sl (zh ze) Y w v2 ys):
  Calls prog 206 #[v1,v2] w fun e w'=>e= .returned (.bool (decide (xs=ys)))∧w.grownBy w' none:=by
 have HC:=za (GD v1 v2 xs ys X Y w h1 h2);obtain ⟨A1,c1,rfl,_,_⟩:=h1.form;obtain ⟨A2,c2,rfl,_,_⟩:=h2.form;clear h1 h2;go_enter func206,ntmps206;go_wp2_with (refine HC.z.mono ?_;rintro e w1 ⟨rfl,hg1⟩);go_ret;exact ⟨rfl,hg1⟩
theorem GC(v1 v2:Value)(xs ys:List (List (List Int)))(X Y:Nat→Prop)(w:World)(h1:Sl (zh (zh ze)) X w v1 xs)(h2:Sl (zh (zh ze)) Y w v2 ys):
  Calls prog 205 #[v1,v2, .func (.func 206) #[] #[]] w fun e w'=>e= .returned (.bool (decide (xs=ys)))∧w.grownBy w' none:=by
 have H1:=za h1;have H2:=za h2;obtain ⟨A1,c1,rfl,k0,p0⟩:=h1.form;obtain ⟨A2,c2,rfl,o0,n0⟩:=h2.form;clear h1 h2;by_cases hl:xs.length=ys.length
 ·have f0:=za hl;rw [hl] at H1 k0 ⊢;clear hl;go_enter func205,ntmps205;go_wp2_with fail;go_loopg [17] ys.length (fun g s17 wx=> ∃j:Nat,j+g=ys.length∧s17= .int .i64 j∧Hid (w.grownBy wx none∧xs.take j=ys.take j))
  case atStart=>exact ⟨0,by omega,rfl,za ⟨gRr w none,rfl⟩⟩
  case round=>
   obtain ⟨j,hj,rfl,HX⟩:=hrel;cases gk with
   |zero=>
    obtain rfl:j=ys.length:=by omega
    have HE:Hid (decide (xs=ys)=true∧w.grownBy wr none):=za ⟨by
     have i0:=HX.z.2;rw [List.take_length, ←f0.z,List.take_length] at i0;simpa using i0,HX.z.1⟩
    clear HX;go_wp2;go_ret;exact ⟨zn HE.z.1.symm,HE.z.2⟩
   |succ m=>
    have l0:(j:Int)< (ys.length:Int):=by omega
    have m0:(0:Int)≤(j:Int):=by omega
    have b0:j< ys.length:=by omega
    have j0:j< xs.length:=by rw [f0.z];exact b0
    have HG:=za HX.z.1;obtain ⟨g1,o1,c1',x1,e1,_,_,a1,u1⟩:=((f0.z ▸ H1.z:Sl (zh (zh ze)) X w (.slice A1 xs.length c1) xs).kept HG.z).atS j0;injection e1 with e11 e12 e13
    subst e11 e13;obtain ⟨g2,o2,c2',x2,e2,_,_,a2,u2⟩:=(H2.z.kept HG.z).atS b0;injection e2 with e21 e22 e23
    subst e21 e23;obtain ⟨A3,n3,c3,rfl⟩:=u1.shape;obtain ⟨A4,n4,c4,rfl⟩:=u2.shape;have HC:=za (KD _ _ xs[j] ys[j] X Y wr u1 u2);have c0:Hid (xs[j]=ys[j]→xs.take (j+1)=ys.take (j+1)):=za (fun e=>by rw [tSg j0,tSg b0,e,HX.z.2]);have d0:Hid (¬xs[j]=ys[j]→decide (xs=ys)=false):=za (fun h=>by simp only [decide_eq_false_iff_not];intro e;apply h;subst e;rfl);clear HX u1 u2 e12 e22;by_cases a0:xs[j]=ys[j]
    ·have HN:=za (c0.z a0);have HD:Hid (decide (xs[j]=ys[j])=true):=za (by simpa using a0);rw [HD.z] at HC;clear a0 HD c0 d0;generalize ys[j]=y at *;generalize xs[j]=x at *;go_wp2_with (refine HC.z.mono ?_;rintro e w1 ⟨rfl,hg1⟩);have g0:=za (HG.z.trans hg1);clear hg1;go_roundg m
     case measure=>omega
     case rel=>exact ⟨j+1,by omega,by go_num,za ⟨g0.z,HN.z⟩⟩
    ·have HN:=za (d0.z a0);have HD:Hid (decide (xs[j]=ys[j])=false):=za (by simpa using a0);rw [HD.z] at HC;clear a0 HD c0 d0;generalize ys[j]=y at *;generalize xs[j]=x at *;go_wp2_with (refine HC.z.mono ?_;rintro e w1 ⟨rfl,hg1⟩);have g0:=za (HG.z.trans hg1);clear hg1;go_ret;exact ⟨zn HN.z.symm,g0.z⟩
 ·have hd:((xs.length:Int) !=(ys.length:Int))=true:=by simp;omega
  have HE:Hid (decide (xs=ys)=false):=za (by simp only [decide_eq_false_iff_not];intro e;exact hl (by rw [e]));clear hl;go_enter func205,ntmps205;go_wp2;go_ret;exact ⟨zn HE.z.symm,gRr w none⟩
theorem Nv(v1 v2:Value)(xs ys:List (List (List Int)))(X Y:Nat→Prop)(w:World)(h1:Sl (zh (zh ze)) X w v1 xs)(h2:Sl (zh (zh ze)) Y w v2 ys):
  Calls prog 169 #[v1,v2] w fun e w'=>e= .returned (.bool (decide (xs=ys)))∧w.grownBy w' none:=by
 have HC:=za (GC v1 v2 xs ys X Y w h1 h2);obtain ⟨A1,c1,rfl,_,_⟩:=h1.form;obtain ⟨A2,c2,rfl,_,_⟩:=h2.form;clear h1 h2;go_enter func169,ntmps169;go_wp2_with (refine HC.z.mono ?_;rintro e w1 ⟨rfl,hg1⟩);go_ret;exact ⟨rfl,hg1⟩
def Yn(s:ASt)(k:Int)(m:List (List (List Int)))(j:Nat):List (Int×Int):=((((List.range j).map fun (i:Nat)=>(i:Int)+1)).filter (UD s k m)).map fun i=>(k,i)
theorem OL(s:ASt)(k:Int)(m:List (List (List Int)))(j:Nat):Yn s k m (j+1)=Yn s k m j++if UD s k m ((j:Int)+1) then [(k,(j:Int)+1)] else []:=by
 unfold Yn;rw [List.range_succ,lMa,List.filter_append,lMa]
 congr 1
 simp only [List.map_cons,List.map_nil,List.filter_cons,List.filter_nil];cases UD s k m ((j:Int)+1)<;>rfl
theorem RD(s:ASt)(k:Int)(m:List (List (List Int)))(j:Nat):(Yn s k m j).length≤j:=by
 unfold Yn;rw [lLm];exact nLT (List.length_filter_le _ _) (by simp)
theorem MR(E:zy)(s:ASt)(k:Int)(m:List (List (List Int))):Yn s k m E.p.N.toNat=(ym E s k m).map fun i=>(k,i):=rfl
theorem RC(E:zy)(st:ASt)(gA gM nn:Nat)(k:Int)(vm:Value)(m:List (List (List Int)))(X Y:Nat→Prop)(w:World)(hE:E.ok)(hA:AvW X gA gM nn E st w)(hk:U8 k)(hm:Sl (zh (zh ze)) Y w vm m):
  Calls prog 122 #[.pointer (some ⟨gA,0,none⟩), .int .u8 k,vm] w (zN Oc (fun g=>w.heap.size≤g) w ((ym E st k m).map fun i=>(k,i))):=by
 have HA:=za hA;have HM:=za hm;have HK:=za hk;obtain ⟨_,_,_,M0,L0,_⟩:=zx hE.may;obtain ⟨⟨vc,vd,vo,hb,_⟩,_,_⟩:=hA;have HB:=za hb;have hr:=hb.rule;obtain ⟨Am,nm,cm,rfl⟩:=hm.shape;rw [←MR];clear hE hk hm hb;obtain ⟨N,hN⟩: ∃N:Nat,E.p.N=(N:Int):=⟨E.p.N.toNat,by omega⟩;have q0:Hid (E.p.N.toNat=N∧N≤7):=za ⟨by omega,by omega⟩;rw [q0.z.1];go_enter func122,ntmps122;go_wp2_with fail;go_loopg [7,17] N (fun g s7 s17 wx=> ∃j:Nat,j+g=N∧s17= .int .i64 j∧Hid (Acc Oc w.heap.size 133 (fun g=>w.heap.size≤g) wx s7 (Yn st k m j)∧w.grownBy wx none))
 case atStart=>exact ⟨0,by omega,rfl,za ⟨Acc.nil _ _ _ _ _,gRf⟩⟩
 case round=>
  obtain ⟨j,hj,rfl,HX⟩:=hrel;rcases Nat.eq_zero_or_pos gk with hg0|hg0
  ·obtain rfl:j=N:=by omega
   have HR:Hid (Sl Oc (fun g=>w.heap.size≤g) wr u7 (Yn st k m j)∧w.grownBy wr none):=za ⟨HX.z.1.sl,HX.z.2⟩;clear HX hr hg0;go_wp2;go_ret;exact ⟨_,rfl,HR.z.1,HR.z.2⟩
  ·have K0:(j:Int)< (N:Int):=by omega
   have J0:IntKind.i64.wrap ((j:Int)+1)=(j:Int)+1:=i6n _ (by omega);obtain ⟨o0,hg⟩:=HX.z;have A0:Hid (wr.grownBy (wr.alloc (.cells #[.int .u8 k, .int .i64 ((j:Int)+1)] 133)) none):=za (gAl wr _ none);have j0:=za (hg.trans A0.z);have z0:=za (HA.z.kept j0.z);have g0:=(HB.z.grown j0.z (by simp)).rule;have t0:Hid (Bk (wr.alloc (.cells #[.int .u8 k, .int .i64 ((j:Int)+1)] 133)) wr.heap.size 133 #[.int .u8 k, .int .i64 ((j:Int)+1)]):=za (Bk.new wr _ _);have m0:=za (o0.kept A0.z);have f0:=t0.z.rule;have i0:=za (OL st k m j);have F0:Hid (((Yn st k m j).length+1)*16≤140737488355328):=za (by have:=RD st k m j;have:=q0.z;omega);have HI:Hid (I64 ((j:Int)+1)):=za ⟨by have:=q0.z;omega,by have:=q0.z;omega⟩;clear o0 hg HX hr;obtain ⟨wa,d0⟩:=exq (wr.alloc (.cells #[.int .u8 k, .int .i64 ((j:Int)+1)] 133));rw [←d0] at j0 z0 g0 t0 m0 f0;obtain ⟨v,v0,p0⟩:=zT.lookA z0.z.heard k ((j:Int)+1) HK.z HI.z;have b0:=fun n=>(v0 (wa.drewN n) (zb wa n)).1
   unfold plV at b0;clear v0;cases hh:st.heard k ((j:Int)+1) with
   |none=>
    rw [hh] at b0 p0;obtain rfl:v= .pointer none:=p0;have a0:Hid (∀n,Acc Oc w.heap.size 133 (fun g=>w.heap.size≤g) (wa.drewN n) u7 (Yn st k m (j+1))∧w.grownBy (wa.drewN n) none):=za fun n=>⟨by
     rw [i0.z];simp only [UD,hh,Bool.false_eq_true,if_false,List.append_nil];exact m0.z.kept (zb wa n),j0.z.trans (zb wa n)⟩
    clear hh i0 m0;rw [d0] at g0 f0 b0 a0;go_wp2_with fail;go_quiet (fail);go_wp2_with fail;go_roundg (gk - 1)
    case measure=>omega
    case rel=>exact ⟨j+1,by omega,by go_num,za (a0.z _)⟩
   |some x=>
    rw [hh] at b0 p0;obtain ⟨b,rfl,hp⟩:=p0;obtain ⟨vm',I0,H0,_,r0,s1,_,_⟩:=hp;obtain ⟨A3,n3,c3,rfl⟩:=s1.shape;have N0:=za r0;have l0:=za (fun n=>Nv (.slice A3 n3 c3) (.slice Am nm cm) x.m m X Y (wa.drewN n) (s1.kept (zb wa n)) (HM.z.kept (j0.z.trans (zb wa n))));have n0:=r0.rule;have D0:Hid (UD st k m ((j:Int)+1)=decide (x.m=m)):=za (by unfold UD;rw [hh]);rw [D0.z] at i0;clear hh s1 r0;rw [d0] at g0 f0 b0 n0;cases hd:decide (x.m=m) with
    |false=>
     rw [hd] at l0 i0;have a0:Hid (Acc Oc w.heap.size 133 (fun g=>w.heap.size≤g) wa u7 (Yn st k m (j+1))):=za (by
      rw [i0.z];simp only [Bool.false_eq_true,if_false,List.append_nil];exact m0.z)
     go_wp2_with fail;go_quiet (fail);rw [←d0] at g0 f0 b0 n0 ⊢;clear d0;go_wp2_with fail;refine (l0.z _).mono ?_;rintro e w1 ⟨rfl,hg1⟩;have k0:Hid (wa.grownBy w1 none):=za ((zb wa nq).trans hg1);clear hg1 l0 g0 f0 b0 n0;go_wp2_with fail;go_roundg (gk - 1)
     case measure=>omega
     case rel=>exact ⟨j+1,by omega,by go_num,za ⟨a0.z.kept k0.z,j0.z.trans k0.z⟩⟩
    |true=>
     rw [hd] at l0 i0;go_wp2_with fail;go_quiet (fail);rw [←d0] at g0 f0 b0 n0 ⊢;clear d0;go_wp2_with fail;refine (l0.z _).mono ?_;rintro e w1 ⟨rfl,hg1⟩;have k0:Hid (wa.grownBy w1 none):=za ((zb wa nq).trans hg1);have u0:=za (m0.z.kept k0.z);have G0:=za (j0.z.trans k0.z);have B0:=(t0.z.grown k0.z (by simp)).rule;have s0:Hid (Oc.rep (fun g=>(fun g=>w.heap.size≤g) g∧some g≠u7.ownBlock) w1 [.int .u8 k, .int .i64 ((j:Int)+1)] (k,(j:Int)+1)):=za ⟨rfl,HK.z,HI.z⟩;clear hg1 l0 g0 f0 b0 n0 m0 k0;go_wp2_with (at_builtin;refine zF rfl (.tmp 42) (.tmp 44) rfl (E:=Oc) GH G0.z u0.z (fun _ h=>h) s0.z F0.z rfl rfl ?_);intro v2 w2 c0 y0 C0;have a0:Hid (Acc Oc w.heap.size 133 (fun g=>w.heap.size≤g) w2 v2 (Yn st k m (j+1))∧w.grownBy w2 none):=za ⟨by rw [i0.z];simpa using c0,y0⟩;clear c0 y0 C0;go_wp2_with fail;go_roundg (gk - 1)
     case measure=>omega
     case rel=>exact ⟨j+1,by omega,by go_num,a0⟩
theorem Lj(E:zy)(st:ASt)(gA gM nn:Nat)(vm:Value)(m:List (List (List Int)))(X Y:Nat→Prop)(w:World)(hE:E.ok)(hA:AvW X gA gM nn E st w)(hm:Sl (zh (zh ze)) Y w vm m):
  Calls prog 120 #[.pointer (some ⟨gA,0,none⟩),vm] w (zN Oc (fun g=>w.heap.size≤g) w (zt E st m)):=by
 have f0:=za (RC E st gA gM nn 8 vm m X Y w hE hA ⟨by decide,by decide⟩ hm);have k0:=za (fun w' (hw:w.grownBy w' none)=>RC E st gA gM nn 9 vm m X Y w' hE (hA.kept hw) ⟨by decide,by decide⟩ (hm.kept hw));obtain ⟨Am,nm,cm,rfl⟩:=hm.shape;obtain ⟨_,_,_,u0,t0,_,s0,r0,_⟩:=zx hE.may;obtain ⟨⟨vc,vd,vo,hb,_⟩,_,_⟩:=hA;have HB:=za hb;have hr:=hb.rule;have n0:IntKind.i64.wrap (E.p.N+E.p.T)=E.p.N+E.p.T:=i6n _ (by omega);have hq:(E.p.N+E.p.T).tdiv 2=(E.p.N+E.p.T) / 2:=Int.tdiv_eq_ediv_of_nonneg (by omega);have m0:IntKind.i64.wrap ((E.p.N+E.p.T).tdiv 2)=(E.p.N+E.p.T).tdiv 2:=i6n _ (by rw [hq];omega);obtain ⟨l8,d0⟩:=exq ((ym E st 8 m).map fun i=>((8:Int),i));obtain ⟨l9,c0⟩:=exq ((ym E st 9 m).map fun i=>((9:Int),i));have a0:Hid (zt E st m=if (l8.length:Int)>(E.p.N+E.p.T).tdiv 2 then l8 else if (l9.length:Int)>E.p.T then l9 else []):=za (by rw [d0,c0];simp only [List.length_map];rfl);rw [a0.z];rw [←d0] at f0;rw [←c0] at k0;clear d0 c0 hE hm hb hq a0;by_cases h1:(l8.length:Int)>(E.p.N+E.p.T).tdiv 2
 ·rw [if_pos h1];go_enter func120,ntmps120;go_wp2_with fail;refine f0.z.mono ?_;rintro e w1 ⟨v1,rfl,hs1,hg1⟩;obtain ⟨A1,c1,e1,_,_⟩:=hs1.form;subst e1;have i0:=(HB.z.grown hg1 (by simp)).rule;have b0:=za hg1;have l0:=za hs1;clear hr hg1 hs1;go_wp2_with fail;go_quiet (fail);go_wp2_with fail;go_ret;exact ⟨_,rfl,l0.z.kept (zb w1 _),b0.z.trans (zb w1 _)⟩
 ·rw [if_neg h1];have q0:decide ((l8.length:Int)>(E.p.N+E.p.T).tdiv 2)=false:=by simpa using h1
  go_enter func120,ntmps120;go_wp2_with fail;refine f0.z.mono ?_;rintro e w1 ⟨v1,rfl,hs1,hg1⟩;obtain ⟨A1,c1,e1,_,_⟩:=hs1.form;subst e1;have i0:=(HB.z.grown hg1 (by simp)).rule;have b0:=za hg1;clear hr hg1 hs1;go_wp2_with fail;go_quiet (fail);go_wp2_with fail;refine (k0.z _ (b0.z.trans (zb w1 _))).mono ?_;rintro e w2 ⟨v2,rfl,hs2,hg2⟩;obtain ⟨A2,c2,e2,_,_⟩:=hs2.form;subst e2;have g0:=za (b0.z.trans ((zb w1 _).trans hg2));have o0:=(HB.z.grown g0.z (by simp)).rule;have j0:Hid (Sl Oc (fun g=>w.heap.size≤g) w2 (.slice A2 l9.length c2) l9):=za (hs2.more fun g _ hg=>nLT (b0.z.trans (zb w1 _)).size hg);clear i0 hg2 hs2;by_cases h2:(l9.length:Int)>E.p.T
  ·go_wp2_with fail;go_ret;exact ⟨_,rfl,by first|exact j0.z|(rw [if_pos h2];exact j0.z),g0.z⟩
  ·have p0:decide ((l9.length:Int)>E.p.T)=false:=by simpa using h2
   go_wp2_with fail;go_ret;exact ⟨_,rfl,by first|exact Sl.nil _ _ _|(rw [if_neg h2];exact Sl.nil _ _ _),g0.z⟩
end
section
open Go Go.RowKit
def ZK(p:Par):Nat:=p.K.toNat*(p.D.toNat+1)
def Yh(p:Par):Nat:=p.T.toNat
def EK(p:Par)(l:List Int):List Int:=FX l (ZK p)
def Dk(p:Par)(seed:Int):Nat→Int:=fun k=>JN p.Q (Qw p.Q seed k)
def Dj(p:Par)(l:List Int)(seed:Int):List (List Int):=ZC (EK p l) p.Q (Dk p seed) (Yh p) 0 (ZK p)
def Di(p:Par)(seed:Int):List (List Int):=ZB p.Q (Dk p seed) (Yh p) 0 (ZK p)
def EJ(p:Par)(l:List Int)(seed i:Int):List (Int×Int):=ZQ p (Dj p l seed) (Di p seed) i
def GO(p:Par)(l:List Int)(seed:Int):List (List Int):=yy p (Dj p l seed) (Di p seed)
def DQ(p:Par):Nat:=ZK p*(2*Yh p+1)
section
variable {p:Par} (hm:Zv p=true)
include hm
theorem Zq:1≤Yh p∧Yh p≤2∧2≤ZK p∧ZK p≤10∧(ZK p:Int)=zU p∧(Yh p:Int)=p.T∧4≤p.N∧p.N≤7∧3*p.T+1≤p.N:=by
 obtain ⟨hq,hP,ha,n1,n2,n3,t1,t2,t3,hs,k1,d1⟩:=zx hm;obtain ⟨sk1,sk2,sd1,sd2,_⟩:=Xz hm;have hsec:=Ot hm;have h1:p.K.toNat*(p.D.toNat+1)≤2*5:=Nat.mul_le_mul (by omega) (by omega);have h2:1*2≤p.K.toNat*(p.D.toNat+1):=Nat.mul_le_mul (by omega) (by omega);unfold ZK Yh;refine ⟨by omega,by omega,by omega,by omega,by rw [hsec],by omega,n1,n2,t3⟩
theorem EI:0< p.Q:=VX (zx hm).1
end
theorem RK{p:Par}(hq:U64 p.Q)(seed:Int)(k:Nat):U64 (Dk p seed k):=Pm p.Q _ hq
theorem GM(p:Par)(l:List Int):(EK p l).length=ZK p:=by simp [EK,FX]
theorem XM(p:Par)(l:List Int)(seed:Int):(Dj p l seed).length=ZK p:=by simp [Dj,ZC]
theorem NR(p:Par)(seed:Int):(Di p seed).length=ZK p:=by simp [Di,ZB]
theorem GL(p:Par)(l:List Int)(seed i:Int):(EJ p l seed i).length=ZK p:=by simp [EJ,ZQ,XM]
theorem GN(p:Par)(l:List Int)(seed:Int):(GO p l seed).length=ZK p:=by
 unfold GO;rw [UQ p (by rw [XM,NR])];simp [XM]
theorem Pz{q:Int}(hq:0< q){dr:Nat→Int}(hd: ∀k,0≤dr k)(x:Int)(T k:Nat):(Xf x q dr T k).length=T+1∧ ∀y∈Xf x q dr T k,0≤y:=⟨xx _ _ _ _ _,fun y hy=>by
 simp only [Xf,List.mem_cons,List.mem_map] at hy;rcases hy with rfl|⟨j,_,rfl⟩
 ·exact Int.emod_nonneg _ (by omega)
 ·exact hd _⟩
section
variable {p:Par} (hm:Zv p=true) (hq:U64 p.Q) (l:List Int) (seed i:Int)
include hm hq
theorem JS:Ce (Yh p+1) (Dj p l seed):=fun r hr=>by
 unfold Dj at hr;obtain ⟨i,_,rfl⟩:=List.mem_map.1 hr;exact Pz (EI hm) (fun k=>(RK hq seed k).1) _ _ _
theorem JR:Ce (Yh p+1) (Di p seed):=fun r hr=>by
 unfold Di at hr;obtain ⟨i,_,rfl⟩:=List.mem_map.1 hr;exact Pz (EI hm) (fun k=>(RK hq seed k).1) _ _ _
theorem OR:xt p (GO p l seed)=true:=by
 obtain ⟨h1,h2,h3,h4,h5,h6,_⟩:=Zq hm;exact OT hm (t:=Yh p+1) (by omega) (by rw [XM,h5]) (by rw [XM,NR]) (JS hm hq l seed) (JR hm hq seed)
end
end
section
open Go Go.RowKit Go.Shelf
def dE0(v x:Value):Prop:= ∃b,x= .tuple #[v,b, .int .i64 0]
def dE1(v x:Value):Prop:= ∃a,x= .tuple #[a,v, .int .i64 0]
def dF0(v x:Value):Prop:=x= .tuple #[v, .int .i64 0]
theorem DU{v u:Value}(h:dF0 v (.tuple #[u, .int .i64 0])):v=u:=by
 unfold dF0 at h;injection h with h
 injection h with h
 injection h with h _
 exact h.symm
theorem BW{a b c x y z:Value}(h:Value.tuple #[a,b,c]= .tuple #[x,y,z]):a=x∧b=y∧c=z:=by
 injection h with h
 injection h with h
 injection h with h1 h
 injection h with h2 h
 injection h with h3 _
 exact ⟨h1,h2,h3⟩
structure Cm (M:List (List (List Int))) (Rs Cs:List (List (List (Int×Int)))):Prop where
 m: ∀x∈M,x≠ []∧ ∀y∈x,y≠ []∧ ∀z∈y,True
 r: ∀x∈Rs,x≠ []∧ ∀y∈x,y≠ []∧ ∀z∈y,True
 c: ∀x∈Cs,x≠ []∧ ∀y∈x,y≠ []∧ ∀z∈y,True
theorem Uk{α:Type}{E:Enc α}{good:α→Prop}(hf:Far E good (.slice none 0 0)){X:Nat→Prop}{W W':World}{v:Value}{xs:List α}{g:Nat}{ty:TypeId}(h:Sl E X W v xs)(hgd: ∀x∈xs,good x)(hb:Bk W g ty #[.slice none 0 0, .slice none 0 0, .slice none 0 0])(hg:W.grownBy W' (some g)):Sl E X W' v xs:=
 ((hf.sl (Jc hb) h hgd).keep hg (fun b hb e=>hb.2 (by injection e))).more fun _ _ hb=>hb.1
def ZV(p:Par)(seed:Int)(gt k:Nat)(W:World):Prop:=Bk W gt 174 #[.int .u64 (Qw p.Q seed k), .slice none 0 0, .int .i64 k]
def DT(p:Par)(N gt:Nat)(seed:Int)(k:Nat)(SH:List (List (Int×Int)))(CM:List (List Int))(x:Value)(W:World):Prop:= ∃a b,x= .tuple #[a,b, .int .i64 0]∧Sl (zh zq) (fun k=>N≤k) W a SH∧Sl (zh ze) (fun k=>N≤k) W b CM∧ZV p seed gt k W
theorem zag(p:Par)(D:World)(gt:Nat)(hgt:gt< D.heap.size)(seed:Int)(k:Nat)(SH:List (List (Int×Int)))(CM:List (List Int)):PX D (some gt) (ZV p seed gt 0) (DT p D.heap.size gt seed k SH CM) where
 row:=fun r e=>by injection e with e;omega
 pre:=fun h hg=>h.grown hg (by simp)
 told:=fun ⟨a,b,e,h1,h2,h3⟩ hg=>⟨a,b,e,h1.kept hg,h2.kept hg,h3.grown hg (by simp)⟩
end
section
open Go Go.RowKit
theorem Pk{α:Type}(t:Nat): ∀(ls:List (List α)) (j:Nat),(∀x∈ls,x.length=t)→ls.flatten.drop (j*t)=(ls.drop j).flatten
 |_,0,_=>by simp
 | [],j+1,_=>by simp
 |x::ls,j+1,h=>by
  have hx:x.length=t:=h x mCs;rw [List.flatten_cons,List.drop_succ_cons, ←Pk t ls j fun y hy=>h y (mCm _ hy),show (j+1)*t=x.length+j*t by rw [hx,Nat.add_mul,Nat.one_mul,Nat.add_comm]];rw [←List.drop_drop,List.drop_left]
theorem XR{α:Type}{t:Nat}{ls:List (List α)}(h: ∀x∈ls,x.length=t):chk t ls.flatten ls.length=ls:=by
 refine List.ext_getElem (by simp [zI]) fun j h1 h2=> ?_
 simp only [chk,List.getElem_map,List.getElem_range];rw [Pk t ls j h,List.drop_eq_getElem_cons h2,List.flatten_cons]
 have:=h _ (lGm h2)
 exact List.take_left' this
theorem Ye{α:Type}{t:Nat}: ∀{ls:List (List α)},(∀x∈ls,x.length=t)→ls.flatten.length=ls.length*t
 | [],_=>by simp
 |x::ls,h=>by
  rw [List.flatten_cons,lLa,Ye fun y hy=>h y (mCm _ hy),h x mCs,List.length_cons,Nat.add_mul,Nat.one_mul,Nat.add_comm]
theorem Ny(l:List (Int×Int)):Nz (PZ l) l.length=l:=by
 have h:=XR (t:=2) (ls:=l.map fun x=> [x.1,x.2]) fun x hx=>by
  obtain ⟨y,_,rfl⟩:=List.mem_map.1 hx;rfl
 rw [lLm] at h;unfold Nz PZ;rw [h,List.map_map];refine (List.map_congr_left fun x _=> ?_).trans (List.map_id l);rfl
theorem Uu(M:List (List (List Int)))(a b:List (List (Int×Int))):yz M a b=M.flatten.flatten++(PZ a.flatten++PZ b.flatten):=by simp [yz]
section
variable {p:Par} (hm:Zv p=true)
include hm
theorem Ly:Zp p=true:=by
 obtain ⟨hq,hP,ha,n1,n2,n3,t1,t2,t3,hs,k1,d1⟩:=zx hm;obtain ⟨sk1,sk2,sd1,sd2,_⟩:=Xz hm;rw [xe];omega
theorem RQ:xY p=(ZK p:Int)∧(xY p).toNat=ZK p∧p.T+1=((Yh p+1:Nat):Int)∧(p.T+1).toNat=Yh p+1:=by
 obtain ⟨h1,h2,h3,h4,h5,h6,_⟩:=Zq hm;obtain ⟨sk1,sk2,sd1,sd2,_⟩:=Xz hm;have e:xY p=(ZK p:Int):=by
  unfold xY ZK;have a:(p.K.toNat:Int)=p.K:=by omega
  have b:(p.D.toNat:Int)=p.D:=by omega
  rw [Int.natCast_mul,Int.natCast_add,a,b];rfl
 exact ⟨e,by rw [e];rfl,by omega,by omega⟩
theorem PC{M:List (List (List Int))}{a b:List (List (Int×Int))}{k:Nat}(hk:k≤3)(m1:M.length=ZK p∧ ∀x∈M,x.length=Yh p+1∧ ∀y∈x,y.length=Yh p+1)(a1:a.length=ZK p∧ ∀x∈a,x.length=k)(b1:b.length=ZK p∧ ∀x∈b,x.length=k):
  Uy p (yz M a b).length (k:Int)=0∧TD p (yz M a b) (k:Int)=M∧Qb p (yz M a b) (k:Int)=a∧Qa p (yz M a b) (k:Int)=b∧(yz M a b).length≤1500:=by
 obtain ⟨e1,e2,e3,e4⟩:=RQ hm;have hf:M.flatten.length=ZK p*(Yh p+1):=by rw [Ye fun x hx=>(m1.2 x hx).1,m1.1]
 have hf2: ∀y∈M.flatten,y.length=Yh p+1:=fun y hy=>by
  obtain ⟨x,hx,hy⟩:=List.mem_flatten.1 hy;exact (m1.2 x hx).2 y hy
 have hff:M.flatten.flatten.length=ZK p*(Yh p+1)*(Yh p+1):=by rw [Ye hf2,hf]
 have ha:(PZ a.flatten).length=2*ZK p*k:=by rw [YE,Ye a1.2,a1.1,Nat.mul_assoc]
 have hb:(PZ b.flatten).length=2*ZK p*k:=by rw [YE,Ye b1.2,b1.1,Nat.mul_assoc]
 have hE:Uy p (yz M a b).length (k:Int)=0:=by
  unfold Uy;rw [if_pos ⟨Ly hm,by omega,by omega⟩,if_pos];rw [Uu,lLa,lLa,hff,ha,hb,e1,e3];simp only [Int.natCast_add,Int.natCast_mul]
  grind
 refine ⟨hE, ?_, ?_, ?_, ?_⟩
 ·unfold TD;rw [if_pos hE,e2,e4,Uu,List.take_left' hff, ←hf,XR hf2, ←m1.1,XR fun x hx=>(m1.2 x hx).1]
 ·unfold Qb;rw [if_pos hE,e2,e4,Uu,List.drop_left' hff,Int.toNat_natCast,List.take_left' ha]
  have:ZK p*k=a.flatten.length:=by rw [Ye a1.2,a1.1]
  rw [this,Ny, ←a1.1,XR a1.2]
 ·unfold Qa;rw [if_pos hE,e2,e4,Uu,Int.toNat_natCast, ←List.drop_drop,List.drop_left' hff,List.drop_left' ha]
  have:ZK p*k=b.flatten.length:=by rw [Ye b1.2,b1.1]
  rw [this,Ny, ←b1.1,XR b1.2]
 ·obtain ⟨h1,h2,h3,h4,_⟩:=Zq hm;rw [Uu,lLa,lLa,hff,ha,hb];have q1:ZK p*(Yh p+1)≤10*3:=Nat.mul_le_mul h4 (by omega);have q2:ZK p*(Yh p+1)*(Yh p+1)≤30*3:=Nat.mul_le_mul q1 (by omega);have q3:2*ZK p*k≤20*3:=Nat.mul_le_mul (by omega) hk;omega
end
structure Db (x:zw):Prop where
 a: ∀c∈x.a, ∀y∈c,0≤y.1∧0≤y.2
 b: ∀c∈x.b, ∀y∈c,0≤y.1∧0≤y.2
structure Xk (E:zy) (x:zw):Prop where
 ok:ZE (xY E.p).toNat (E.p.T+1).toNat (E.p.T+1).toNat x
 bond:yx E.p x.m E.coms E.dealer=true
 a:xu E.p x.a (zD E.p x.m E.me)=true
 b:xu E.p x.b (yq E.p x.m E.me)=true
 nn:Db x
structure ZD (E:zy) (i:Int) (x:zw):Prop where
 ok:ZE (xY E.p).toNat (E.p.T+1).toNat 1 x
 bond:yx E.p x.m E.coms E.dealer=true
 a:Xa E.p (zD E.p x.m i) E.me (zv x.a)=true
 b:Xa E.p (zD E.p x.m E.me) i (zv x.b)=true
 nn:Db x
theorem KK{l:List Int}(h: ∀y∈l,0≤y)(n:Nat): ∀y∈Nz l n,0≤y.1∧0≤y.2:=fun y hy=>by
 unfold Nz chk at hy;obtain ⟨c,hc,rfl⟩:=List.mem_map.1 hy;obtain ⟨j,_,rfl⟩:=List.mem_map.1 hc;have key: ∀k:Nat,(0:Int)≤((l.drop (j*2)).take 2)[k]?.getD 0:=fun k=>by
  rcases Nat.lt_or_ge k ((l.drop (j*2)).take 2).length with hk|hk
  ·rw [List.getElem?_eq_getElem hk];exact h _ (List.mem_of_mem_drop (mMt (lGm hk)))
  ·rw [List.getElem?_eq_none hk];exact Int.le_refl 0
 exact ⟨key 0,key 1⟩
theorem Ig{α:Type}{n k:Nat}{l c:List α}(h:c∈chk n l k): ∀x∈c,x∈l:=fun x hx=>by
 obtain ⟨j,_,rfl⟩:=List.mem_map.1 h;exact List.mem_of_mem_drop (mMt hx)
theorem Ja{E:zy}{l:List Int}(h: ∀y∈l,0≤y)(k:Int):Db (zA E l k).1:=by
 refine ⟨fun c hc y hy=> ?_,fun c hc y hy=> ?_⟩
 ·simp only [zA,Qb] at hc;split at hc
  ·exact KK (fun y hy=>h y (List.mem_of_mem_drop (mMt hy))) _ y (Ig hc y hy)
  ·cases hc
 ·simp only [zA,Qa] at hc;split at hc
  ·exact KK (fun y hy=>h y (List.mem_of_mem_drop hy)) _ y (Ig hc y hy)
  ·cases hc
theorem QM{E:zy}{l:List Int}{k:Int}(h:(zA E l k).2=true):yx E.p (zA E l k).1.m E.coms E.dealer=true:=by
 simp only [zA,Bool.and_eq_true] at h;exact h.2
theorem Tn{E:zy}{l:List Int}(hl: ∀y∈l,0≤y)(h:(zu E l).2=true):Xk E (zu E l).1:=by
 simp only [zu,Bool.and_eq_true] at h;exact ⟨(Rt h.1.1).1,QM h.1.1,h.1.2,h.2,Ja hl _⟩
theorem YX{E:zy}{i:Int}{l:List Int}(hl: ∀y∈l,0≤y)(h:(zi E i l).2=true):ZD E i (zi E i l).1:=by
 simp only [zi,Bool.and_eq_true] at h;exact ⟨(Rt h.1.1).1,QM h.1.1,h.1.2,h.2,Ja hl _⟩
theorem QN{E:zy}(hm:Zv E.p=true){x:zw}{k:Nat}(hk:k≤3)(ho:ZE (xY E.p).toNat (E.p.T+1).toNat k x)(hb:yx E.p x.m E.coms E.dealer=true):zA E (yz x.m x.a x.b) (k:Int)=(x,true):=by
 obtain ⟨e1,e2,e3,e4⟩:=RQ hm;rw [e2,e4] at ho;obtain ⟨h1,h2,h3,h4,_⟩:=PC hm hk ho.m ho.a ho.b;unfold zA;rw [h2,h3,h4,decide_eq_true h1,hb];rfl
theorem Qq{p:Par}(hm:Zv p=true):((p.T+1).toNat:Int)=p.T+1∧(p.T+1).toNat≤3∧2≤(p.T+1).toNat:=by
 obtain ⟨_,_,_,hN1,hN2,_,hT1,hT2,_⟩:=zx hm;omega
theorem TF{E:zy}(hm:Zv E.p=true){x:zw}(h:Xk E x):zu E (yz x.m x.a x.b)=(x,true):=by
 have e:=QN hm (Qq hm).2.1 h.ok h.bond;rw [(Qq hm).1] at e;unfold zu;rw [e];dsimp only;rw [h.a,h.b];rfl
theorem UI{E:zy}(hm:Zv E.p=true){i:Int}{x:zw}(h:ZD E i x):zi E i (yz x.m x.a x.b)=(x,true):=by
 have e:=QN hm (k:=1) (by decide) h.ok h.bond;rw [show ((1:Nat):Int)=1 from rfl] at e;unfold zi;rw [e];dsimp only;rw [h.a,h.b];rfl
theorem VE(l:List (Int×Int)):zv (zB l)=l:=by
 unfold zv zB;rw [List.map_map];exact (List.map_congr_left fun _ _=>rfl).trans (List.map_id l)
theorem FE{q:Int}(hq:zO q=true)(x:Int)(c:List (Int×Int)):0≤(atP q x c).1∧0≤(atP q x c).2:=⟨(YI hq _ x).1,(YI hq _ x).1⟩
theorem Fu{p:Par}(hm:Zv p=true){l:List (List (Int×Int))}{cs:List (List Int)}(hn: ∀c∈l, ∀y∈c,0≤y.1∧0≤y.2)(h:xu p l cs=true){k:Int}(hk:0≤k):Xa p cs k (l.map (atP p.Q k))=true:=by
 have h:=of_decide_eq_true h;refine decide_eq_true ?_;unfold zC;rw [←h,List.map_map,List.map_map];exact List.map_congr_left fun c hc=>(Ir (Vi hm) k hk c (hn c hc)).symm
theorem KG{s t k:Nat}{x:zw}(ht:1≤t)(h:ZE s t k x): ∀M∈x.m,M≠ []∧ ∀r∈M,r.length=t:=fun M hM=>⟨fun e=>by have:=(h.m.2 M hM).1;rw [e] at this;simp at this;omega,(h.m.2 M hM).2⟩
theorem Eg{p:Par}{s t k:Nat}{x:zw}(h:ZE s t k x)(i:Int):ZE s t 1 ⟨x.m,zB (x.a.map (atP p.Q i)),zB (x.b.map (atP p.Q i))⟩:=
 ⟨h.m,⟨by simp [zB,h.a.1],fun c hc=>by obtain ⟨y,_,rfl⟩:=List.mem_map.1 hc;rfl⟩,⟨by simp [zB,h.b.1],fun c hc=>by obtain ⟨y,_,rfl⟩:=List.mem_map.1 hc;rfl⟩⟩
theorem JD{E F:zy}(hm:Zv E.p=true)(ep:F.p=E.p)(ec:F.coms=E.coms)(ed:F.dealer=E.dealer)(hF:0≤F.me)(hE:0≤E.me){x:zw}(h:Xk E x):ZD F E.me ⟨x.m,zB (x.a.map (atP E.p.Q F.me)),zB (x.b.map (atP E.p.Q F.me))⟩:=by
 have hg:=Vi hm;refine ⟨by rw [ep];exact Eg h.ok F.me,by rw [ep,ec,ed];exact h.bond, ?_, ?_, ?_⟩
 ·dsimp only;rw [ep,VE];exact Fu hm h.nn.a h.a hF
 ·dsimp only;rw [ep,VE];have k:=of_decide_eq_true (Fu hm h.nn.b h.b hF);refine decide_eq_true (k.trans ?_);exact (TN hg.P x.m _ (KG (by have:=(Qq hm).2.2;omega) h.ok) F.me E.me).symm
 ·refine ⟨fun c hc y hy=> ?_,fun c hc y hy=> ?_⟩
  ·obtain ⟨z,hz,rfl⟩:=List.mem_map.1 hc;rw [mSg] at hy;subst hy;obtain ⟨c,_,rfl⟩:=List.mem_map.1 hz;exact FE hg.Q _ _
  ·obtain ⟨z,hz,rfl⟩:=List.mem_map.1 hc;rw [mSg] at hy;subst hy;obtain ⟨c,_,rfl⟩:=List.mem_map.1 hz;exact FE hg.Q _ _
theorem ER{p:Par}{m:List (List (List Int))}{coms:List (List Int)}{d:Int}(h:yx p m coms d=true):xT p m=true:=by
 simp only [yx,Bool.and_eq_true] at h;exact h.1.1
theorem CB{p:Par}{m:List (List (List Int))}(h:xT p m=true):(m.length:Int)=zU p∧ ∀M∈m,(M.length:Int)=wrap64 (p.T+1)∧ ∀r∈M,(r.length:Int)=wrap64 (p.T+1)∧ ∀y∈r,isB p y=true:=by
 simp only [xT,Bool.and_eq_true,decide_eq_true_eq,Bool.not_eq_true',List.any_eq_false] at h;refine ⟨h.1,fun M hM=> ?_⟩;have h1:=h.2 M hM;simp only [ZY,LR,Bool.not_eq_true',Bool.not_eq_false,Bool.and_eq_true,decide_eq_true_eq,List.any_eq_false,yB,Bool.or_eq_true,not_or,ne_eq,Decidable.not_not] at h1;refine ⟨h1.1,fun r hr=> ?_⟩;have h2:=h1.2 r hr;refine ⟨h2.1,fun y hy=> ?_⟩
 have:=h2.2
 simp only [Bool.not_eq_true,List.any_eq_false] at this;simpa using this y hy
end
section
open Go
structure Sm (p:Par):Prop where
 P:p.P=23
 Q:p.Q=11
 G:p.G=4
 H:p.H=9
def c23(k:Int):Int:=4 ^ k.toNat%23
def L8(x:Int×Int):Int:=(x.1+8*x.2)%11
theorem GX: ∀a∈List.range 11, ∀b∈List.range 11,c23 (a:Int)=c23 (b:Int)→a=b:=by decide+kernel
theorem EQ{a b:Int}(ha:0≤a∧a< 11)(hb:0≤b∧b< 11)(h:c23 a=c23 b):a=b:=by
 have ea:((a.toNat:Nat):Int)=a:=by omega
 have eb:((b.toNat:Nat):Int)=b:=by omega
 have:=GX a.toNat (List.mem_range.2 (by omega)) b.toNat (List.mem_range.2 (by omega)) (by rw [ea,eb];exact h)
 omega
theorem Ch(x:Int×Int):0≤L8 x∧L8 x< 11:=by unfold L8;omega
theorem AT:Cg 23 9 (4 ^ 8):=by show (9:Int)%23=4 ^ 8%23;decide
theorem AY:Cg 23 (4 ^ 11) 1:=by show (4:Int) ^ 11%23=1%23;decide
section
variable {p:Par} (hs:Sm p) (hm:Zv p=true)
include hs hm
theorem XP(x:Int×Int)(h1:0≤x.1)(h2:0≤x.2):zj p x=c23 (L8 x):=by
 rw [ZR p x (Vi hm).P,hs.P,hs.G,hs.H];have e9:Cg 23 (9 ^ x.2.toNat) (4 ^ (8*x.2.toNat)):=by
  rw [Int.pow_mul];exact AT.pow _
 have e1:Cg 23 (4 ^ x.1.toNat*9 ^ x.2.toNat) (4 ^ (x.1.toNat+8*x.2.toNat)):=by
  rw [Int.pow_add];exact e9.mul_left _
 have e2:=e1.trans (NA AY (x.1.toNat+8*x.2.toNat));have e3:(x.1.toNat+8*x.2.toNat)%11=(L8 x).toNat:=by unfold L8;omega
 rw [e3] at e2;exact e2
def lg(y:Int):Int:=((((List.range 11).find? fun k=>decide ((4:Int) ^ k%23=y)).getD 0:Nat):Int)
omit hs hm in
theorem DG: ∀y∈List.range 23,1≤y→(YW (y:Int) 11 23==1)=true→c23 (lg (y:Int))=(y:Int)∧lg (y:Int)< 11:=by decide+kernel
omit hm in
theorem Gu{y:Int}(h:isB p y=true):c23 (lg y)=y∧0≤lg y∧lg y< 11:=by
 simp only [isB,Bool.and_eq_true,decide_eq_true_eq] at h;rw [hs.P,hs.Q] at h;have e:((y.toNat:Nat):Int)=y:=by omega
 have:=DG y.toNat (List.mem_range.2 (by omega)) (by omega) (by rw [e];exact h.2)
 rw [e] at this;exact ⟨this.1,iNn _,this.2⟩
omit hs hm in
theorem EP: ∀k∈List.range 11,(1≤c23 (k:Int)∧c23 (k:Int)< 23)∧(YW (c23 (k:Int)) 11 23==1)=true:=by decide+kernel
omit hm in
theorem DY{k:Int}(h:0≤k∧k< 11):isB p (c23 k)=true:=by
 have e:((k.toNat:Nat):Int)=k:=by omega
 have:=EP k.toNat (List.mem_range.2 (by omega))
 rw [e] at this;simp only [isB,Bool.and_eq_true,decide_eq_true_eq];rw [hs.P,hs.Q];exact this
omit hs hm in
theorem Ph{α:Type}(x:Int): ∀l:List α,evZ x (l.map fun _=>(0:Int))=0
 | []=>rfl
 |_::l=>by
  show 0+x*evZ x (l.map fun _=>(0:Int))=0;rw [Ph x l];simp
theorem Ca{l:List Int}(hl: ∀y∈l,isB p y=true){i:Int}(hi:0≤i):atI p l i=c23 (evZ i (l.map lg)%11):=by
 have hg:=Vi hm;have e:l=(l.map fun y=>(lg y,(0:Int))).map (zj p):=by
  rw [List.map_map];refine (List.map_id l).symm.trans (List.map_congr_left fun y hy=> ?_);obtain ⟨h1,h2,h3⟩:=Gu hs (hl y hy);show y=zj p (lg y,0);rw [XP hs hm _ h2 (Int.le_refl 0),show L8 (lg y,0)=lg y by unfold L8;dsimp only;omega,h1]
 conv=>lhs;rw [e]
 rw [Ir hg i hi _ (fun y hy=>by obtain ⟨z,hz,rfl⟩:=List.mem_map.1 hy;exact ⟨(Gu hs (hl z hz)).2.1,Int.le_refl 0⟩)];rw [XP hs hm _ (YI hg.Q _ i).1 (YI hg.Q _ i).1]
 congr 1
 rw [List.map_map,List.map_map,hs.Q];have z:zH 11 (l.map (Prod.snd ∘ fun y=>(lg y,(0:Int)))) i=0:=by
  rw [←JH Tj];show evZ i (l.map fun _=>(0:Int))%11=0;rw [Ph];rfl
 have f:zH 11 (l.map (Prod.fst ∘ fun y=>(lg y,(0:Int)))) i=evZ i (l.map lg)%11:=(JH Tj _ _).symm;rw [z,f];unfold L8;dsimp only;omega
theorem Cb{l:List Int}(hl: ∀y∈l,isB p y=true){i:Int}(hi:0≤i):isB p (atI p l i)=true:=by
 rw [Ca hs hm hl hi];exact DY hs (by omega)
omit hs hm in
theorem Fv(x:Int): ∀f r:List Int,f.length=r.length→Cg 11 (evZ x ((f.zip r).map L8)) (evZ x f+8*evZ x r)
 | [], [],_=>Cg.refl _ _
 |a::f,b::r,h=>by
  have ih:=Fv x f r (by simpa using h);show Cg 11 (L8 (a,b)+x*evZ x ((f.zip r).map L8)) ((a+x*evZ x f)+8*(b+x*evZ x r));refine ((show Cg 11 (L8 (a,b)) (a+8*b) from Cg.mod _ _).add (ih.mul_left x)).trans (Cg.of_eq ?_)
  grind
omit hs hm in
theorem Np(xs ys:List Int)(n:Nat)(hn:0< n): ∀y∈Zu 11 xs ys n,0≤y∧y< 11:=fun y hy=>by
 obtain ⟨m,rfl⟩: ∃m,n=m+1:=⟨n - 1,by omega⟩;rw [ZM] at hy;unfold VT at hy;rw [if_pos Tj] at hy;obtain ⟨j,_,rfl⟩:=List.mem_map.1 hy;rw [yO _ _ _ Tj];omega
omit hs hm in
theorem Kq:Yu.all (fun xs=>xs.all fun x=>decide (0< x))=true:=by decide+kernel
theorem FM{xs:List Int}(hx:xs∈Yu){l:List Int}(hl:l.length=xs.length)(hg: ∀y∈l,isB p y=true){ps:List (Int×Int)}(hp:ps.length=xs.length)(nn: ∀y∈ps,0≤y.1∧0≤y.2)(hv: ∀k (h:k< ps.length),zj p ps[k]=atI p l (xC xs k)):
  (((Xn 11 xs (ps.map (·.1))).zip (Xn 11 xs (ps.map (·.2)))).map (zj p)=l)∧ ∀y∈(Xn 11 xs (ps.map (·.1))).zip (Xn 11 xs (ps.map (·.2))),0≤y.1∧0≤y.2:=by
 have hS:=FS hx;have hlen:0< xs.length:=by rcases hS.len with h|h<;>omega
 rw [Rh hx,Rh hx,if_pos (by simp [hp]),if_pos (by simp [hp])];obtain ⟨f,hf⟩:=exq (Zu 11 xs (ps.map (·.1)) xs.length);obtain ⟨r,hr⟩:=exq (Zu 11 xs (ps.map (·.2)) xs.length);have lf:f.length=xs.length:=by rw [hf];exact Vb hS _ _ (nRf _)
 have lr:r.length=xs.length:=by rw [hr];exact Vb hS _ _ (nRf _)
 have bf:=Np xs (ps.map (·.1)) xs.length hlen;have br:=Np xs (ps.map (·.2)) xs.length hlen;have vf:=No hS (ps.map (·.1));have vr:=No hS (ps.map (·.2));rw [←hf] at bf vf ⊢;rw [←hr] at br vr ⊢;have hnn: ∀y∈f.zip r,0≤y.1∧0≤y.2:=fun y hy=>⟨(bf _ (List.of_mem_zip hy).1).1,(br _ (List.of_mem_zip hy).2).1⟩
 have key:(f.zip r).map L8=l.map lg:=by
  refine FL hS (by simp [lf,lr]) (by rw [lLm,hl]) (fun y hy=> ?_) (fun y hy=> ?_) fun k hk=> ?_
  ·obtain ⟨z,_,rfl⟩:=List.mem_map.1 hy;exact Ch z
  ·obtain ⟨z,hz,rfl⟩:=List.mem_map.1 hy;exact (Gu hs (hg z hz)).2
  ·have hkp:k< ps.length:=by omega
   have e:=hv k hkp;have n1:=nn _ (lGm hkp);have hpos:0≤xC xs k:=by
    have h1:=List.all_eq_true.1 (List.all_eq_true.1 Kq xs hx) (xs[k]) (lGm hk);unfold xC;rw [List.getElem?_eq_getElem hk];simp only [decide_eq_true_eq] at h1;exact Int.le_of_lt h1
   rw [XP hs hm _ n1.1 n1.2,Ca hs hm hg hpos] at e;have e2:=EQ (Ch _) (by omega) e;have v1:=vf k hk;have v2:=vr k hk;rw [List.getElem?_map,List.getElem?_eq_getElem hkp] at v1 v2;simp only [Option.map_some,Option.getD_some] at v1 v2;refine (Fv _ f r (by rw [lf,lr])).trans ((v1.add (v2.mul_left 8)).trans ?_);unfold Cg;rw [←e2];rfl
 refine ⟨?_,hnn⟩;have h1:(f.zip r).map (zj p)=((f.zip r).map L8).map c23:=by
  rw [List.map_map];exact List.map_congr_left fun y hy=>XP hs hm y (hnn y hy).1 (hnn y hy).2
 rw [h1,key,List.map_map];exact (List.map_congr_left fun y hy=>(Gu hs (hg y hy)).1).trans (List.map_id l)
end
theorem Uf{E:zy}(hm:Zv E.p=true)(hs:Sm E.p){st:ASt}{bs:List (Int×Int)}(hb:bs.map (·.2)∈Yu){one:zw→List (Int×Int)}{cs:List (List Int)}(hcs:cs.length=E.coms.length)(hc: ∀c∈cs,c.length=bs.length∧ ∀y∈c,isB E.p y=true)
  (hone: ∀h∈bs, ∃x,st.heard h.1 h.2=some x∧(∀y∈one x,0≤y.1∧0≤y.2)∧Xa E.p cs h.2 (one x)=true):
  xu E.p (zS E st bs one) cs=true∧ ∀c∈zS E st bs one, ∀y∈c,0≤y.1∧0≤y.2:=by
 have key: ∀s (h:s< cs.length),(((Xn 11 (bs.map (·.2)) ((bs.map fun h=>(xy st h one)[s]?.getD (0,0)).map (·.1))).zip (Xn 11 (bs.map (·.2)) ((bs.map fun h=>(xy st h one)[s]?.getD (0,0)).map (·.2)))).map (zj E.p)=cs[s])∧ ∀y∈(Xn 11 (bs.map (·.2)) ((bs.map fun h=>(xy st h one)[s]?.getD (0,0)).map (·.1))).zip (Xn 11 (bs.map (·.2)) ((bs.map fun h=>(xy st h one)[s]?.getD (0,0)).map (·.2))),0≤y.1∧0≤y.2:=fun s hsl=>by
  have hcm:=hc _ (lGm hsl);have hget: ∀h∈bs, ∃x,xy st h one=one x∧(∀y∈one x,0≤y.1∧0≤y.2)∧ ∃hl:s< (one x).length,zj E.p (one x)[s]=atI E.p cs[s] h.2:=fun h hh=>by
   obtain ⟨x,h1,h2,h3⟩:=hone h hh;have h3:=of_decide_eq_true h3;refine ⟨x,by unfold xy;rw [h1],h2, ?_⟩;have hl:s< (one x).length:=by
    have:=congrArg List.length h3
    simp only [List.length_map,zC] at this;omega
   refine ⟨hl, ?_⟩;have h4:((one x).map (zj E.p))[s]? =(zC E.p cs h.2)[s]? :=by rw [h3]
   unfold zC at h4;rw [List.getElem?_map,List.getElem?_map,List.getElem?_eq_getElem hl,List.getElem?_eq_getElem hsl] at h4;simpa using h4
  refine FM hs hm hb (by rw [lLm,hcm.1]) hcm.2 (by simp) (fun y hy=> ?_) fun k hk=> ?_
  ·obtain ⟨h,hh,rfl⟩:=List.mem_map.1 hy;obtain ⟨x,e,h2,hl,_⟩:=hget h hh;rw [e,List.getElem?_eq_getElem hl];exact h2 _ (lGm hl)
  ·have hkb:k< bs.length:=by simpa using hk
   obtain ⟨x,e,h2,hl,h3⟩:=hget _ (lGm hkb);rw [List.getElem_map,e,List.getElem?_eq_getElem hl,Option.getD_some,h3];unfold xC;rw [List.getElem?_map,List.getElem?_eq_getElem hkb];rfl
 have e:zS E st bs one=(List.range cs.length).map fun s=>(Xn 11 (bs.map (·.2)) ((bs.map fun h=>(xy st h one)[s]?.getD (0,0)).map (·.1))).zip (Xn 11 (bs.map (·.2)) ((bs.map fun h=>(xy st h one)[s]?.getD (0,0)).map (·.2))):=by
  unfold zS VS;rw [hs.Q,hcs];refine List.map_congr_left fun s _=> ?_
  simp only [List.map_map];rfl
 refine ⟨?_,fun c hc y hy=> ?_⟩
 ·refine decide_eq_true ?_;rw [e,List.map_map];refine List.ext_getElem (by simp) fun s h1 h2=> ?_
  rw [List.getElem_map,List.getElem_range];exact (key s h2).1
 ·rw [e] at hc;obtain ⟨s,hsl,rfl⟩:=List.mem_map.1 hc;exact (key s (List.mem_range.1 hsl)).2 y hy
end
end Go.Proofs.YtkdfjkdphdfclaaGreatDoor
