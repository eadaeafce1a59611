/- Part 9 of the proof of a card of AvssAnew. -/
import Derived.Test.YtkdfjkdphdfclaaGreatDoorV5
import Derived.Test.YtkdfjkdphdfclaaGreatDoorV7
set_option maxRecDepth 100000
set_option maxHeartbeats 16000000
set_option linter.unusedVariables false
set_option linter.unusedSimpArgs false
namespace Go.Proofs.YtkdfjkdphdfclaaGreatDoor
open Tryz
section
open Go Go.RowKit

end
section
open Go Go.RowKit Go.Shelf
def BE(l:List Int)(q:Int)(dr:Nat→Int)(T k s:Nat):List Int:=Xf (l[s]?.getD 0) q dr T (k+s*(2*T+1))
def BD(q:Int)(dr:Nat→Int)(T k s:Nat):List Int:=Xf (dr (k+s*(2*T+1)+T)) q dr T (k+s*(2*T+1)+T+1)
def ZC(l:List Int)(q:Int)(dr:Nat→Int)(T k n:Nat):List (List Int):=(List.range n).map (BE l q dr T k)
def ZB(q:Int)(dr:Nat→Int)(T k n:Nat):List (List Int):=(List.range n).map (BD q dr T k)
theorem EG{α:Type}(f:Nat→α)(n:Nat):(List.range (n+1)).map f=(List.range n).map f++ [f n]:=by simp [List.range_succ]
def AJ(n:Nat)(a b:Int)(v:Value)(w:World):Prop:= ∃g,v= .slice (some ⟨g,0,none⟩) 1 1∧n≤g∧Bk w g 153 #[.int .u64 a, .int .u64 b]
theorem Bk.two{w:World}{b:Nat}{t:TypeId}{u v:Value}(h:Bk w b t #[u,v]): ∀j x, [u,v][j]? =some x→w.cell? ⟨b,j,none⟩=some x:=fun j x hv=>by rw [h.cell j];simpa using hv
def GB(wi:World)(base N:Nat)(v:Value)(xs:List (Int×Int))(y:Int×Int):Lt where
 C vs W:=wi.grownBy W v.ownBlock∧N≤W.heap.size∧match vs with
  | []=>Acc zq base 153 (fun g=>base≤g) W v xs
  | [u]=>Acc zq base 153 (fun g=>base≤g) W u (xs++ [y])
  |_=>False
 R _ _ _:=True
 g:=fun {vs X Y} ⟨h1,h2,h3⟩ hg=>⟨h1.trans (hg.but _),nLT h2 hg.size,by
  match vs,h3 with
  | [],h3=>exact h3.kept hg
  | [_],h3=>exact h3.kept hg⟩
def evP{wi:World}{base N0:Nat}{v0:Value}{xs:List (Int×Int)}{y:Int×Int}(N:Nat)(a b:Int):Qv (GB wi base N0 v0 xs y) where
 p vs v W:=vs= []→AJ N a b v W
 fr:=0
 st:=fun h hg e=>by
  obtain ⟨g,e1,hb,hk⟩:=h e;exact ⟨g,e1,hb,hk.grown hg (by simp)⟩
 sr:=fun _ _ _ _ e=>absurd e (by simp)
def Qd(p:Par)(F R:List (List Int))(i s:Nat):List (Int×Int):=(List.range s).map fun k=>(zH p.Q (F[k]?.getD []) ((i:Int)+1),zH p.Q (R[k]?.getD []) ((i:Int)+1))
theorem JG(p:Par)(F R:List (List Int))(i s:Nat):Qd p F R i (s+1)=Qd p F R i s++ [(zH p.Q (F[s]?.getD []) ((i:Int)+1),zH p.Q (R[s]?.getD []) ((i:Int)+1))]:=EG _ _
theorem GA(p:Par)(F R:List (List Int))(i:Nat):Qd p F R i F.length=ZQ p F R ((i:Int)+1):=rfl
theorem Ln(p:Par)(vl:Value)(l:List Int)(X:Nat→Prop)(w:World){g:Nat}{dr:Nat→Int}{TI:Nat→World→Prop}{bl:Nat→Prop}{a0:Nat}(hT:Tp g p.Q dr TI bl a0)(hp:p.ok)(hm:Zv p=true)(G0:ye w)(h:Sl ze X w vl l)(hX: ∀b,X b→b≠g)(hl:(l.length:Int)=zU p)(k0 T:Nat)(S1:(T:Int)=p.T)(hI:TI k0 w)(i0:k0+l.length*(2*T+1)≤a0):
  Calls prog 45 #[p.v,vl, .pointer (some ⟨g,0,none⟩)] w fun e w'=> ∃vs vc,e= .returned (.tuple #[vs,vc, .int .i64 0])∧Sl (zh zq) (fun b=>w.heap.size≤b) w' vs ((List.range p.N.toNat).map fun i:Nat=>ZQ p (ZC l p.Q dr T k0 l.length) (ZB p.Q dr T k0 l.length) ((i:Int)+1))∧Sl (zh ze) (fun b=>w.heap.size≤b) w' vc (yy p (ZC l p.Q dr T k0 l.length) (ZB p.Q dr T k0 l.length))∧TI (k0+l.length*(2*T+1)) w'∧w.grownBy w' (some g):=by
 have HT:=za hT;have HP:=za hp;have HX:=za hX;obtain ⟨hq,_,_,n1,n2,n3,t1,t2,t3,hs,kk1,dd1⟩:=zx hm;have b1:=YR hs;have HQ:Hid (U64 p.Q∧0< p.Q):=za ⟨hp.Q,VX hq⟩;have s1:l.length≤10:=by omega
 have e3:T≤2:=by omega
 obtain ⟨N,hN⟩: ∃k:Nat,(k:Int)=p.N:=⟨p.N.toNat,by omega⟩;have T1:p.N.toNat=N:=by omega
 have x3:N≤7:=by omega
 have HN:=za hN;obtain ⟨A,c,rfl,P2,P3⟩:=h.form;have U1:g< w.heap.size:=hT.old hI hT.own;have z3:=za U1;have A1:Hid (∀b,bl b→b< w.heap.size):=za (fun b hb=>hT.old hI hb);obtain ⟨w0,N0⟩:=exq (w.alloc (Obj.cells p.cells 39));have E0:Hid (w.grownBy w0 none):=za (by rw [N0];exact gAl w _ none);have W0:Hid (Bk w0 w.heap.size 39 p.cells):=za (by rw [N0];exact Bk.new w _ _);have y3:Hid (TI k0 w0):=za (hT.keep hI E0.z (by simp));have B1:=za (fun (w':World) (hg:w0.grownBy w' none)=>OI p w' hp (G0.kept (E0.z.trans hg)));rw [hm] at B1;have X2:=za hm;have s0:=za (VG p);rw [←hl] at s0;have HL:=za (h.kept E0.z);have Z2:=za S1;have c2:=za i0;have E3:=za hl;rw [T1];clear hT hp hX hq n1 n2 n3 t1 t2 t3 hs kk1 dd1 b1 hm G0 h hI S1 i0 hl U1 hN T1;go_enter func45,ntmps45;go_wp2_with fail;rw [←N0];have N2:=W0.z.prule;clear N0;go_wp2_with fail;refine (B1.z _ gRf).mono ?_;rintro e w1 ⟨rfl,hg⟩;have B3:Hid (w0.grownBy w1 none):=za hg;have M2:=(W0.z.grown hg (by simp)).prule;clear hg N2 B1;go_wp2_with fail;refine (s0.z _).mono ?_;rintro e w2 ⟨rfl,hg⟩;have x0:Hid (w0.grownBy w2 none):=za (B3.z.trans hg);clear hg M2 s0;go_upto_region 6 with (fail)
 have J1:Hid (Bk w2 w.heap.size 39 p.cells):=za (W0.z.grown x0.z (by simp));have u3:Hid (TI k0 w2):=za (HT.z.keep y3.z x0.z (by simp));have r0:Hid (w.heap.size< w2.heap.size∧g< w.heap.size):=za ⟨J1.z.lt,z3.z⟩;have j0:Hid (∀wx,w2.grownBy wx (some g)→Bk wx w.heap.size 39 p.cells):=za (fun wx hg=>J1.z.grown hg (fun e=>by injection e with e;have:=r0.z.2;omega));have C1:Hid (∀wx,w2.grownBy wx (some g)→Sl ze X wx (.slice A l.length c) l):=za (fun wx hg=>(HL.z.kept x0.z).keep hg (fun b hb e=>HX.z b hb (by injection e with e)));have I1:Hid (∀(x:Int) (k:Nat) (wx:World),U64 x→k+T≤a0→TI k wx→Calls prog 99 #[.int .u64 x, .int .i64 p.T, .int .u64 p.Q, .func (.func 98) #[.pointer (some ⟨g,0,none⟩)] #[]] wx fun e w'=> ∃v,e= .returned v∧Sl ze (fun b=>wx.heap.size≤b) w' v (Xf x p.Q dr T k)∧TI (k+T) w'∧wx.grownBy w' (some g)):=za (fun x k wx hx hk hi=>by
  rw [←Z2.z];exact Vr HT.z x T k wx hx HQ.z.1 HQ.z.2 (by omega) hk hi)
 have a2:Hid (∀(k:Nat) (wx:World),k< a0→TI k wx→Calls prog 98 #[.pointer (some ⟨g,0,none⟩), .int .u64 p.Q] wx fun e w'=>e= .returned (.int .u64 (dr k))∧TI (k+1) w'∧wx.grownBy w' (some g)):=za (fun k wx hk hi=>HT.z.next hk hi);obtain ⟨L,r1⟩:=exq (l.length);have d2:=za r1;rw [←r1] at s1 P2 c2 C1 ⊢;clear r1;go_loopg [10,11,31] L (fun gk s10 s11 s31 wx=> ∃s:Nat,s+gk=L∧s31= .int .i64 s∧Hid (Zj (zh ze) (zh ze) w2.heap.size 31 31 (fun b=>w2.heap.size≤b) wx s10 s11 (ZC l p.Q dr T k0 s) (ZB p.Q dr T k0 s)∧TI (k0+s*(2*T+1)) wx∧w2.grownBy wx (some g)))
 case atStart=>exact ⟨0,by omega,rfl,za ⟨⟨Acc.nil _ _ _ _ _,Acc.nil _ _ _ _ _⟩,by simpa using u3.z,gRr _ _⟩⟩
 case round=>
  obtain ⟨s,H3,rfl,V0⟩:=hrel;have f0:=za V0.z.1;have e0:=za V0.z.2.1;have m0:=za V0.z.2.2;clear V0;have L1:=(j0.z _ m0.z).prule;cases gk with
  |zero=>
   have eL:L=s:=by omega
   subst eL;have O3: ¬((L:Int)< (L:Int)):=by omega
   obtain ⟨F,hF⟩:=exq (ZC l p.Q dr T k0 L);obtain ⟨R,hR⟩:=exq (ZB p.Q dr T k0 L);rw [←hF, ←hR] at f0;have t0:Hid (F.length=L∧R.length=L):=za (by rw [hF,hR];simp [ZC,ZB]);have r2:Hid ((∀c∈F,c.length=T+1)∧(∀c∈R,c.length=T+1)):=za (by
    rw [hF,hR];refine ⟨fun c hc=> ?_,fun c hc=> ?_⟩
    ·obtain ⟨i,_,rfl⟩:=List.mem_map.1 hc;exact xx _ _ _ _ _
    ·obtain ⟨i,_,rfl⟩:=List.mem_map.1 hc;exact xx _ _ _ _ _)
   have v2:=za hF;have E1:=za hR;obtain ⟨AF,cF,eF,_,_⟩:=f0.z.fst.sl.form;obtain ⟨AR,cR,eR,_,_⟩:=f0.z.snd.sl.form;rw [t0.z.1] at eF;rw [t0.z.2] at eR;subst eF eR;have M1:=run_make_row' (P:=prog) 103 72 (.slice none 0 0) 24 Tryz.underlying103 YG rfl .i64 .i64 N (by omega) (by omega);rw [HN.z] at M1;obtain ⟨D0,T0⟩:=exq (wr.alloc (.cells (madeCells #[.slice none 0 0] N) 72));obtain ⟨Bs,v0⟩:=exq (wr.heap.size);have B0:Hid (wr.grownBy D0 none):=za (by rw [T0];exact gAl _ _ none);have C2:Hid (Bk D0 Bs 72 (List.replicate N (.slice none 0 0)).toArray):=za (by
    rw [T0,v0];exact (Bk.new wr 72 (madeCells #[.slice none 0 0] N)).of_eq (Array.toList_inj.1 (by rw [toList_madeCells_one])))
   have M0:Hid (w2.heap.size≤Bs∧w.heap.size< Bs∧g< w.heap.size):=za (by rw [v0];have:=m0.z.size;have:=r0.z;omega);have D2:Hid (Bk D0 w.heap.size 39 p.cells):=za ((j0.z _ m0.z).grown B0.z (by simp));have y2:Hid (Sl (zh ze) (fun b=>b< Bs) D0 (.slice AF L cF) F):=za ((f0.z.fst.sl.bounded.kept B0.z).more fun b _ hb=>by rw [v0];exact hb.2);have W1:Hid (Sl (zh ze) (fun b=>b< Bs) D0 (.slice AR L cR) R):=za ((f0.z.snd.sl.bounded.kept B0.z).more fun b _ hb=>by rw [v0];exact hb.2);have i3:Hid (TI (k0+L*(2*T+1)) D0):=za (HT.z.keep e0.z B0.z (by simp));have i2:Hid (w.grownBy D0 (some g)):=za (((E0.z.trans x0.z).but _).trans (m0.z.trans (B0.z.but _)));have b3:Hid ((List.replicate N (Value.slice none 0 0)).length=N):=za (by simp);have Y0:Hid (Bk D0 Bs 72 (List.replicate N (Value.slice none 0 0)).toArray∧(∀i (hi:i< (List.replicate N (Value.slice none 0 0)).length),i< 0→Sl zq (fun b=>Bs< b) D0 (List.replicate N (Value.slice none 0 0))[i] (ZQ p F R ((i:Int)+1)))∧(∀i (hi:i< (List.replicate N (Value.slice none 0 0)).length),0≤i→(List.replicate N (Value.slice none 0 0))[i]= .slice none 0 0)∧D0.grownBy D0 (some Bs)):=za ⟨C2.z,fun i hi h=>absurd h (Nat.not_lt_zero _),fun i hi _=>by simp,gRr _ _⟩;have X1:Hid (∀wx,D0.grownBy wx (some Bs)→Bk wx w.heap.size 39 p.cells):=za (fun wx hg=>D2.z.grown hg (fun e=>by injection e with e;have:=M0.z;omega));have p2:Hid (∀wx,D0.grownBy wx (some Bs)→Sl (zh ze) (fun b=>b< Bs) wx (.slice AF L cF) F):=za (fun wx hg=>y2.z.keep hg (fun b hb e=>by injection e with e;omega))
   have e1:Hid (∀wx,D0.grownBy wx (some Bs)→Sl (zh ze) (fun b=>b< Bs) wx (.slice AR L cR) R):=za (fun wx hg=>W1.z.keep hg (fun b hb e=>by injection e with e;omega));clear hF hR f0 e0 I1 a2 W0 J1 C2 D2 y2 W1 j0 C1 m0 B0;go_upto_region 13 with (fail)
   rw [←T0, ←v0];clear T0 v0 M1 L1;go_loopg [64] N (fun gk s64 wx=> ∃(j:Nat) (hs:List Value),j+gk=N∧s64= .int .i64 j∧Hid (hs.length=N)∧Hid (Bk wx Bs 72 hs.toArray∧(∀i (hi:i< hs.length),i< j→Sl zq (fun b=>Bs< b) wx hs[i] (ZQ p F R ((i:Int)+1)))∧(∀i (hi:i< hs.length),j≤i→hs[i]= .slice none 0 0)∧D0.grownBy wx (some Bs)))
   case atStart=>exact ⟨0,_,by omega,rfl,b3,Y0⟩
   case round=>
    rename World=>wj
    obtain ⟨i,hs,T3,rfl,z0,d0⟩:=hrel;cases gk with
    |zero=>
     obtain rfl:i=N:=by omega
     have O2: ¬((i:Int)< (i:Int)):=by omega
     have E2:Hid (Sl (zh zq) (fun b=>Bs≤b) wj (.slice (some ⟨Bs,0,none⟩) i i) ((List.range i).map fun k:Nat=>ZQ p F R ((k:Int)+1))):=za (by
      obtain ⟨h1,h2,_,_⟩:=d0.z;have o1:((List.range i).map fun k:Nat=>ZQ p F R ((k:Int)+1)).length=i:=by simp
      have:=Sl.block (E:=zh zq) (X:=fun b=>Bs≤b) (xs:=(List.range i).map fun k:Nat=>ZQ p F R ((k:Int)+1)) (c:=i) h1 (nRf _) (hs.map fun v=> [v]) (by rw [lLm,z0.z,o1]) (fun k hk R3=>⟨hs[k]'(by rw [z0.z];omega),by simp,by
       have hc:=(h2 k (by rw [z0.z];omega) (by omega)).more (Y:=fun b=>Bs≤b) (fun b _ hb=>by omega);have he:((List.range i).map fun k:Nat=>ZQ p F R ((k:Int)+1))[k]=ZQ p F R ((k:Int)+1):=by simp
       rw [he];exact hc⟩) (by rw [zZ]) (by rw [o1];exact nRf _) (by omega)
      rw [o1] at this;exact this)
     have g0:=za d0.z.2.2.2;have L2:=(X1.z _ g0.z).prule;have D3:=za (callsIn_wide.1 (Ia 6 (nRf _) p (.slice AF L cF) (.slice AR L cR) F R TT wj HP.z ((p2.z _ g0.z).more fun _ _ _=>trivial) ((e1.z _ g0.z).more fun _ _ _=>trivial) (by rw [t0.z.1];omega) (by rw [t0.z.2];omega) (fun c hc=>by
      show c.length≤100000;rw [r2.z.1 c hc];omega) (fun c hc=>by
      show c.length≤100000;rw [r2.z.2 c hc];omega)))
     clear d0 Y0 z0;go_wp2_with fail;refine D3.z.mono ?_;rintro e w9 ⟨vc,rfl,hsc,hgc⟩;have b0:Hid (Sl (zh zq) (fun b=>w.heap.size≤b) w9 (.slice (some ⟨Bs,0,none⟩) i i) ((List.range i).map fun k:Nat=>ZQ p (ZC l p.Q dr T k0 L) (ZB p.Q dr T k0 L) ((k:Int)+1))∧Sl (zh ze) (fun b=>w.heap.size≤b) w9 vc (yy p (ZC l p.Q dr T k0 L) (ZB p.Q dr T k0 L))∧TI (k0+L*(2*T+1)) w9∧w.grownBy w9 (some g)):=za ⟨by
      rw [←v2.z, ←E1.z];exact (E2.z.kept hgc).more fun b _ hb=>by have:=M0.z.2.1;omega,by
      rw [←v2.z, ←E1.z];exact hsc.more fun b _ hb=>nLT (nLT i2.z.size g0.z.size) hb,HT.z.keep (HT.z.keep i3.z g0.z (fun b e hb=>by injection e with e;have:=A1.z b hb;have:=M0.z;omega)) hgc (by simp),i2.z.andThen (g0.z.trans (hgc.but _)) (fun b e=> .inl (by injection e with e;have:=M0.z;omega))⟩
     clear hsc hgc L2;go_wp2;go_ret3;refine ⟨_,_,rfl, ?_⟩;rw [←d2.z];exact b0.z
    |succ m=>
     have U3:(i:Int)< (N:Int):=by omega
     have j1:i< hs.length:=by rw [z0.z];omega
     have f2:=za j1;have N1:Bs< wj.heap.size:=d0.z.1.lt;have F1:=za N1;have G1:Hid (Acc zq wj.heap.size 153 (fun b=>wj.heap.size≤b) wj (.slice none 0 0) (Qd p F R i 0)∧Bk wj Bs 72 (hs.set i (.slice none 0 0)).toArray∧wj.grownBy wj (some Bs)):=za ⟨Acc.nil _ _ _ _ _,by
      have:=d0.z.2.2.1 i j1 (nRf _)
      rw [←this,List.set_getElem_self];exact d0.z.1,gRr _ _⟩
     have g0:=za d0.z.2.2.2;clear N1 j1;go_wp2_with fail;go_loopg [69] L (fun gk s69 wx=> ∃(s:Nat) (v:Value),s+gk=L∧s69= .int .i64 s∧Hid (Acc zq wj.heap.size 153 (fun b=>wj.heap.size≤b) wx v (Qd p F R i s)∧Bk wx Bs 72 (hs.set i v).toArray∧wj.grownBy wx (some Bs)))
     case atStart=>exact ⟨0,_,by omega,rfl,G1⟩
     case round=>
      rename World=>wi
      obtain ⟨s,v,K2,rfl,HY⟩:=hrel;cases gk with
      |zero=>
       obtain rfl:s=L:=by omega
       have b0:Hid (Bk wi Bs 72 (hs.set i v).toArray∧(∀k (hk:k< (hs.set i v).length),k< i+1→Sl zq (fun b=>Bs< b) wi (hs.set i v)[k] (ZQ p F R ((k:Int)+1)))∧(∀k (hk:k< (hs.set i v).length),i+1≤k→(hs.set i v)[k]= .slice none 0 0)∧D0.grownBy wi (some Bs)):=za (by
        obtain ⟨h1,h2,h3⟩:=HY.z;obtain ⟨_,k2,k3,k4⟩:=d0.z;refine ⟨h2,fun k hk Q2=> ?_,fun k hk Q2=> ?_,g0.z.trans h3⟩
        ·rcases Nat.lt_or_ge k i with hlt|hge
         ·rw [List.getElem_set_ne (by omega)];exact (k2 k (by simpa using hk) hlt).keep h3 (fun b hb e=>by injection e with e;omega)
         ·obtain rfl:k=i:=by omega
          rw [List.getElem_set_self, ←GA p F R k,t0.z.1];exact h1.sl.more (fun b _ hb=>nLl F1.z hb)
        ·rw [List.getElem_set_ne (by omega)];exact k3 k (by simpa using hk) (by omega))
       have D1:Hid ((hs.set i v).length=N):=za (by rw [List.length_set];exact z0.z);clear d0 HY Y0 G1;go_wp2_with fail;go_roundg m
       case measure=>omega
       case rel=>exact ⟨i+1,_,by omega,by go_num,D1,b0⟩
      |succ q=>
       have I3:(s:Int)< (L:Int):=by omega
       have d1:s< F.length:=by rw [t0.z.1];omega
       have c1:s< R.length:=by rw [t0.z.2];omega
       obtain ⟨c0,S0,O0⟩:=HY.z;have P0:D0.grownBy wi (some Bs):=g0.z.trans O0;obtain ⟨gF,oF,cF',uF,eF,_,l1,Q1,o0⟩:=(p2.z _ P0).atS d1;injection eF with eF1 eF2 eF3
       subst eF1 eF3;obtain ⟨gR,oR,cR',uR,eR,_,k1,P1,n0⟩:=(e1.z _ P0).atS c1;injection eR with eR1 eR2 eR3
       subst eR1 eR3;obtain ⟨Af,nf,cf,ef⟩:=o0.shape;subst ef;obtain ⟨Ar,nr,cr,er⟩:=n0.shape;subst er;obtain ⟨Av,nv,cv,ev⟩:=c0.sl.shape;subst ev;have Z0:=za (JG p F R i s);rw [List.getElem?_eq_getElem d1,List.getElem?_eq_getElem c1] at Z0;have a1:U64 ((i:Int)+1):=⟨by omega,by omega⟩;obtain ⟨ea,R0⟩:=exq (zH p.Q F[s] ((i:Int)+1));obtain ⟨eb,Q0⟩:=exq (zH p.Q R[s] ((i:Int)+1));simp only [Option.getD_some] at Z0;rw [←R0, ←Q0] at Z0;have Y2:Hid (U64 ea):=za (by rw [R0];exact xR _ _ _);have V2:Hid (U64 eb):=za (by rw [Q0];exact xR _ _ _);obtain ⟨NN,p1⟩:=exq (wi.heap.size);have b2:Hid (wj.heap.size≤NN):=za (by rw [p1];exact O0.size);have p0: ∀b,(Value.slice Av nv cv).ownBlock=some b→wj.heap.size≤b:=fun b e=>(c0.lt b e).1
       have F0:wi.cell? ⟨Bs,i,none⟩=some (.slice Av nv cv):=by rw [S0.cell i];simp [f2.z]
       have R1:=X1.z _ P0;have l0:Hid (∀b,b≤Bs→some b≠(Value.slice Av nv cv).ownBlock):=za (fun b hb e=>by have:=p0 b e.symm;have:=F1.z;omega);have B2:Hid ((GB wi wj.heap.size NN (.slice Av nv cv) (Qd p F R i s) (ea,eb)).C [] wi.drew):=za ⟨(zb _ 1).but _,by rw [p1];exact nRf _,c0.kept (zb _ 1)⟩;have A0:Hid (∀vs W,(GB wi wj.heap.size NN (.slice Av nv cv) (Qd p F R i s) (ea,eb)).C vs W→W.cell? ⟨w.heap.size,1,none⟩=some (.int .u64 p.Q)∧W.cell? ⟨gF,oF+s,none⟩=some (.slice Af nf cf)∧W.cell? ⟨gR,oR+s,none⟩=some (.slice Ar nr cr)∧W.cell? ⟨Bs,i,none⟩=some (.slice Av nv cv)):=za (fun vs W hC=>⟨(R1.grown hC.1 (l0.z _ (by have:=M0.z;omega))).cell 1,XS Q1 hC.1 (l0.z _ (by omega)),XS P1 hC.1 (l0.z _ (by omega)),XS F0 hC.1 (l0.z _ (nRf _))⟩);have A2:Hid (∀vs W,(GB wi wj.heap.size NN (.slice Av nv cv) (Qd p F R i s) (ea,eb)).C vs W→Calls prog 88 #[.slice Af nf cf, .int .u64 ((i:Int)+1), .int .u64 p.Q] W fun e w'=>e= .returned (.int .u64 ea)∧W.grownBy w' none):=za (fun vs W hC=>by
        rw [R0];exact YH _ F[s] _ p.Q _ W (o0.keep hC.1 (fun b hb=>l0.z b (by omega))) a1)
       have z2:Hid (∀vs W,(GB wi wj.heap.size NN (.slice Av nv cv) (Qd p F R i s) (ea,eb)).C vs W→Calls prog 88 #[.slice Ar nr cr, .int .u64 ((i:Int)+1), .int .u64 p.Q] W fun e w'=>e= .returned (.int .u64 eb)∧W.grownBy w' none):=za (fun vs W hC=>by
        rw [Q0];exact YH _ R[s] _ p.Q _ W (n0.keep hC.1 (fun b hb=>l0.z b (by omega))) a1)
       have Z1:Hid (∀vs W,(GB wi wj.heap.size NN (.slice Av nv cv) (Qd p F R i s) (ea,eb)).C vs W→NN≤W.heap.size):=za (fun vs W hC=>hC.2.1);have d3:Hid (((Qd p F R i s).length+1)*16≤140737488355328):=za (by simp [Qd];omega);have s2:Hid (∀(W:World) (u0:Value),(GB wi wj.heap.size NN (.slice Av nv cv) (Qd p F R i s) (ea,eb)).C [u0] W→Acc zq wj.heap.size 153 (fun b=>wj.heap.size≤b) (W.setCell ⟨Bs,i,none⟩ u0) u0 (Qd p F R i (s+1))∧Bk (W.setCell ⟨Bs,i,none⟩ u0) Bs 72 (hs.set i u0).toArray∧wj.grownBy (W.setCell ⟨Bs,i,none⟩ u0) (some Bs)):=za (fun W u0 hC=>by
        obtain ⟨g1,_,g3⟩:=hC;have h3:Acc zq wj.heap.size 153 (fun b=>wj.heap.size≤b) W u0 (Qd p F R i (s+1)):=by rw [Z0.z];exact g3
        exact ⟨h3.keep (zo W Bs i u0) (fun b hb e=>by injection e with e;have:=F1.z;omega),((S0.grown g1 (l0.z _ (nRf _))).set i u0).of_eq (by simp),((O0.andThen g1 (fun b e=> .inl (p0 b e))).andThen (zo W Bs i u0) (fun b e=> .inr e))⟩)
       have L0:Hid (∀(W:World) (vs:List Value),(GB wi wj.heap.size NN (.slice Av nv cv) (Qd p F R i s) (ea,eb)).C vs W→Bk W Bs 72 (hs.set i (.slice Av nv cv)).toArray):=za (fun W vs hC=>S0.grown hC.1 (l0.z _ (nRf _)));have Y3:IntKind.u64.wrap ((i:Int)+1)=(i:Int)+1:=IntWalk.u64_in _ (by omega);have Z3:IntKind.i64.wrap ((i:Int)+1)=(i:Int)+1:=i6n _ (by omega);have J3:(0:Int)≤(s:Int):=iNn s;have V3:(0:Int)≤(i:Int):=iNn i;clear c0 S0 O0 P0 o0 n0 Q1 P1 R0 Q0 p1 p0 F0 R1 l1 k1 eF2 eR2 HY G1 Y0 a1 d1 c1;go_upto_region 18 with (fail)
       refine wp_region_late (GB wi wj.heap.size NN (.slice Av nv cv) (Qd p F R i s) (ea,eb)) [28] 30 (by kernel_rfl) (by kernel_rfl) (by kernel_rfl) B2.z ?_;refine lS (.slice (some ⟨Bs,0,none⟩) N N) [] (fun vs w' hC=>lQ fun K hK=> ?_) ?_
       ·go_simp;exact hK _ rfl rfl
       refine lS (.int .i64 (i:Int)) [] (fun vs w' hC=>lQ fun K hK=> ?_) ?_
       ·go_simp;exact hK _ rfl rfl
       refine lS (.slice (some ⟨Bs,0,none⟩) N N) [] (fun vs w' hC=>lQ fun K hK=> ?_) ?_
       ·go_simp;exact hK _ rfl rfl
       refine lS (.int .i64 (i:Int)) [] (fun vs w' hC=>lQ fun K hK=> ?_) ?_
       ·go_simp;exact hK _ rfl rfl
       refine LateR.mono (Qv.eq (.pointer (some ⟨Bs,i,none⟩))) [(2,74),(3,75)] (by kernel_rfl) (by rfl) rfl (fun vs w' hC=> ?_) ?_
       ·rintro _ rfl;rintro _ rfl;refine askl_do rfl fun K hK=> ?_
        go_simp;exact hK _ _ rfl ⟨rfl,gRf⟩
       refine LateR.mono (Qv.eq (.slice Av nv cv)) [(4,76)] (by kernel_rfl) (by rfl) rfl (fun vs w' hC=> ?_) ?_
       ·rintro _ rfl;refine askl_do rfl fun K hK=> ?_
        obtain ⟨q0,q1,q2,q3⟩:=A0.z vs w' hC;go_simp;exact hK _ _ rfl ⟨rfl,gRf⟩
       refine lS (.slice (some ⟨gF,oF,none⟩) L cF) [] (fun vs w' hC=>lQ fun K hK=> ?_) ?_
       ·go_simp;exact hK _ rfl rfl
       refine lS (.int .i64 (s:Int)) [] (fun vs w' hC=>lQ fun K hK=> ?_) ?_
       ·go_simp;exact hK _ rfl rfl
       refine LateR.mono (Qv.eq (.pointer (some ⟨gF,oF+s,none⟩))) [(6,78),(7,79)] (by kernel_rfl) (by rfl) rfl (fun vs w' hC=> ?_) ?_
       ·rintro _ rfl;rintro _ rfl;refine askl_do rfl fun K hK=> ?_
        go_simp;exact hK _ _ rfl ⟨rfl,gRf⟩
       refine LateR.mono (Qv.eq (.slice Af nf cf)) [(8,80)] (by kernel_rfl) (by rfl) rfl (fun vs w' hC=> ?_) ?_
       ·rintro _ rfl;refine askl_do rfl fun K hK=> ?_
        obtain ⟨q0,q1,q2,q3⟩:=A0.z vs w' hC;go_simp;exact hK _ _ rfl ⟨rfl,gRf⟩
       refine lS (.int .i64 (i:Int)) [] (fun vs w' hC=>lQ fun K hK=> ?_) ?_
       ·go_simp;exact hK _ rfl rfl
       refine LateR.mono (Qv.eq (.int .i64 ((i:Int)+1))) [(10,82)] (by kernel_rfl) (by rfl) rfl (fun vs w' hC=> ?_) ?_
       ·rintro _ rfl;refine askl_do rfl fun K hK=> ?_
        go_simp;exact hK _ _ rfl ⟨rfl,gRf⟩
       refine LateR.mono (Qv.eq (.int .u64 ((i:Int)+1))) [(11,83)] (by kernel_rfl) (by rfl) rfl (fun vs w' hC=> ?_) ?_
       ·rintro _ rfl;refine askl_do rfl fun K hK=> ?_
        go_simp;exact hK _ _ rfl ⟨rfl,gRf⟩
       refine lS (.pointer (some ⟨w.heap.size,1,none⟩)) [] (fun vs w' hC=>lQ fun K hK=> ?_) ?_
       ·go_simp;exact hK _ rfl rfl
       refine LateR.mono (Qv.eq (.int .u64 p.Q)) [(13,85)] (by kernel_rfl) (by rfl) rfl (fun vs w' hC=> ?_) ?_
       ·rintro _ rfl;refine askl_do rfl fun K hK=> ?_
        obtain ⟨q0,q1,q2,q3⟩:=A0.z vs w' hC;go_simp;exact hK _ _ rfl ⟨rfl,gRf⟩
       refine LateR.mono (Qv.eq (.int .u64 ea)) [(9,81),(12,84),(14,86)] (by kernel_rfl) (by rfl) rfl (fun vs w' hC=> ?_) ?_
       ·rintro _ rfl;rintro _ rfl;rintro _ rfl;refine askl_do rfl fun K hK=> ?_
        go_simp;refine (A2.z vs w' hC).mono ?_;rintro e w3 ⟨rfl,hg3⟩;exact hK _ _ rfl ⟨rfl,hg3⟩
       refine lS (.slice (some ⟨gR,oR,none⟩) L cR) [] (fun vs w' hC=>lQ fun K hK=> ?_) ?_
       ·go_simp;exact hK _ rfl rfl
       refine lS (.int .i64 (s:Int)) [] (fun vs w' hC=>lQ fun K hK=> ?_) ?_
       ·go_simp;exact hK _ rfl rfl
       refine LateR.mono (Qv.eq (.pointer (some ⟨gR,oR+s,none⟩))) [(16,88),(17,89)] (by kernel_rfl) (by rfl) rfl (fun vs w' hC=> ?_) ?_
       ·rintro _ rfl;rintro _ rfl;refine askl_do rfl fun K hK=> ?_
        go_simp;exact hK _ _ rfl ⟨rfl,gRf⟩
       refine LateR.mono (Qv.eq (.slice Ar nr cr)) [(18,90)] (by kernel_rfl) (by rfl) rfl (fun vs w' hC=> ?_) ?_
       ·rintro _ rfl;refine askl_do rfl fun K hK=> ?_
        obtain ⟨q0,q1,q2,q3⟩:=A0.z vs w' hC;go_simp;exact hK _ _ rfl ⟨rfl,gRf⟩
       refine lS (.int .i64 (i:Int)) [] (fun vs w' hC=>lQ fun K hK=> ?_) ?_
       ·go_simp;exact hK _ rfl rfl
       refine LateR.mono (Qv.eq (.int .i64 ((i:Int)+1))) [(20,92)] (by kernel_rfl) (by rfl) rfl (fun vs w' hC=> ?_) ?_
       ·rintro _ rfl;refine askl_do rfl fun K hK=> ?_
        go_simp;exact hK _ _ rfl ⟨rfl,gRf⟩
       refine LateR.mono (Qv.eq (.int .u64 ((i:Int)+1))) [(21,93)] (by kernel_rfl) (by rfl) rfl (fun vs w' hC=> ?_) ?_
       ·rintro _ rfl;refine askl_do rfl fun K hK=> ?_
        go_simp;exact hK _ _ rfl ⟨rfl,gRf⟩
       refine lS (.pointer (some ⟨w.heap.size,1,none⟩)) [] (fun vs w' hC=>lQ fun K hK=> ?_) ?_
       ·go_simp;exact hK _ rfl rfl
       refine LateR.mono (Qv.eq (.int .u64 p.Q)) [(23,95)] (by kernel_rfl) (by rfl) rfl (fun vs w' hC=> ?_) ?_
       ·rintro _ rfl;refine askl_do rfl fun K hK=> ?_
        obtain ⟨q0,q1,q2,q3⟩:=A0.z vs w' hC;go_simp;exact hK _ _ rfl ⟨rfl,gRf⟩
       refine LateR.mono (Qv.eq (.int .u64 eb)) [(19,91),(22,94),(24,96)] (by kernel_rfl) (by rfl) rfl (fun vs w' hC=> ?_) ?_
       ·rintro _ rfl;rintro _ rfl;rintro _ rfl;refine askl_do rfl fun K hK=> ?_
        go_simp;refine (z2.z vs w' hC).mono ?_;rintro e w3 ⟨rfl,hg3⟩;exact hK _ _ rfl ⟨rfl,hg3⟩
       refine LateR.mono (Qv.eq (.agg #[.int .u64 ea, .int .u64 eb])) [(15,87),(25,97)] (by kernel_rfl) (by rfl) rfl (fun vs w' hC=> ?_) ?_
       ·rintro _ rfl;rintro _ rfl;refine askl_do rfl fun K hK=> ?_
        go_simp;exact hK _ _ rfl ⟨rfl,gRf⟩
       refine LateR.mono (evP NN ea eb) [(26,98)] (by kernel_rfl) (by rfl) rfl (fun vs w' hC=> ?_) ?_
       ·rintro _ rfl;refine askl_do rfl fun K hK=> ?_
        have J2:=Z1.z vs w' hC;go_simp;exact hK _ _ rfl ⟨fun _=>⟨_,rfl,J2,Bk.new w' _ _⟩,gAl w' _ none⟩
       refine LateR.turn 0 [(5,77),(27,99)] (by kernel_rfl) rfl (fun vs w' hl hC=> ?_) ?_
       ·rintro _ rfl;intro x99 u1;have u1:vs= []→AJ NN ea eb x99 w':=u1;refine askl_do rfl fun K hK=> ?_
        obtain rfl:vs= []:=List.eq_nil_of_length_eq_zero hl;obtain ⟨g1,g2,g3⟩:=hC;obtain ⟨b99,e99,S2,i1⟩:=u1 rfl;subst e99;refine yu (E:=zq) (y:=(ea,eb)) Xd g3 ⟨rfl,Y2.z,V2.z⟩ (Bk.two i1) d3.z (nLT b2.z g2) (fun g hg=>nLT (nLT b2.z g2) hg) (.tmp 77) (.tmp 99) rfl rfl rfl ?_;intro v3 w3 ha O1 hm;exact hK _ _ rfl ⟨trivial,g1.trans O1,nLT g2 O1.size,ha⟩
       refine LateR.mono (Qv.eq (.pointer (some ⟨Bs,i,none⟩))) [(0,72),(1,73)] (by kernel_rfl) (by rfl) rfl (fun vs w' hC=> ?_) ?_
       ·rintro _ rfl;rintro _ rfl;refine askl_do rfl fun K hK=> ?_
        go_simp;exact hK _ _ rfl ⟨rfl,gRf⟩
       intro vs w5 H2 U0;obtain ⟨u,rfl⟩: ∃u,vs= [u]:=List.length_eq_one_iff.1 H2;intro y0 k0
       iterate 27 (refine pD ?_;intro _)
       intro y28 k28 y29 k29;show wpList prog _ _ _ _ w5;simp only [Act.put,sAa,sAb,sAc];have e28:y28=u:=by have:some u=some y28:=k28;injection this with this;exact this.symm
       have e29:y29= .pointer (some ⟨Bs,i,none⟩):=k29;subst e28 e29;have C3:=za (s2.z w5 y28 U0);have X0:=L0.z w5 _ U0;have c5:w5.cell? ⟨Bs,i,none⟩=some (.slice Av nv cv):=by rw [X0.cell i];simp [f2.z]
       have f5:=X0.free;have G2:Hid (Acc zq wj.heap.size 153 (fun b=>wj.heap.size≤b) w5 y28 (Qd p F R i s++ [(ea,eb)])):=za U0.2.2;obtain ⟨Au,nu,cu,eu⟩:=G2.z.sl.shape;subst eu;clear U0 X0 G2 k0 k28 k29 A0 Z1 s2 L0 B2 A2 z2;go_wp2_with fail;go_roundg q
       case measure=>omega
       case rel=>exact ⟨s+1,_,by omega,by go_num,C3⟩
  |succ m=>
   have S3:(s:Int)< (L:Int):=by omega
   have K1:s< l.length:=by have:=d2.z;omega
   obtain ⟨gl,ol,cl,el,_,_,R2,I2⟩:=(C1.z _ m0.z).atU K1;injection el with el1 el2 el3
   subst el1 el3;obtain ⟨kb,C0⟩:=exq (k0+s*(2*T+1));have Q3:kb+(2*T+1)≤a0:=by
    have h1:(s+1)*(2*T+1)≤L*(2*T+1):=Nat.mul_le_mul_right _ (by omega);have h2:=c2.z;rw [Nat.add_mul,Nat.one_mul] at h1;omega
   have f3:Hid (k0+(s+1)*(2*T+1)=kb+T+1+T):=za (by rw [C0,Nat.add_mul,Nat.one_mul];omega);have u2:Hid (ZC l p.Q dr T k0 (s+1)=ZC l p.Q dr T k0 s++ [Xf l[s] p.Q dr T kb]):=za (by
    rw [C0];refine (EG _ _).trans ?_;show _++ [Xf (l[s]?.getD 0) p.Q dr T (k0+s*(2*T+1))]=_;rw [List.getElem?_eq_getElem K1];rfl)
   have x1:Hid (ZB p.Q dr T k0 (s+1)=ZB p.Q dr T k0 s++ [Xf (dr (kb+T)) p.Q dr T (kb+T+1)]):=za (by
    rw [C0];exact EG _ _)
   rw [←C0] at e0;have F2:=za (I1.z l[s] kb wr I2 (by omega) e0.z);obtain ⟨y,hy⟩:=exq (Xf l[s] p.Q dr T kb);rw [←hy] at u2 F2;obtain ⟨z,hz⟩:=exq (Xf (dr (kb+T)) p.Q dr T (kb+T+1));rw [←hz] at x1;have HZ:=za hz;have c3:Hid (((ZC l p.Q dr T k0 s).length+1)*24≤140737488355328):=za (by simp [ZC];omega);have a3:Hid (((ZB p.Q dr T k0 s).length+1)*24≤140737488355328):=za (by simp [ZB];omega);have K0:Hid ((∀r,u10.ownBlock=some r→r< wr.heap.size)∧(∀r,u11.ownBlock=some r→r< wr.heap.size)):=za ⟨fun r e=>(f0.z.fst.lt r e).2,fun r e=>(f0.z.snd.lt r e).2⟩;have T2:Hid (w2.heap.size≤wr.heap.size):=za m0.z.size;clear C0 hy hz el2;generalize l[s]=x at *;go_wp2_with fail;refine F2.z.mono ?_;rintro e w3 ⟨v42,rfl,hs3,hi3,hg3⟩;obtain ⟨A42,n42,c42,rfl⟩:=hs3.shape;have o2:Hid (w2.grownBy w3 (some g)):=za (m0.z.trans hg3);have s3:=za hi3;have I0:=za (f0.z.keep hg3 (fun b hb e=>by injection e with e;have:=r0.z;omega));have z1:Hid ((zh ze).rep (fun b=>(w2.heap.size≤b∧some b≠u11.ownBlock)∧some b≠u10.ownBlock) w3 [.slice A42 n42 c42] y):=za ⟨_,rfl,hs3.more fun b _ hb=>⟨⟨nLT T2.z hb,fun e=>by have:=K0.z.2 b e.symm;omega⟩,fun e=>by have:=K0.z.1 b e.symm;omega⟩⟩;have Y1:Hid (w2.heap.size≤w3.heap.size):=za o2.z.size;clear hs3 hi3 hg3 L1 R2;go_wp2_with (at_builtin;refine zW rfl (.tmp 35) (.tmp 43) rfl (E:=zh ze) (y:=y) Zo I0.z.fst rfl rfl z1.z c3.z Y1.z (I0.z.new1 (fun _ h=>nLT Y1.z h)) ?_);intro v10 w4 ha hg hm;have y1:=za (I0.z.one ha hg hm);have l2:Hid (w2.grownBy w4 (some g)):=za (o2.z.andThen hg (fun j e=> .inl (I0.z.fst.lt j e).1))
   have r3:Hid (TI (kb+T) w4):=za (HT.z.keep s3.z hg (fun b e hb=>by have:=(I0.z.fst.lt b e).1;have:=A1.z b hb;have:=r0.z;omega));obtain ⟨A10,n10,c10,e10⟩:=y1.z.fst.sl.shape;subst e10;obtain ⟨A11,n11,c11,e11⟩:=y1.z.snd.sl.shape;subst e11;clear ha hg hm;have N3: ∀o,w4.drew.cell? ⟨w.heap.size,o,none⟩=(#[.int .u64 p.P, .int .u64 p.Q, .int .u64 p.G, .int .u64 p.H, .int .i64 p.Nodes, .int .i64 p.N, .int .i64 p.T, .int .i64 p.K, .int .i64 p.D, .int .i64 p.R, .int .i64 p.M, .int .i64 p.X]:Array Value)[o]? :=(j0.z _ l2.z).prule;have p3:Hid (TI (kb+T) w4.drew):=za (HT.z.keep r3.z (zb _ 1) (by simp));have x2:=za (y1.z.kept (zb _ 1));have A3:Hid (w2.grownBy w4.drew (some g)):=za (l2.z.trans ((zb _ 1).but _));have W2:=za (a2.z (kb+T) w4.drew (by omega) p3.z);have U2:=za (HT.z.val (kb+T));have f1:kb+T+1+T≤a0:=by omega
   go_upto_region 9 with (fail)
   go_region_held3 (fun w'=> ∀o,w'.cell? ⟨w.heap.size,o,none⟩=(#[.int .u64 p.P, .int .u64 p.Q, .int .u64 p.G, .int .u64 p.H, .int .i64 p.Nodes, .int .i64 p.N, .int .i64 p.T, .int .i64 p.K, .int .i64 p.D, .int .i64 p.R, .int .i64 p.M, .int .i64 p.X]:Array Value)[o]?) (first|assumption|(refine xh ?_ ?_ _<;>assumption)|go_keep)
    (first
    |(go_at_call 98;(with_reducible refine W2.z.mono ?_);rintro e w5 ⟨rfl,hi5,hg5⟩;have o3:=za hi5;have H1:Hid (w2.grownBy w5 (some g)):=za (A3.z.trans hg5);have v1:=za (x2.z.keep hg5 (fun b hb e=>by injection e with e;have:=r0.z;omega));have M3:=(j0.z _ H1.z).prule;have F3:=za (I1.z (dr (kb+T)) (kb+T+1) w5 U2.z f1 o3.z);have G3:w5.heap.size=w5.heap.size:=rfl;clear hi5 hg5)
    |(go_at_call 99;(with_reducible refine F3.z.mono ?_);rintro e w6 ⟨v55,rfl,hs6,hi6,hg6⟩;obtain ⟨A55,n55,c55,rfl⟩:=hs6.shape;have l3:=za hi6;have h0:Hid (w2.grownBy w6 (some g)):=za (H1.z.trans hg6);have H0:=za (v1.z.keep hg6 (fun b hb e=>by injection e with e;have:=r0.z;omega));have L3:=(j0.z _ h0.z).prule;have lp8:w.heap.size< w6.heap.size:=(j0.z _ h0.z).lt;have V1:Hid (w2.heap.size≤w6.heap.size):=za h0.z.size;have J0:Hid ((zh ze).rep (fun b=>(w2.heap.size≤b∧some b≠(Value.slice A10 n10 c10).ownBlock)∧some b≠(Value.slice A11 n11 c11).ownBlock) w6 [.slice A55 n55 c55] z):=za ⟨_,rfl,by rw [HZ.z];exact hs6.more fun b _ hb=>⟨⟨nLT H1.z.size hb,fun e=>by have:=(v1.z.fst.lt b e.symm).2;omega⟩,fun e=>by have:=(v1.z.snd.lt b e.symm).2;omega⟩⟩;clear hs6 hi6 hg6)
    |(refine xr rfl (.tmp 45) (.tmp 56) rfl (E:=zh ze) (y:=z) Zo H0.z.snd rfl rfl J0.z a3.z V1.z (H0.z.new2 (fun _ h=>nLT V1.z h)) ?_;intro v11 w7 ha hg hm;have e2:=za (H0.z.two ha hg hm);have j2:Hid (w2.grownBy w7 (some g)):=za (h0.z.andThen hg (fun j e=> .inl (H0.z.snd.lt j e).1));have j3:Hid (TI (kb+T+1+T) w7):=za (HT.z.keep l3.z hg (fun b e hb=>by have:=(H0.z.snd.lt b e).1;have:=A1.z b hb;have:=r0.z;omega));have K3:=(j0.z _ j2.z).prule;clear ha hg hm))
   have b0:Hid (Zj (zh ze) (zh ze) w2.heap.size 31 31 (fun b=>w2.heap.size≤b) w7 (.slice A10 n10 c10) v11 (ZC l p.Q dr T k0 (s+1)) (ZB p.Q dr T k0 (s+1))∧TI (k0+(s+1)*(2*T+1)) w7∧w2.grownBy w7 (some g)):=za ⟨by rw [u2.z,x1.z];exact e2.z,by rw [f3.z];exact j3.z,j2.z⟩;go_wp2_with fail;go_roundg m
   case measure=>omega
   case rel=>exact ⟨s+1,by omega,by go_num,b0⟩
end
end Go.Proofs.YtkdfjkdphdfclaaGreatDoor
