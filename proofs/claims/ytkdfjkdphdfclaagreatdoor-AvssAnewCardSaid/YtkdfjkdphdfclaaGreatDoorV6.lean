/- Part 6 of the proof of a card of AvssAnew. -/
import Derived.Test.YtkdfjkdphdfclaaGreatDoorV2
set_option maxRecDepth 100000
set_option maxHeartbeats 16000000
set_option linter.unusedVariables false
set_option linter.unusedSimpArgs false
namespace Go.Proofs.YtkdfjkdphdfclaaGreatDoor
open Tryz
section
open Go.RowKit
theorem XC(v:Value)(l:List (Int×Int))(n k:Nat)(X Y:Nat→Prop)(w:World)(h:Sl zq X w v l)(hl:l.length=n*k)(hn:n≤100)(hk:k≤100)(hY: ∀g,w.heap.size≤g→Y g):
  Calls prog 201 #[v, .int .i64 n, .int .i64 k] w (zN (zh zq) Y w (chk k l n)):=by
 have hlb:l.length≤100000:=by
  have:n*k≤100*100:=Nat.mul_le_mul hn hk
  omega
 by_cases h0:k=0
 ·subst h0;have HE:Hid (chk 0 l n=List.replicate n []):=za (by simp [chk,List.map_const']);obtain ⟨A,c,rfl,_,_⟩:=h.form;have hmk:=run_make_row' (P:=prog) 103 72 (.slice none 0 0) 24 Tryz.underlying103 YG rfl .i64 .i64 n (by omega) (by omega);have HN:=za (And.intro hn (hY _ (nRf _)));clear h hl hlb hY;go_enter func201,ntmps201;go_wp2;go_ret;have hb:Bk (w.alloc (.cells (madeCells #[.slice none 0 0] n) 72)) w.heap.size 72 (madeCells #[.slice none 0 0] n):=Bk.new w _ _;exact ⟨_,rfl,by rw [HE.z];exact Sl.nils zq Y hb HN.z.2 (by have:=HN.z.1;omega),gAl w _ none⟩
 ·have hk1:1≤k:=by omega
  have hkI:((k:Int)==0)=false:=by simp;omega
  have HC:=za (GP v l k n X Y w h hk1 hl hlb hY (fun _ _ _ h=>h));clear h hl hY hlb h0;go_enter func201,ntmps201;go_wp2_with fail;refine HC.z.mono ?_;rintro e w1 ⟨v1,rfl,hs,hg⟩;have HS:=za hs.plain;have HG:=za hg;clear hs hg;go_wp2;go_ret;exact ⟨_,rfl,HS.z,HG.z⟩
theorem KB{p:Par}(h:Zp p=true): ∃q t:Nat,xY p=(q:Int)∧p.T+1=(t:Int)∧q≤10∧1≤t∧t≤3:=by
 obtain ⟨a,b,c,d,e,f⟩:=(xe p).1 h;obtain ⟨h1,h2⟩:=Nu h;exact ⟨(xY p).toNat,(p.T+1).toNat,by omega,by omega,by omega,by omega,by omega⟩
def Uy(p:Par)(n:Nat)(k:Int):Int:=if Zp p=true∧0≤k∧k≤3 then (if (n:Int)=xY p*(p.T+1)*(p.T+1)+2*(2*xY p*k) then 0 else 4) else 1
def TD(p:Par)(l:List Int)(k:Int):List (List (List Int)):=if Uy p l.length k=0 then chk (p.T+1).toNat (chk (p.T+1).toNat (l.take ((xY p).toNat*(p.T+1).toNat*(p.T+1).toNat)) ((xY p).toNat*(p.T+1).toNat)) (xY p).toNat else []
def Qb(p:Par)(l:List Int)(k:Int):List (List (Int×Int)):=if Uy p l.length k=0 then chk k.toNat (Nz ((l.drop ((xY p).toNat*(p.T+1).toNat*(p.T+1).toNat)).take (2*(xY p).toNat*k.toNat)) ((xY p).toNat*k.toNat)) (xY p).toNat else []
def Qa(p:Par)(l:List Int)(k:Int):List (List (Int×Int)):=if Uy p l.length k=0 then chk k.toNat (Nz (l.drop ((xY p).toNat*(p.T+1).toNat*(p.T+1).toNat+2*(xY p).toNat*k.toNat)) ((xY p).toNat*k.toNat)) (xY p).toNat else []
def Ck(Y:Nat→Prop)(w:World)(m:List (List (List Int)))(a b:List (List (Int×Int)))(n:Int)(e:Ending)(w':World):Prop:=
 ∃vm va vb,e= .returned (.tuple #[vm,va,vb, .int .i64 n])∧Sl (xV (xV ze)) Y w' vm m∧Sl (zh zq) Y w' va a∧Sl (zh zq) Y w' vb b∧w.grownBy w' none
theorem Gg(p:Par)(v:Value)(l:List Int)(k:Int)(X:Nat→Prop)(w:World)(h:Sl ze X w v l)(hb:l.length≤100000)(hk:I64 k):
  Calls prog 160 #[p.v,v, .int .i64 k] w (Ck (fun g=>w.heap.size≤g) w (TD p l k) (Qb p l k) (Qa p l k) (Uy p l.length k)):=by
 have H:=za h;obtain ⟨A,c,rfl,K0,Y0⟩:=h.form;have H0:Hid (Bk (w.alloc (Obj.cells p.cells 39)) w.heap.size 39 p.cells):=za (Bk.new w _ _);have A0:Hid (w.grownBy (w.alloc (Obj.cells p.cells 39)) none):=za (gAl w _ none);have J0:=H0.z.prule;obtain ⟨k0,k1⟩:=hk;clear h;cases hs:Zp p with
 |false=>
  have HE:Hid (Uy p l.length k=1∧TD p l k= []∧Qb p l k= []∧Qa p l k= []):=za (by simp [TD,Qb,Qa,Uy,hs]);have HC:=za (fun w=>Hp p w hs);clear hs;go_enter func160,ntmps160;go_wp2_with fail;refine (HC.z _).mono ?_;rintro e w1 ⟨rfl,hg⟩;have HG:=zJ hg A0;clear hg;go_wp2;refine bodyPost_ret (v:= .tuple #[.slice none 0 0, .slice none 0 0, .slice none 0 0, .int .i64 1]) (by simp [results,Tryz.results160,go_sem]) rfl ?_;rw [HE.z.1,HE.z.2.1,HE.z.2.2.1,HE.z.2.2.2];exact ⟨_,_,_,rfl,Sl.nil _ _ _,Sl.nil _ _ _,Sl.nil _ _ _,HG.z⟩
 |true=>
  have HC:=za (fun w=>Kx p w hs);by_cases R0:0≤k∧k≤3
  ·obtain ⟨k2,k3⟩:=R0;have HS:=za (fun w=>RL p w hs);obtain ⟨kk,rfl⟩:=Int.eq_ofNat_of_zero_le k2;obtain ⟨q,t,hq,ht,q1,t1,t2⟩:=KB hs;obtain ⟨qt,j0⟩:=exq (q*t);obtain ⟨F,hF⟩:=exq (qt*t);obtain ⟨M,hM⟩:=exq (2*q*kk);have bqt:qt≤30:=by rw [j0];exact Nat.mul_le_mul q1 t2
   have bF:F≤90:=by rw [hF];exact Nat.mul_le_mul bqt t2
   have bM:M≤60:=by rw [hM];exact Nat.mul_le_mul (Nat.mul_le_mul_left 2 q1) (show kk≤3 by omega)
   have k1':IntKind.i64.wrap (p.T+1)=(t:Int):=by rw [ht];exact i6n _ (by omega)
   have e1:(q:Int)*(t:Int)=(qt:Int):=by rw [j0];simp
   have e2:(qt:Int)*(t:Int)=(F:Int):=by rw [hF];simp
   have e3:2*(q:Int)*(kk:Int)=(M:Int):=by rw [hM];simp
   rw [hq] at HS;have u0:Uy p l.length (kk:Int)=if (l.length:Int)=F+2*M then 0 else 4:=by
    simp only [Uy,hs,hq,ht,e1,e2,e3];simp [k2,k3]
   have z0:(p.T+1).toNat=t:=by omega
   have hq1:(xY p).toNat=q:=by omega
   by_cases hl:(l.length:Int)=F+2*M
   ·rw [if_pos hl] at u0;have y0:Hid (TD p l kk=chk t (chk t (l.take F) qt) q):=za (by simp only [TD,u0,z0,hq1,if_true];rw [←j0, ←hF]);have T0:Hid (Qb p l kk=chk kk (Nz ((l.drop F).take M) (q*kk)) q):=za (by simp only [Qb,u0,z0,hq1,if_true,Int.toNat_natCast];rw [←j0, ←hF, ←hM]);have S0:Hid (Qa p l kk=chk kk (Nz (l.drop (F+M)) (q*kk)) q):=za (by simp only [Qa,u0,z0,hq1,if_true,Int.toNat_natCast];rw [←j0, ←hF, ←hM]);have U0:=za u0;have P0:l.length=F+2*M:=by omega
    have g0:M=(q*kk)*2:=by rw [hM,Nat.mul_assoc,Nat.mul_comm]
    have b1:q*kk≤30:=Nat.mul_le_mul q1 (show kk≤3 by omega);have w0:l.drop F= []→l.length≤F:=fun h=>by have:=congrArg List.length h;simp at this;omega
    by_cases hz:l.length=0
    ·obtain rfl:F=0:=by omega
     obtain rfl:M=0:=by omega
     have Q0:l= []:=List.eq_nil_of_length_eq_zero hz;have L0:Hid (Sl ze X w (.slice A 0 c) (l.take 0)):=za (Sl.empty _ _ _ _ _ Y0);clear w0;by_cases E0:c=0
     ·subst E0;have e2':(qt:Int)*(t:Int)=0:=e2;have e3':2*(q:Int)*(kk:Int)=0:=e3;clear e2 e3 bF bM;have F0:Hid (Sl ze X w (.slice A 0 0) ((l.drop 0).take 0)):=za (by rw [Q0];exact Sl.empty _ _ _ _ _ (by omega));have D0:Hid (Sl ze X w (.slice A 0 0) (l.drop (0+0))):=za (by rw [Q0];exact Sl.empty _ _ _ _ _ (by omega));have H1:=za (fun (w':World) (hw:w.grownBy w' none)=>XN _ (l.take 0) t qt X (fun g=>w.heap.size≤g) w' (L0.z.kept hw) t1 (by rw [lLt, ←hF];simp) (by rw [lLt];omega) (fun g h=>nLT hw.size h) (fun _ _ _ h=>h));have H2:=za (fun (v:Value) (w':World) (hw:w.grownBy w' none) (hv:Sl (xV ze) (fun g=>w.heap.size≤g) w' v (chk t (l.take 0) qt))=>VY v _ t q _ (fun g=>w.heap.size≤g) w' hv t1 (by rw [zI,j0]) (by rw [zI];omega) (fun g h=>nLT hw.size h) (fun _ _ _ h=>h));have H3:=za (fun (w':World) (hw:w.grownBy w' none)=>xj _ ((l.drop 0).take 0) (q*kk) X w' (F0.z.kept hw) (by rw [lLt, ←g0];simp) (by rw [lLt,List.length_drop];omega));have H4:=za (fun (w':World) (hw:w.grownBy w' none)=>xj _ (l.drop (0+0)) (q*kk) X w' (D0.z.kept hw) (by rw [List.length_drop, ←g0];omega) (by rw [List.length_drop];omega));have H5:=za (fun (v:Value) (ps:List (Int×Int)) (w':World) (hw:w.grownBy w' none) (Z:Nat→Prop) (hv:Sl zq Z w' v ps) (B0:ps.length=q*kk)=>XC v ps q kk Z (fun g=>w.heap.size≤g) w' hv B0 (by omega) (by omega) (fun g h=>nLT hw.size h));have hd:((l.length:Int) !=0)=false:=by simpa using hl
      have i1:(0:Int)≤(l.length:Int):=by omega
      have i2:(0:Int)+(0:Int)≤(l.length:Int):=by omega
      have i3:(l.length:Int)≤((0:Nat):Int):=by omega
      have i4:(0:Int)+2*(0:Int)≤((0:Nat):Int):=by omega
      have h0:=za g0;clear hs hl hq ht j0 hF hM u0 z0 hq1 P0 g0 hz K0;go_enter func160,ntmps160;go_wp2_with fail;refine (HC.z _).mono ?_;rintro e w1 ⟨rfl,hg⟩;have v0:=zJ hg A0;have f0:=xw hg H0;have I0:=f0.z.prule;have N0:=f0.z.lt;clear hg J0;go_wp2_with fail;have i0:Hid (w.grownBy w1.drew none):=za (zf v0.z 1);have V0:Hid (Bk w1.drew w.heap.size 39 p.cells):=za (f0.z.drewN 1);go_region_held3 (fun w'=> ∀o,w'.cell? ⟨w.heap.size,o,none⟩=(#[.int .u64 p.P, .int .u64 p.Q, .int .u64 p.G, .int .u64 p.H, .int .i64 p.Nodes, .int .i64 p.N, .int .i64 p.T, .int .i64 p.K, .int .i64 p.D, .int .i64 p.R, .int .i64 p.M, .int .i64 p.X]:Array Value)[o]?) (first|assumption|exact xh (by assumption) (by assumption) _|go_keep) (first
       |(go_at_call 97;(with_reducible refine (HS.z _).mono ?_);rintro e' w' ⟨rfl,hg⟩;have m0:=zJ hg (by assumption);have l0:=xw hg (by assumption);have O0:=l0.z.prule;have M0:=l0.z.lt;clear hg))
      go_wp2_with fail;refine (H1.z _ m0.z).mono ?_;rintro e w3 ⟨v3,rfl,hs3,hg3⟩;have t0:=za (m0.z.trans hg3);have p0:=za hs3;clear hs3 hg3;go_wp2_with fail;refine (H2.z _ _ t0.z p0.z).mono ?_;rintro e w4 ⟨v4,rfl,hs4,hg4⟩;have i0:=za (t0.z.trans hg4);have b0:=za hs4;clear hs4 hg4 p0;go_wp2_with fail;refine (H3.z _ i0.z).mono ?_;rintro e w5 ⟨v5,rfl,hs5,hg5⟩;have s0:=za (i0.z.trans hg5);have o0:=za hs5;have a0:=za (b0.z.kept hg5);clear hs5 hg5 b0;go_wp2_with fail;refine (H5.z _ _ _ s0.z _ o0.z (yv _ _)).mono ?_;rintro e w6 ⟨v6,rfl,hs6,hg6⟩;have r0:=za (s0.z.trans hg6);have d0:=za hs6;have b0:=za (a0.z.kept hg6);clear hs6 hg6 a0 o0;go_wp2_with fail;refine (H4.z _ r0.z).mono ?_;rintro e w7 ⟨v7,rfl,hs7,hg7⟩;have q0:=za (r0.z.trans hg7);have n0:=za hs7;have a0:=za (b0.z.kept hg7);have c0:=za (d0.z.kept hg7);clear hs7 hg7 b0 d0;go_wp2_with fail;refine (H5.z _ _ _ q0.z _ n0.z (yv _ _)).mono ?_;rintro e w8 ⟨v8,rfl,hs8,hg8⟩;have G0:=za (q0.z.trans hg8);have C0:=za hs8;have b0:=za (a0.z.kept hg8);have d0:=za (c0.z.kept hg8);clear hs8 hg8 a0 c0 n0;go_wp2;refine bodyPost_ret (v:= .tuple #[v4,v6,v8, .int .i64 0]) (by simp [results,Tryz.results160,go_sem]) rfl ?_;rw [U0.z,y0.z,T0.z,S0.z];exact ⟨_,_,_,rfl,b0.z,d0.z,C0.z,G0.z⟩
     ·have x0: ¬c=0:=E0;have e2':(qt:Int)*(t:Int)=0:=e2;have e3':2*(q:Int)*(kk:Int)=0:=e3;clear e2 e3 bF bM;have F0:Hid (Sl ze X w (.slice A 0 c) ((l.drop 0).take 0)):=za (by rw [Q0];exact Sl.empty _ _ _ _ _ Y0);have D0:Hid (Sl ze X w (.slice A 0 c) (l.drop (0+0))):=za (by rw [Q0];exact Sl.empty _ _ _ _ _ Y0);have H1:=za (fun (w':World) (hw:w.grownBy w' none)=>XN _ (l.take 0) t qt X (fun g=>w.heap.size≤g) w' (L0.z.kept hw) t1 (by rw [lLt, ←hF];simp) (by rw [lLt];omega) (fun g h=>nLT hw.size h) (fun _ _ _ h=>h));have H2:=za (fun (v:Value) (w':World) (hw:w.grownBy w' none) (hv:Sl (xV ze) (fun g=>w.heap.size≤g) w' v (chk t (l.take 0) qt))=>VY v _ t q _ (fun g=>w.heap.size≤g) w' hv t1 (by rw [zI,j0]) (by rw [zI];omega) (fun g h=>nLT hw.size h) (fun _ _ _ h=>h));have H3:=za (fun (w':World) (hw:w.grownBy w' none)=>xj _ ((l.drop 0).take 0) (q*kk) X w' (F0.z.kept hw) (by rw [lLt, ←g0];simp) (by rw [lLt,List.length_drop];omega));have H4:=za (fun (w':World) (hw:w.grownBy w' none)=>xj _ (l.drop (0+0)) (q*kk) X w' (D0.z.kept hw) (by rw [List.length_drop, ←g0];omega) (by rw [List.length_drop];omega));have H5:=za (fun (v:Value) (ps:List (Int×Int)) (w':World) (hw:w.grownBy w' none) (Z:Nat→Prop) (hv:Sl zq Z w' v ps) (B0:ps.length=q*kk)=>XC v ps q kk Z (fun g=>w.heap.size≤g) w' hv B0 (by omega) (by omega) (fun g h=>nLT hw.size h));have hd:((l.length:Int) !=0)=false:=by simpa using hl
      have i1:(0:Int)≤(l.length:Int):=by omega
      have i2:(0:Int)+(0:Int)≤(l.length:Int):=by omega
      have i3:(l.length:Int)≤(c:Int):=by omega
      have i4:(0:Int)+2*(0:Int)≤(c:Int):=by omega
      have h0:=za g0;clear hs hl hq ht j0 hF hM u0 z0 hq1 P0 g0 hz K0;go_enter func160,ntmps160;go_wp2_with fail;refine (HC.z _).mono ?_;rintro e w1 ⟨rfl,hg⟩;have v0:=zJ hg A0;have f0:=xw hg H0;have I0:=f0.z.prule;have N0:=f0.z.lt;clear hg J0;go_wp2_with fail;have i0:Hid (w.grownBy w1.drew none):=za (zf v0.z 1);have V0:Hid (Bk w1.drew w.heap.size 39 p.cells):=za (f0.z.drewN 1);go_region_held3 (fun w'=> ∀o,w'.cell? ⟨w.heap.size,o,none⟩=(#[.int .u64 p.P, .int .u64 p.Q, .int .u64 p.G, .int .u64 p.H, .int .i64 p.Nodes, .int .i64 p.N, .int .i64 p.T, .int .i64 p.K, .int .i64 p.D, .int .i64 p.R, .int .i64 p.M, .int .i64 p.X]:Array Value)[o]?) (first|assumption|exact xh (by assumption) (by assumption) _|go_keep) (first
       |(go_at_call 97;(with_reducible refine (HS.z _).mono ?_);rintro e' w' ⟨rfl,hg⟩;have m0:=zJ hg (by assumption);have l0:=xw hg (by assumption);have O0:=l0.z.prule;have M0:=l0.z.lt;clear hg))
      go_wp2_with fail;refine (H1.z _ m0.z).mono ?_;rintro e w3 ⟨v3,rfl,hs3,hg3⟩;have t0:=za (m0.z.trans hg3);have p0:=za hs3;clear hs3 hg3;go_wp2_with fail;refine (H2.z _ _ t0.z p0.z).mono ?_;rintro e w4 ⟨v4,rfl,hs4,hg4⟩;have i0:=za (t0.z.trans hg4);have b0:=za hs4;clear hs4 hg4 p0;go_wp2_with fail;refine (H3.z _ i0.z).mono ?_;rintro e w5 ⟨v5,rfl,hs5,hg5⟩;have s0:=za (i0.z.trans hg5);have o0:=za hs5;have a0:=za (b0.z.kept hg5);clear hs5 hg5 b0;go_wp2_with fail;refine (H5.z _ _ _ s0.z _ o0.z (yv _ _)).mono ?_;rintro e w6 ⟨v6,rfl,hs6,hg6⟩;have r0:=za (s0.z.trans hg6);have d0:=za hs6;have b0:=za (a0.z.kept hg6);clear hs6 hg6 a0 o0;go_wp2_with fail;refine (H4.z _ r0.z).mono ?_;rintro e w7 ⟨v7,rfl,hs7,hg7⟩;have q0:=za (r0.z.trans hg7);have n0:=za hs7;have a0:=za (b0.z.kept hg7);have c0:=za (d0.z.kept hg7);clear hs7 hg7 b0 d0;go_wp2_with fail;refine (H5.z _ _ _ q0.z _ n0.z (yv _ _)).mono ?_;rintro e w8 ⟨v8,rfl,hs8,hg8⟩;have G0:=za (q0.z.trans hg8);have C0:=za hs8;have b0:=za (a0.z.kept hg8);have d0:=za (c0.z.kept hg8);clear hs8 hg8 a0 c0 n0;go_wp2;refine bodyPost_ret (v:= .tuple #[v4,v6,v8, .int .i64 0]) (by simp [results,Tryz.results160,go_sem]) rfl ?_;rw [U0.z,y0.z,T0.z,S0.z];exact ⟨_,_,_,rfl,b0.z,d0.z,C0.z,G0.z⟩
    ·obtain ⟨ga,oa,eA,_,_⟩:=H.out.addr (by omega);subst eA;have L0:Hid (Sl ze X w (.slice (some ⟨ga,oa,none⟩) F c) (l.take F)):=za (H.out.take F (by omega));clear w0;by_cases e0:F=c
     ·obtain rfl:M=0:=by omega
      subst e0;have e3':2*(q:Int)*(kk:Int)=0:=e3;clear e3 bM;have F0:Hid (Sl ze X w (.slice (some ⟨ga,oa,none⟩) 0 0) ((l.drop F).take 0)):=za (by rw [List.take_zero];exact Sl.empty _ _ _ _ _ (by omega));have D0:Hid (Sl ze X w (.slice (some ⟨ga,oa,none⟩) (l.length - F) 0) (l.drop (F+0))):=za (by rw [List.drop_eq_nil_of_le (by omega),show l.length - F=0 by omega];exact Sl.empty _ _ _ _ _ (by omega));have H1:=za (fun (w':World) (hw:w.grownBy w' none)=>XN _ (l.take F) t qt X (fun g=>w.heap.size≤g) w' (L0.z.kept hw) t1 (by rw [lLt, ←hF];omega) (by rw [lLt];omega) (fun g h=>nLT hw.size h) (fun _ _ _ h=>h));have H2:=za (fun (v:Value) (w':World) (hw:w.grownBy w' none) (hv:Sl (xV ze) (fun g=>w.heap.size≤g) w' v (chk t (l.take F) qt))=>VY v _ t q _ (fun g=>w.heap.size≤g) w' hv t1 (by rw [zI,j0]) (by rw [zI];omega) (fun g h=>nLT hw.size h) (fun _ _ _ h=>h));have H3:=za (fun (w':World) (hw:w.grownBy w' none)=>xj _ ((l.drop F).take 0) (q*kk) X w' (F0.z.kept hw) (by rw [lLt, ←g0];simp) (by rw [lLt,List.length_drop];omega));have H4:=za (fun (w':World) (hw:w.grownBy w' none)=>xj _ (l.drop (F+0)) (q*kk) X w' (D0.z.kept hw) (by rw [List.length_drop, ←g0];omega) (by rw [List.length_drop];omega));have H5:=za (fun (v:Value) (ps:List (Int×Int)) (w':World) (hw:w.grownBy w' none) (Z:Nat→Prop) (hv:Sl zq Z w' v ps) (B0:ps.length=q*kk)=>XC v ps q kk Z (fun g=>w.heap.size≤g) w' hv B0 (by omega) (by omega) (fun g h=>nLT hw.size h));have hd:((l.length:Int) !=(F:Int))=false:=by simpa using hl
      have i1:(F:Int)≤(l.length:Int):=by omega
      have i2:(F:Int)+(0:Int)≤(l.length:Int):=by omega
      have i3:(l.length:Int)≤(F:Int):=by omega
      have i4:(F:Int)+2*(0:Int)≤(F:Int):=by omega
      have h0:=za g0;clear hs hl hq ht j0 hF hM u0 z0 hq1 P0 g0 hz K0;go_enter func160,ntmps160;go_wp2_with fail;refine (HC.z _).mono ?_;rintro e w1 ⟨rfl,hg⟩;have v0:=zJ hg A0;have f0:=xw hg H0;have I0:=f0.z.prule;have N0:=f0.z.lt;clear hg J0;go_wp2_with fail;have i0:Hid (w.grownBy w1.drew none):=za (zf v0.z 1);have V0:Hid (Bk w1.drew w.heap.size 39 p.cells):=za (f0.z.drewN 1);go_region_held3 (fun w'=> ∀o,w'.cell? ⟨w.heap.size,o,none⟩=(#[.int .u64 p.P, .int .u64 p.Q, .int .u64 p.G, .int .u64 p.H, .int .i64 p.Nodes, .int .i64 p.N, .int .i64 p.T, .int .i64 p.K, .int .i64 p.D, .int .i64 p.R, .int .i64 p.M, .int .i64 p.X]:Array Value)[o]?) (first|assumption|exact xh (by assumption) (by assumption) _|go_keep) (first
       |(go_at_call 97;(with_reducible refine (HS.z _).mono ?_);rintro e' w' ⟨rfl,hg⟩;have m0:=zJ hg (by assumption);have l0:=xw hg (by assumption);have O0:=l0.z.prule;have M0:=l0.z.lt;clear hg))
      go_wp2_with fail;refine (H1.z _ m0.z).mono ?_;rintro e w3 ⟨v3,rfl,hs3,hg3⟩;have t0:=za (m0.z.trans hg3);have p0:=za hs3;clear hs3 hg3;go_wp2_with fail;refine (H2.z _ _ t0.z p0.z).mono ?_;rintro e w4 ⟨v4,rfl,hs4,hg4⟩;have i0:=za (t0.z.trans hg4);have b0:=za hs4;clear hs4 hg4 p0;go_wp2_with fail;refine (H3.z _ i0.z).mono ?_;rintro e w5 ⟨v5,rfl,hs5,hg5⟩;have s0:=za (i0.z.trans hg5);have o0:=za hs5;have a0:=za (b0.z.kept hg5);clear hs5 hg5 b0;go_wp2_with fail;refine (H5.z _ _ _ s0.z _ o0.z (yv _ _)).mono ?_;rintro e w6 ⟨v6,rfl,hs6,hg6⟩;have r0:=za (s0.z.trans hg6);have d0:=za hs6;have b0:=za (a0.z.kept hg6);clear hs6 hg6 a0 o0;go_wp2_with fail;refine (H4.z _ r0.z).mono ?_;rintro e w7 ⟨v7,rfl,hs7,hg7⟩;have q0:=za (r0.z.trans hg7);have n0:=za hs7;have a0:=za (b0.z.kept hg7);have c0:=za (d0.z.kept hg7);clear hs7 hg7 b0 d0;go_wp2_with fail;refine (H5.z _ _ _ q0.z _ n0.z (yv _ _)).mono ?_;rintro e w8 ⟨v8,rfl,hs8,hg8⟩;have G0:=za (q0.z.trans hg8);have C0:=za hs8;have b0:=za (a0.z.kept hg8);have d0:=za (c0.z.kept hg8);clear hs8 hg8 a0 c0 n0;go_wp2;refine bodyPost_ret (v:= .tuple #[v4,v6,v8, .int .i64 0]) (by simp [results,Tryz.results160,go_sem]) rfl ?_;rw [U0.z,y0.z,T0.z,S0.z];exact ⟨_,_,_,rfl,b0.z,d0.z,C0.z,G0.z⟩
     ·have Z0: ¬c=F:=fun e=>e0 e.symm
      have x1: ¬c=F:=Z0;have x2: ¬c=F+M:=by omega
      clear e0;have F0:Hid (Sl ze X w (.slice (some ⟨ga,oa+F,none⟩) M (c - F)) ((l.drop F).take M)):=za (by
       have:=(H.out.drop F (by omega)).take M (by rw [List.length_drop];omega)
       rwa [show F*ze.size=F from Nat.mul_one F] at this)
      have D0:Hid (Sl ze X w (.slice (some ⟨ga,oa+(F+M),none⟩) (l.length - (F+M)) (c - (F+M))) (l.drop (F+M))):=za (by
       have:=H.out.drop (F+M) (by omega)
       rwa [show (F+M)*ze.size=F+M from Nat.mul_one (F+M)] at this)
      have H1:=za (fun (w':World) (hw:w.grownBy w' none)=>XN _ (l.take F) t qt X (fun g=>w.heap.size≤g) w' (L0.z.kept hw) t1 (by rw [lLt, ←hF];omega) (by rw [lLt];omega) (fun g h=>nLT hw.size h) (fun _ _ _ h=>h));have H2:=za (fun (v:Value) (w':World) (hw:w.grownBy w' none) (hv:Sl (xV ze) (fun g=>w.heap.size≤g) w' v (chk t (l.take F) qt))=>VY v _ t q _ (fun g=>w.heap.size≤g) w' hv t1 (by rw [zI,j0]) (by rw [zI];omega) (fun g h=>nLT hw.size h) (fun _ _ _ h=>h));have H3:=za (fun (w':World) (hw:w.grownBy w' none)=>xj _ ((l.drop F).take M) (q*kk) X w' (F0.z.kept hw) (by rw [lLt,List.length_drop, ←g0];omega) (by rw [lLt,List.length_drop];omega));have H4:=za (fun (w':World) (hw:w.grownBy w' none)=>xj _ (l.drop (F+M)) (q*kk) X w' (D0.z.kept hw) (by rw [List.length_drop, ←g0];omega) (by rw [List.length_drop];omega));have H5:=za (fun (v:Value) (ps:List (Int×Int)) (w':World) (hw:w.grownBy w' none) (Z:Nat→Prop) (hv:Sl zq Z w' v ps) (B0:ps.length=q*kk)=>XC v ps q kk Z (fun g=>w.heap.size≤g) w' hv B0 (by omega) (by omega) (fun g h=>nLT hw.size h));have hd:((l.length:Int) !=(F:Int)+2*(M:Int))=false:=by simpa using hl
      have i1:(F:Int)≤(l.length:Int):=by omega
      have i2:(F:Int)+(M:Int)≤(l.length:Int):=by omega
      have i3:(l.length:Int)≤(c:Int):=by omega
      have i4:(F:Int)+2*(M:Int)≤(c:Int):=by omega
      have h0:=za g0;clear hs hl hq ht j0 hF hM u0 z0 hq1 P0 g0 hz K0;go_enter func160,ntmps160;go_wp2_with fail;refine (HC.z _).mono ?_;rintro e w1 ⟨rfl,hg⟩;have v0:=zJ hg A0;have f0:=xw hg H0;have I0:=f0.z.prule;have N0:=f0.z.lt;clear hg J0;go_wp2_with fail;have i0:Hid (w.grownBy w1.drew none):=za (zf v0.z 1);have V0:Hid (Bk w1.drew w.heap.size 39 p.cells):=za (f0.z.drewN 1);go_region_held3 (fun w'=> ∀o,w'.cell? ⟨w.heap.size,o,none⟩=(#[.int .u64 p.P, .int .u64 p.Q, .int .u64 p.G, .int .u64 p.H, .int .i64 p.Nodes, .int .i64 p.N, .int .i64 p.T, .int .i64 p.K, .int .i64 p.D, .int .i64 p.R, .int .i64 p.M, .int .i64 p.X]:Array Value)[o]?) (first|assumption|exact xh (by assumption) (by assumption) _|go_keep) (first
       |(go_at_call 97;(with_reducible refine (HS.z _).mono ?_);rintro e' w' ⟨rfl,hg⟩;have m0:=zJ hg (by assumption);have l0:=xw hg (by assumption);have O0:=l0.z.prule;have M0:=l0.z.lt;clear hg))
      go_wp2_with fail;refine (H1.z _ m0.z).mono ?_;rintro e w3 ⟨v3,rfl,hs3,hg3⟩;have t0:=za (m0.z.trans hg3);have p0:=za hs3;clear hs3 hg3;go_wp2_with fail;refine (H2.z _ _ t0.z p0.z).mono ?_;rintro e w4 ⟨v4,rfl,hs4,hg4⟩;have i0:=za (t0.z.trans hg4);have b0:=za hs4;clear hs4 hg4 p0;go_wp2_with fail;refine (H3.z _ i0.z).mono ?_;rintro e w5 ⟨v5,rfl,hs5,hg5⟩;have s0:=za (i0.z.trans hg5);have o0:=za hs5;have a0:=za (b0.z.kept hg5);clear hs5 hg5 b0;go_wp2_with fail;refine (H5.z _ _ _ s0.z _ o0.z (yv _ _)).mono ?_;rintro e w6 ⟨v6,rfl,hs6,hg6⟩;have r0:=za (s0.z.trans hg6);have d0:=za hs6;have b0:=za (a0.z.kept hg6);clear hs6 hg6 a0 o0;go_wp2_with fail;refine (H4.z _ r0.z).mono ?_;rintro e w7 ⟨v7,rfl,hs7,hg7⟩;have q0:=za (r0.z.trans hg7);have n0:=za hs7;have a0:=za (b0.z.kept hg7);have c0:=za (d0.z.kept hg7);clear hs7 hg7 b0 d0;go_wp2_with fail;refine (H5.z _ _ _ q0.z _ n0.z (yv _ _)).mono ?_;rintro e w8 ⟨v8,rfl,hs8,hg8⟩;have G0:=za (q0.z.trans hg8);have C0:=za hs8;have b0:=za (a0.z.kept hg8);have d0:=za (c0.z.kept hg8);clear hs8 hg8 a0 c0 n0;go_wp2;refine bodyPost_ret (v:= .tuple #[v4,v6,v8, .int .i64 0]) (by simp [results,Tryz.results160,go_sem]) rfl ?_;rw [U0.z,y0.z,T0.z,S0.z];exact ⟨_,_,_,rfl,b0.z,d0.z,C0.z,G0.z⟩
   ·have W0:Uy p l.length (kk:Int)=4:=by rw [u0,if_neg hl]
    have y0:Hid (Uy p l.length (kk:Int)=4∧TD p l kk= []∧Qb p l kk= []∧Qa p l kk= []):=za (by simp [TD,Qb,Qa,W0]);have hd:((l.length:Int) !=(F:Int)+2*(M:Int))=true:=by simpa using hl
    clear hs hl hq ht j0 hF hM u0 W0 z0 hq1 K0;go_enter func160,ntmps160;go_wp2_with fail;refine (HC.z _).mono ?_;rintro e w1 ⟨rfl,hg⟩;have v0:=zJ hg A0;have f0:=xw hg H0;have I0:=f0.z.prule;have N0:=f0.z.lt;clear hg J0;go_wp2_with fail;have i0:Hid (w.grownBy w1.drew none):=za (zf v0.z 1);have V0:Hid (Bk w1.drew w.heap.size 39 p.cells):=za (f0.z.drewN 1);go_region_held3 (fun w'=> ∀o,w'.cell? ⟨w.heap.size,o,none⟩=(#[.int .u64 p.P, .int .u64 p.Q, .int .u64 p.G, .int .u64 p.H, .int .i64 p.Nodes, .int .i64 p.N, .int .i64 p.T, .int .i64 p.K, .int .i64 p.D, .int .i64 p.R, .int .i64 p.M, .int .i64 p.X]:Array Value)[o]?) (first|assumption|exact xh (by assumption) (by assumption) _|go_keep) (first
     |(go_at_call 97;(with_reducible refine (HS.z _).mono ?_);rintro e' w' ⟨rfl,hg⟩;have m0:=zJ hg (by assumption);have l0:=xw hg (by assumption);have O0:=l0.z.prule;have M0:=l0.z.lt;clear hg))
    go_wp2;refine bodyPost_ret (v:= .tuple #[.slice none 0 0, .slice none 0 0, .slice none 0 0, .int .i64 4]) (by simp [results,Tryz.results160,go_sem]) rfl ?_;rw [y0.z.1,y0.z.2.1,y0.z.2.2.1,y0.z.2.2.2];exact ⟨_,_,_,rfl,Sl.nil _ _ _,Sl.nil _ _ _,Sl.nil _ _ _,m0.z⟩
  ·have HE:Hid (Uy p l.length k=1∧TD p l k= []∧Qb p l k= []∧Qa p l k= []):=za (by simp only [TD,Qb,Qa,Uy];simp [hs,R0]);have I0:True:=trivial;clear hs;by_cases a1:0≤k
   ·have X0:3< k:=by omega
    clear R0;go_enter func160,ntmps160;go_wp2_with fail;refine (HC.z _).mono ?_;rintro e w1 ⟨rfl,hg⟩;have HG:=zJ hg A0;clear hg;go_wp2;refine bodyPost_ret (v:= .tuple #[.slice none 0 0, .slice none 0 0, .slice none 0 0, .int .i64 1]) (by simp [results,Tryz.results160,go_sem]) rfl ?_;rw [HE.z.1,HE.z.2.1,HE.z.2.2.1,HE.z.2.2.2];exact ⟨_,_,_,rfl,Sl.nil _ _ _,Sl.nil _ _ _,Sl.nil _ _ _,HG.z⟩
   ·have X0:k< 0:=by omega
    clear R0 a1;go_enter func160,ntmps160;go_wp2_with fail;refine (HC.z _).mono ?_;rintro e w1 ⟨rfl,hg⟩;have HG:=zJ hg A0;clear hg;go_wp2;refine bodyPost_ret (v:= .tuple #[.slice none 0 0, .slice none 0 0, .slice none 0 0, .int .i64 1]) (by simp [results,Tryz.results160,go_sem]) rfl ?_;rw [HE.z.1,HE.z.2.1,HE.z.2.2.1,HE.z.2.2.2];exact ⟨_,_,_,rfl,Sl.nil _ _ _,Sl.nil _ _ _,Sl.nil _ _ _,HG.z⟩
theorem Mf(p:Par)(i:Int): ∀(l:List Int) (x e:Int),U64 x→U64 (Mg p i l x e)
 | [],_,_,h=>h
 |_::l,_,_,_=>Mf p i l _ _ (xf _ _)
theorem ET(p:Par)(l:List Int)(i:Int):U64 (atI p l i):=Mf p i l _ _ (xf _ _)
def zC(p:Par)(coms:List (List Int))(i:Int):List Int:=coms.map fun l=>atI p l i
def yH(l:List (List Int)):Nat:=l.foldl (fun n c=>max n c.length) 0
def US(p:Par)(l:List (List Int))(j:Nat):List Int:=l.map fun c=>c[j]?.getD (yh p.P [])
def yj(p:Par)(l:List (List Int)):List (List Int):=(List.range (yH l)).map (US p l)
def zD(p:Par)(m:List (List (List Int)))(x:Int):List (List Int):=m.map fun l=>zC p (yj p l) x
def yq(p:Par)(m:List (List (List Int)))(y:Int):List (List Int):=m.map fun l=>zC p l y
theorem yD{α β:Type}(f:α→β)(l:List α)(j:Nat)(h:j< l.length):(l.take (j+1)).map f=(l.take j).map f++ [f l[j]]:=by
 rw [tSg h,lMa];rfl
theorem Xt(p:Par)(v:Value)(ls:List (List Int))(i:Int)(X:Nat→Prop)(w:World)(h:Sl (zh ze) X w v ls)(hi:U64 i)(hb:ls.length≤100000):
  Calls prog 41 #[p.v,v, .int .u64 i] w (zN ze (fun g=>w.heap.size≤g) w (zC p ls i)):=by
 have H:=za h;have HI:=za hi;obtain ⟨A,c,rfl,v0,u0⟩:=h.form;have g0:Hid (Acc ze w.heap.size 22 (fun g=>w.heap.size≤g) (w.alloc (Obj.cells p.cells 39)) (.slice none 0 0) ((ls.take 0).map fun l=>atI p l i)∧w.grownBy (w.alloc (Obj.cells p.cells 39)) none∧Bk (w.alloc (Obj.cells p.cells 39)) w.heap.size 39 p.cells):=za ⟨Acc.nil _ _ _ _ _,gAl w _ none,Bk.new w _ _⟩;clear h hi;go_enter func41,ntmps41;go_wp2_with fail;go_loopg [7,12] ls.length (fun g s7 s12 wx=> ∃j:Nat,j+g=ls.length∧s12= .int .i64 j∧Hid (Acc ze w.heap.size 22 (fun g=>w.heap.size≤g) wx s7 ((ls.take j).map fun l=>atI p l i)∧w.grownBy wx none∧Bk wx w.heap.size 39 p.cells))
 case atStart=>exact ⟨0,by omega,rfl,g0⟩
 case round=>
  obtain ⟨j,hj,rfl,HX⟩:=hrel;cases gk with
  |zero=>
   obtain rfl:j=ls.length:=by omega
   have HR:Hid (Sl ze (fun g=>w.heap.size≤g) wr u7 (zC p ls i)∧w.grownBy wr none):=za ⟨by have:=HX.z.1.sl;rwa [List.take_length] at this,HX.z.2.1⟩;clear HX g0;go_wp2;go_ret;exact ⟨_,rfl,HR.z.1,HR.z.2⟩
  |succ m=>
   have t0:(j:Int)< (ls.length:Int):=by omega
   have j0:j< ls.length:=by omega
   obtain ⟨b0,hg,f0⟩:=HX.z;obtain ⟨g,o,c',u,e,_,_,o0,d0⟩:=(H.out.kept hg).atS j0;injection e with e1 e2 e3
   subst e1 e3;obtain ⟨A1,c1,e1,_,_⟩:=d0.form;subst e1;have m0:=za (yD (fun l=>atI p l i) ls j j0);have HF:=za (Cc p _ ls[j] i X wr d0 HI.z);have HU:=za (ET p ls[j] i);have s0:=za b0;have HG:=za hg;have r0:=za f0;have hp:=f0.prule;have p0:Hid ((((ls.take j).map fun l=>atI p l i).length+1)*8≤140737488355328):=za (by simp;omega);clear b0 hg f0 d0 e2 HX g0;generalize hy:ls[j]=y at m0 HF HU o0;clear hy;generalize y.length=n1 at *;go_wp2_with fail;refine HF.z.mono ?_;rintro e' w1 ⟨rfl,hg1⟩;have q0:=za (HG.z.trans hg1);have n0:=za (s0.z.kept hg1);have c0:=za (r0.z.grown hg1 (by simp));clear hg1 hp;go_wp2_with (at_builtin;refine zF rfl (.tmp 16) (.tmp 21) rfl (E:=ze) xD q0.z n0.z (fun _ h=>h) ⟨rfl,HU.z⟩ p0.z rfl rfl ?_);intro v2 w2 a0 l0 k0;have i0:Hid (Acc ze w.heap.size 22 (fun g=>w.heap.size≤g) w2 v2 ((ls.take (j+1)).map fun l=>atI p l i)∧w.grownBy w2 none∧Bk w2 w.heap.size 39 p.cells):=za ⟨by rw [m0.z];simpa using a0,l0,c0.z.grown k0 (fun e=>n0.z.ne_bk c0.z (by decide) e.symm)⟩;clear a0 l0 k0;go_wp2_with fail;go_roundg m
   case measure=>omega
   case rel=>exact ⟨j+1,by omega,by go_num,i0⟩
theorem Sl.fresh{α:Type}{E:Enc α}{w0 w w':World}{v u:Value}{xs:List α}{base:Nat}{e:TypeId}{β:Type}{F:Enc β}{Y:Nat→Prop}{ys:List β}(h:Sl E (fun g=>w.heap.size≤g) w' v xs)(hg:w0.grownBy w none)(ha:Acc F base e Y w u ys):
  Sl E (fun g=>w0.heap.size≤g∧some g≠u.ownBlock) w' v xs:=
 h.more fun g _ h=>⟨nLT hg.size h,fun e=>by have:=(ha.lt g e.symm).2;omega⟩
theorem OY(p:Par)(v:Value)(m:List (List (List Int)))(y:Int)(X:Nat→Prop)(w:World)(h:Sl (zh (zh ze)) X w v m)(hy:U64 y)(hb:m.length≤100000)(n0: ∀l∈m,l.length≤100000):
  Calls prog 164 #[p.v,v, .int .u64 y] w (zN (zh ze) (fun g=>w.heap.size≤g) w (yq p m y)):=by
 have H:=za h;have HI:=za hy;have y0:=za n0;obtain ⟨A,c,rfl,B0,A0⟩:=h.form;have i0:Hid (Acc (zh ze) w.heap.size 31 (fun g=>w.heap.size≤g) (w.alloc (Obj.cells p.cells 39)) (.slice none 0 0) ((m.take 0).map fun l=>zC p l y)∧w.grownBy (w.alloc (Obj.cells p.cells 39)) none∧Bk (w.alloc (Obj.cells p.cells 39)) w.heap.size 39 p.cells):=za ⟨Acc.nil _ _ _ _ _,gAl w _ none,Bk.new w _ _⟩;clear h hy n0;go_enter func164,ntmps164;go_wp2_with fail;go_loopg [7,12] m.length (fun g s7 s12 wx=> ∃j:Nat,j+g=m.length∧s12= .int .i64 j∧Hid (Acc (zh ze) w.heap.size 31 (fun g=>w.heap.size≤g) wx s7 ((m.take j).map fun l=>zC p l y)∧w.grownBy wx none∧Bk wx w.heap.size 39 p.cells))
 case atStart=>exact ⟨0,by omega,rfl,i0⟩
 case round=>
  obtain ⟨j,hj,rfl,HX⟩:=hrel;cases gk with
  |zero=>
   obtain rfl:j=m.length:=by omega
   have HR:Hid (Sl (zh ze) (fun g=>w.heap.size≤g) wr u7 (yq p m y)∧w.grownBy wr none):=za ⟨by have:=HX.z.1.sl;rwa [List.take_length] at this,HX.z.2.1⟩;clear HX i0;go_wp2;go_ret;exact ⟨_,rfl,HR.z.1,HR.z.2⟩
  |succ n=>
   have z0:(j:Int)< (m.length:Int):=by omega
   have f0:j< m.length:=by omega
   obtain ⟨b0,hg,g0⟩:=HX.z;obtain ⟨g,o,c',u,e,_,_,s0,d0⟩:=(H.out.kept hg).atS f0;injection e with e1 e2 e3
   subst e1 e3;obtain ⟨A1,c1,e1,_,_⟩:=d0.form;subst e1;have o0:=za (yD (fun l=>zC p l y) m j f0);have HF:=za (Xt p _ m[j] y X wr d0 HI.z (y0.z _ (lGm f0)));have p0:Hid ((zC p m[j] y).length=m[j].length):=za (by simp [zC]);have q0:=za b0;have HG:=za hg;have v0:=za g0;have hp:=g0.prule;have t0:Hid ((((m.take j).map fun l=>zC p l y).length+1)*24≤140737488355328):=za (by simp;omega);clear b0 hg g0 d0 e2 HX i0;generalize hy:m[j]=z at o0 HF s0 p0;clear hy;generalize z.length=n1 at *;go_wp2_with fail;refine HF.z.mono ?_;rintro e' w1 ⟨v1,rfl,hs1,hg1⟩;obtain ⟨A2,c2,e2,_,_⟩:=hs1.form;rw [p0.z] at e2;subst e2;have u0:=za (HG.z.trans hg1);have r0:=za (q0.z.kept hg1);have c0:=za (v0.z.grown hg1 (by simp));have j0:Hid (Enc.rep (zh ze) (fun g=>w.heap.size≤g∧some g≠u7.ownBlock) w1 [.slice A2 n1 c2] (zC p z y)):=za ⟨_,rfl,hs1.fresh HG.z q0.z⟩;clear hg1 hp hs1;go_wp2_with (at_builtin;refine zF rfl (.tmp 16) (.tmp 21) rfl (E:=zh ze) Zo u0.z r0.z (fun _ h=>h) j0.z t0.z rfl rfl ?_);intro v2 w2 a0 m0 l0;have k0:Hid (Acc (zh ze) w.heap.size 31 (fun g=>w.heap.size≤g) w2 v2 ((m.take (j+1)).map fun l=>zC p l y)∧w.grownBy w2 none∧Bk w2 w.heap.size 39 p.cells):=za ⟨by rw [o0.z];simpa using a0,m0,c0.z.grown l0 (fun e=>r0.z.ne_bk c0.z (by decide) e.symm)⟩;clear a0 m0 l0;go_wp2_with fail;go_roundg n
   case measure=>omega
   case rel=>exact ⟨j+1,by omega,by go_num,k0⟩
theorem zZ: ∀(hs:List Value),(hs.map fun v=> [v]).flatten=hs
 | []=>rfl
 |a::l=>by simpa using zZ l
theorem Va(l:List (List Int))(B:Nat)(h: ∀c∈l,c.length≤B):yH l≤B:=by
 have key: ∀(l:List (List Int)) (n:Nat),n≤B→(∀c∈l,c.length≤B)→l.foldl (fun n c=>max n c.length) n≤B:=by
  intro l;induction l with
  |nil=>intro n hn _;exact hn
  |cons c l ih=>intro n hn h;exact ih _ (Nat.max_le.2 ⟨hn,h c (by simp)⟩) (fun d hd=>h d (by simp [hd]))
 exact key l 0 (Nat.zero_le _) h
theorem Qf(l:List (List Int))(j:Nat)(h:j< l.length):yH (l.take (j+1))=max (yH (l.take j)) l[j].length:=by
 unfold yH;rw [tSg h,List.foldl_append];rfl
theorem Id(p:Par)(l:List (List Int))(i j:Nat)(h:i< l.length):US p (l.take (i+1)) j=US p (l.take i) j++ [l[i][j]?.getD (yh p.P [])]:=yD _ l i h
theorem GT(p:Par)(c:List Int)(j:Nat)(X:Nat→Prop)(w:World)(v:Value)(h:Sl ze X w v c):U64 (c[j]?.getD (yh p.P [])):=by
 by_cases hj:j< c.length
 ·rw [List.getElem?_eq_getElem hj];obtain ⟨_,_,_,_,_,_,_,u⟩:=h.atU hj;exact u
 ·rw [List.getElem?_eq_none (by omega)];exact xf _ _
theorem Mq(p:Par)(v:Value)(l:List (List Int))(X:Nat→Prop)(w:World)(h:Sl (zh ze) X w v l)(hb:l.length≤100000)(L0: ∀c∈l,c.length≤100000):
  Calls prog 204 #[p.v,v] w (zN (zh ze) (fun g=>w.heap.size≤g) w (yj p l)):=by
 have H:=za h;have Q0:=za L0;obtain ⟨A,c,rfl,s1,r1⟩:=h.form;have x0:Hid (Bk (w.alloc (Obj.cells p.cells 39)) w.heap.size 39 p.cells):=za (Bk.new w _ _);have h0:Hid (w.grownBy (w.alloc (Obj.cells p.cells 39)) none):=za (gAl w _ none);have b1:Hid (yH l≤100000):=za (Va l _ L0);have d1:Hid (yH (l.take 0)=0):=za rfl;clear h L0;go_enter func204,ntmps204;go_wp2_with fail;have V0:Hid ((w.alloc (Obj.cells p.cells 39))=(w.alloc (Obj.cells p.cells 39))):=za rfl;go_loopg [5,15] l.length (fun g s5 s15 wx=> ∃j n:Nat,j+g=l.length∧s15= .int .i64 j∧s5= .int .i64 n∧Hid (n=yH (l.take j))∧Hid (wx=(w.alloc (Obj.cells p.cells 39))))
 case atStart=>exact ⟨0,0,by omega,rfl,rfl,za d1.z.symm,V0⟩
 case round=>
  obtain ⟨j,n,hj,rfl,rfl,HN,HX⟩:=hrel;cases gk with
  |zero=>
   obtain rfl:j=l.length:=by omega
   have Y0:Hid (n=yH l):=za (by have:=HN.z;rwa [List.take_length] at this);obtain rfl:wr=(w.alloc (Obj.cells p.cells 39)):=HX.z;have k1:n≤100000:=by rw [Y0.z];exact b1.z
   have l1:=run_make_row' (P:=prog) 43 31 (.slice none 0 0) 24 Tryz.underlying43 XE rfl .i64 .i64 n (by omega) (by omega);have s0:Hid (Bk ((w.alloc (Obj.cells p.cells 39)).alloc (.cells (madeCells #[.slice none 0 0] n) 31)) (w.heap.size+1) 31 (List.replicate n (.slice none 0 0)).toArray):=za (by
    have:=Bk.new (w.alloc (Obj.cells p.cells 39)) 31 (madeCells #[.slice none 0 0] n)
    rw [World.size_alloc] at this;exact this.of_eq (Array.toList_inj.1 (by rw [toList_madeCells_one])))
   have u0:Hid (Bk ((w.alloc (Obj.cells p.cells 39)).alloc (.cells (madeCells #[.slice none 0 0] n) 31)) (w.heap.size+1) 31 (List.replicate n (Value.slice none 0 0)).toArray∧
     (∀i (hi:i< (List.replicate n (Value.slice none 0 0)).length),i< 0→Sl ze (fun g=>w.heap.size+1< g) ((w.alloc (Obj.cells p.cells 39)).alloc (.cells (madeCells #[.slice none 0 0] n) 31)) (List.replicate n (Value.slice none 0 0))[i] (US p l i))∧
     (∀i (hi:i< (List.replicate n (Value.slice none 0 0)).length),0≤i→(List.replicate n (Value.slice none 0 0))[i]= .slice none 0 0)∧w.grownBy ((w.alloc (Obj.cells p.cells 39)).alloc (.cells (madeCells #[.slice none 0 0] n) 31)) none∧
     Bk ((w.alloc (Obj.cells p.cells 39)).alloc (.cells (madeCells #[.slice none 0 0] n) 31)) w.heap.size 39 p.cells):=
    za ⟨s0.z,fun i hi h=>absurd h (Nat.not_lt_zero _),fun i hi _=>by simp,h0.z.trans (gAl _ _ none),x0.z.alloc _⟩
   have f1:Hid ((List.replicate n (Value.slice none 0 0)).length=n):=za (by simp);clear HX V0 s0 x0;go_wp2_with fail;go_loopg [28] n (fun g s28 wx=> ∃(j:Nat) (hs:List Value),j+g=n∧s28= .int .i64 j∧Hid (hs.length=n)∧Hid (Bk wx (w.heap.size+1) 31 hs.toArray∧
     (∀i (hi:i< hs.length),i< j→Sl ze (fun g=>w.heap.size+1< g) wx hs[i] (US p l i))∧(∀i (hi:i< hs.length),j≤i→hs[i]= .slice none 0 0)∧w.grownBy wx none∧Bk wx w.heap.size 39 p.cells))
   case atStart=>exact ⟨0,_,by omega,rfl,f1,u0⟩
   case round=>
    rename World=>wj
    obtain ⟨j,hs,hj,rfl,q0,HX⟩:=hrel;cases gk with
    |zero=>
     obtain rfl:j=n:=by omega
     have HR:Hid (Sl (zh ze) (fun g=>w.heap.size≤g) wj (.slice (some ⟨w.heap.size+1,0,none⟩) j j) (yj p l)∧w.grownBy wj none):=za (by
      obtain ⟨h1,h2,_,h4,_⟩:=HX.z;have M0:(yj p l).length=j:=by simp [yj,Y0.z]
      have:=Sl.block (E:=zh ze) (X:=fun g=>w.heap.size≤g) (xs:=yj p l) (c:=j) h1 (by omega) (hs.map fun v=> [v]) (by rw [lLm,q0.z,M0]) (fun i hi q1=>⟨hs[i]'(by rw [q0.z];omega),by simp,by
       have hc:=(h2 i (by rw [q0.z];omega) (by omega)).more (Y:=fun g=>w.heap.size≤g) (fun g _ hg=>by omega);have he:(yj p l)[i]=US p l i:=by simp [yj]
       rw [he];exact hc⟩) (by
        rw [zZ]) (by rw [M0];exact nRf _) (by omega)
      rw [M0] at this;exact ⟨this,h4⟩)
     clear HX u0 q0;go_wp2;go_ret;exact ⟨_,rfl,HR.z.1,HR.z.2⟩
    |succ m=>
     have W0:(j:Int)< (n:Int):=by omega
     have C0:j< hs.length:=by rw [q0.z];omega
     have R0:w.heap.size+1< wj.heap.size:=HX.z.1.lt;have O0:Hid (Acc ze wj.heap.size 22 (fun g=>wj.heap.size≤g) wj (.slice none 0 0) (US p (l.take 0) j)∧Bk wj (w.heap.size+1) 31 (hs.set j (.slice none 0 0)).toArray∧wj.grownBy wj (some (w.heap.size+1))∧Bk wj w.heap.size 39 p.cells):=za ⟨Acc.nil _ _ _ _ _,by
      have:=HX.z.2.2.1 j C0 (nRf _)
      rw [←this,List.set_getElem_self];exact HX.z.1,gRr _ _,HX.z.2.2.2.2⟩
     have g1:=za HX.z.2.2.2.1;have m0:=za R0;clear R0;go_wp2_with fail;go_loopg [33] l.length (fun g s33 wx=> ∃(i:Nat) (v:Value),i+g=l.length∧s33= .int .i64 i∧Hid (Acc ze wj.heap.size 22 (fun g=>wj.heap.size≤g) wx v (US p (l.take i) j)∧Bk wx (w.heap.size+1) 31 (hs.set j v).toArray∧wj.grownBy wx (some (w.heap.size+1))∧Bk wx w.heap.size 39 p.cells))
     case atStart=>exact ⟨0,_,by omega,rfl,O0⟩
     case round=>
      rename World=>wi
      obtain ⟨i,v,hi,rfl,HY⟩:=hrel;cases gk with
      |zero=>
       obtain rfl:i=l.length:=by omega
       have g0:Hid (Bk wi (w.heap.size+1) 31 (hs.set j v).toArray∧(∀i (hi:i< (hs.set j v).length),i< j+1→Sl ze (fun g=>w.heap.size+1< g) wi (hs.set j v)[i] (US p l i))∧(∀i (hi:i< (hs.set j v).length),j+1≤i→(hs.set j v)[i]= .slice none 0 0)∧w.grownBy wi none∧Bk wi w.heap.size 39 p.cells):=za (by
        obtain ⟨h1,h2,h3,h4⟩:=HY.z;obtain ⟨_,k2,k3,k4,_⟩:=HX.z;rw [List.take_length] at h1;refine ⟨h2,fun i hi a1=> ?_,fun i hi a1=> ?_,zP k4 h3 (fun g e=>by injection e with e;subst e;omega),h4⟩
        ·rcases Nat.lt_or_ge i j with hlt|hge
         ·rw [List.getElem_set_ne (by omega)];exact ((k2 i (by simpa using hi) hlt).bounded.keep h3 (fun g hg e=>by injection e with e;have:=hg.1;omega)).more (fun g _ hg=>hg.1)
         ·obtain rfl:i=j:=by omega
          rw [List.getElem_set_self];exact h1.sl.more (fun g _ hg=>nLl m0.z hg)
        ·rw [List.getElem_set_ne (by omega)];exact k3 i (by simpa using hi) (by omega))
       have N0:Hid ((hs.set j v).length=n):=za (by rw [List.length_set];exact q0.z);clear HX HY u0 O0;go_wp2_with fail;go_roundg m
       case measure=>omega
       case rel=>exact ⟨j+1,_,by omega,by go_num,N0,g0⟩
      |succ q=>
       have p1:(i:Int)< (l.length:Int):=by omega
       have G0:i< l.length:=by omega
       obtain ⟨k0,U0,I0,K0⟩:=HY.z;have H0:w.grownBy wi none:=zP g1.z I0 (fun g e=>by injection e with e;subst e;omega);obtain ⟨g,o,c',u,e,_,_,T0,j0⟩:=(H.out.kept H0).atS G0;injection e with e1 e2 e3
       subst e1 e3;obtain ⟨A1,c1,e1,_,_⟩:=j0.form;subst e1;have P0:=za j0;have l0:=za (Id p l i j G0);have r0:=za (GT p l[i] j _ _ _ j0);obtain ⟨A2,c2,e4,_,_⟩:=k0.sl.form;have J0:(US p (l.take i) j).length=i:=by simp [US];omega
       rw [J0] at e4;subst e4;have E0:=za k0;have s0:=za U0;have t1:=za H0;have e0:=za I0;have w0:=za K0;have hp:=K0.prule;have z0:l[i].length≤100000:=Q0.z _ (lGm G0);have v0:=za C0;have Z0:Hid (((US p (l.take i) j).length+1)*8≤140737488355328):=za (by rw [J0];omega);clear k0 U0 I0 K0 H0 j0 e2 J0 HY O0 u0 C0;obtain ⟨L,hL⟩:=exq (l[i]);rw [←hL] at T0 z0;rw [←hL] at P0 l0 r0;clear hL;have X0:(0:Int)≤(j:Int):=by omega
       by_cases S0:j< L.length
       ·have F0:(j:Int)< (L.length:Int):=by omega
        rw [show L[j]?.getD (yh p.P [])=L[j] by rw [List.getElem?_eq_getElem S0];rfl] at l0 r0;go_wp2_with fail;refine (Ue p _).mono ?_;rintro e' w1 ⟨rfl,hg1⟩;have i1:Hid (wi.grownBy w1 none):=za hg1;have t0:=za (E0.z.kept hg1);have f0:=za (s0.z.grown hg1 (by simp));have p0:=za (w0.z.grown hg1 (by simp));have a0:Hid (wj.grownBy w1 (some (w.heap.size+1))):=za (e0.z.trans (xm hg1));have co:w1.cell? ⟨w.heap.size+1,j,none⟩=some (.slice A2 i c2):=by rw [f0.z.cell j];simp [v0.z]
        have lo:=f0.z.lt;have cx:=(P0.z.kept hg1);obtain ⟨gq,oq,cq,eq1,_,_,cq0,_⟩:=cx.atU S0;injection eq1 with eq1
        subst eq1;clear hg1 hp;go_wp2_with (at_builtin;refine zW rfl (.tmp 52) (.tmp 54) rfl (E:=ze) (X:=fun g=>wj.heap.size≤g) xD t0.z rfl rfl ⟨rfl,r0.z⟩ Z0.z a0.z.size (fun g h=>nLT a0.z.size h) ?_);intro v2 w2 b0 c0 y0;have i0: ∀g,(Value.slice A2 i c2).ownBlock=some g→wj.heap.size≤g:=fun g e=>(t0.z.lt g e).1
        obtain ⟨A3,c3,e5,_,_⟩:=b0.sl.form;have A0:(US p (l.take i) j++ [L[j]]).length=i+1:=by simp [US];omega
        rw [A0] at e5;subst e5;have d0:Hid (Bk w2 (w.heap.size+1) 31 (hs.set j (.slice A2 i c2)).toArray):=za (f0.z.grown c0 (fun e=>by have:=i0 _ e.symm;have:=m0.z;omega));have o0:Hid (Bk w2 w.heap.size 39 p.cells):=za (p0.z.grown c0 (fun e=>by have:=i0 _ e.symm;have:=m0.z;omega));have n0:Hid (wj.grownBy w2 (some (w.heap.size+1))):=za ⟨c0.os.trans a0.z.os,c0.tape.trans a0.z.tape,c0.output.trans a0.z.output,nLT a0.z.size c0.size,fun k hk B0=>(c0.block k (nLl hk a0.z.size) (fun e=>by have:=i0 _ e.symm;omega)).trans (a0.z.block k hk B0)⟩;have co2:w2.cell? ⟨w.heap.size+1,j,none⟩=some (.slice A2 i c2):=by rw [d0.z.cell j];simp [v0.z]
        have fo2:=d0.z.free j;have g0:Hid (Acc ze wj.heap.size 22 (fun g=>wj.heap.size≤g) (w2.setCell ⟨w.heap.size+1,j,none⟩ (.slice A3 (i+1) c3)) (.slice A3 (i+1) c3) (US p (l.take (i+1)) j)∧Bk (w2.setCell ⟨w.heap.size+1,j,none⟩ (.slice A3 (i+1) c3)) (w.heap.size+1) 31 (hs.set j (.slice A3 (i+1) c3)).toArray∧wj.grownBy (w2.setCell ⟨w.heap.size+1,j,none⟩ (.slice A3 (i+1) c3)) (some (w.heap.size+1))∧Bk (w2.setCell ⟨w.heap.size+1,j,none⟩ (.slice A3 (i+1) c3)) w.heap.size 39 p.cells):=za ⟨by
          rw [l0.z];exact b0.keep (xd (gRr _ (some (w.heap.size+1))) j _) (fun g hg e=>by injection e with e;have:=m0.z;omega),(d0.z.set j _).of_eq (by simp),xd n0.z j _,o0.z.far (by simp) _⟩
        clear b0 c0 y0 i0 co lo cx;go_wp2_with fail;go_roundg q
        case measure=>omega
        case rel=>exact ⟨i+1,_,by omega,by go_num,g0⟩
       ·have F0: ¬(j:Int)< (L.length:Int):=by omega
        rw [show L[j]?.getD (yh p.P [])=yh p.P [] by rw [List.getElem?_eq_none (by omega)];rfl] at l0 r0;go_wp2_with fail;refine (Ue p _).mono ?_;rintro e' w1 ⟨rfl,hg1⟩;have i1:Hid (wi.grownBy w1 none):=za hg1;have t0:=za (E0.z.kept hg1);have f0:=za (s0.z.grown hg1 (by simp));have p0:=za (w0.z.grown hg1 (by simp));have a0:Hid (wj.grownBy w1 (some (w.heap.size+1))):=za (e0.z.trans (xm hg1));have co:w1.cell? ⟨w.heap.size+1,j,none⟩=some (.slice A2 i c2):=by rw [f0.z.cell j];simp [v0.z]
        have lo:=f0.z.lt;have cx:=(P0.z.kept hg1);clear hg1 hp;go_wp2_with (at_builtin;refine zW rfl (.tmp 52) (.tmp 54) rfl (E:=ze) (X:=fun g=>wj.heap.size≤g) xD t0.z rfl rfl ⟨rfl,r0.z⟩ Z0.z a0.z.size (fun g h=>nLT a0.z.size h) ?_);intro v2 w2 b0 c0 y0;have i0: ∀g,(Value.slice A2 i c2).ownBlock=some g→wj.heap.size≤g:=fun g e=>(t0.z.lt g e).1
        obtain ⟨A3,c3,e5,_,_⟩:=b0.sl.form;have A0:(US p (l.take i) j++ [yh p.P []]).length=i+1:=by simp [US];omega
        rw [A0] at e5;subst e5;have d0:Hid (Bk w2 (w.heap.size+1) 31 (hs.set j (.slice A2 i c2)).toArray):=za (f0.z.grown c0 (fun e=>by have:=i0 _ e.symm;have:=m0.z;omega));have o0:Hid (Bk w2 w.heap.size 39 p.cells):=za (p0.z.grown c0 (fun e=>by have:=i0 _ e.symm;have:=m0.z;omega));have n0:Hid (wj.grownBy w2 (some (w.heap.size+1))):=za ⟨c0.os.trans a0.z.os,c0.tape.trans a0.z.tape,c0.output.trans a0.z.output,nLT a0.z.size c0.size,fun k hk B0=>(c0.block k (nLl hk a0.z.size) (fun e=>by have:=i0 _ e.symm;omega)).trans (a0.z.block k hk B0)⟩;have co2:w2.cell? ⟨w.heap.size+1,j,none⟩=some (.slice A2 i c2):=by rw [d0.z.cell j];simp [v0.z]
        have fo2:=d0.z.free j;have g0:Hid (Acc ze wj.heap.size 22 (fun g=>wj.heap.size≤g) (w2.setCell ⟨w.heap.size+1,j,none⟩ (.slice A3 (i+1) c3)) (.slice A3 (i+1) c3) (US p (l.take (i+1)) j)∧Bk (w2.setCell ⟨w.heap.size+1,j,none⟩ (.slice A3 (i+1) c3)) (w.heap.size+1) 31 (hs.set j (.slice A3 (i+1) c3)).toArray∧wj.grownBy (w2.setCell ⟨w.heap.size+1,j,none⟩ (.slice A3 (i+1) c3)) (some (w.heap.size+1))∧Bk (w2.setCell ⟨w.heap.size+1,j,none⟩ (.slice A3 (i+1) c3)) w.heap.size 39 p.cells):=za ⟨by
          rw [l0.z];exact b0.keep (xd (gRr _ (some (w.heap.size+1))) j _) (fun g hg e=>by injection e with e;have:=m0.z;omega),(d0.z.set j _).of_eq (by simp),xd n0.z j _,o0.z.far (by simp) _⟩
        clear b0 c0 y0 i0 co lo cx;go_wp2_with fail;go_roundg q
        case measure=>omega
        case rel=>exact ⟨i+1,_,by omega,by go_num,g0⟩
  |succ m=>
   have W0:(j:Int)< (l.length:Int):=by omega
   have D0:j< l.length:=by omega
   have hg:w.grownBy wr none:=by rw [HX.z];exact h0.z
   obtain ⟨g,o,c',u,e,_,_,T0,j0⟩:=(H.out.kept hg).atS D0;injection e with e1 e2 e3
   subst e1 e3;obtain ⟨A1,c1,e1,_,_⟩:=j0.form;subst e1;have l0:Hid (yH (l.take (j+1))=max n l[j].length):=za (by rw [Qf l j D0,HN.z]);have j1:n≤100000:=by rw [HN.z];exact Va _ _ (fun c hc=>Q0.z c (mMt hc))
   have o1:l[j].length≤100000:=Q0.z _ (lGm D0);clear hg j0 e2 HN;generalize l[j].length=n1 at *;go_wp2_with fail
   all_goals
    go_roundg m
    case measure=>omega
    case rel=>exact ⟨j+1,max n n1,by omega,by go_num,by congr 1;omega,za l0.z.symm,HX⟩
theorem Mj(a b m:Int)(w:World)(ha:U64 a)(hb:U64 b):
  Calls prog 142 #[.int .u64 a, .int .u64 b, .int .u64 m] w fun e w'=>e= .returned (.int .u64 (xn a b m))∧w.grownBy w' none:=
 (EX a b m w ha hb).mono fun _ _ ⟨he,n,hn⟩=>⟨he,by rw [hn];exact zf (gRr w none) n⟩
theorem Kt(a b m:Int)(w:World)(ha:U64 a)(hb:U64 b):
  Calls prog 232 #[.int .u64 a, .int .u64 b, .int .u64 m] w fun e w'=>e= .returned (.int .u64 (YQ a b m))∧w.grownBy w' none:=
 (Ku a b m w ha hb).mono fun _ _ ⟨he,n,hn⟩=>⟨he,by rw [hn];exact zf (gRr w none) n⟩
theorem UA(a b m:Int)(w:World)(ha:U64 a)(hb:U64 b):
  Calls prog 139 #[.int .u64 a, .int .u64 b, .int .u64 m] w fun e w'=>e= .returned (.int .u64 (zR a b m))∧w.grownBy w' none:=
 (ZG a b m w ha hb).mono fun _ _ ⟨he,n,hn⟩=>⟨he,by rw [hn];exact zf (gRr w none) n⟩
theorem GE(a m:Int)(ha:U64 a)(hm:0< m):U64 (a%m):=by
 obtain ⟨a0,a1⟩:=ha;have h1:=Int.emod_nonneg a (show m≠0 by omega);have h3:=Int.mul_nonneg (Int.le_of_lt hm) (Int.ediv_nonneg a0 (Int.le_of_lt hm));have h4:=Int.mul_ediv_add_emod a m;exact ⟨h1,by omega⟩
end
section
open Go Go.RowKit
theorem Ec{a b:Int}(h:a=b):Ending.returned (.int .i64 a)= .returned (.int .i64 b):=by rw [h]
def YA(q x:Int)(l:List Int)(o:Int):Int:=l.foldl (fun o y=>xn (zR o x q) y q) o
def zH(q:Int)(c:List Int)(x:Int):Int:=YA q x c.reverse 0
theorem TL(q x:Int): ∀(l:List Int) (o:Int),U64 o→U64 (YA q x l o)
 | [],_,h=>h
 |_::l,_,_=>TL q x l _ (XT _ _ _)
theorem xR(q:Int)(c:List Int)(x:Int):U64 (zH q c x):=TL q x _ _ ⟨by decide,by decide⟩
theorem OP(q x:Int)(l:List Int)(j:Nat)(h:j< l.length)(o:Int):YA q x (l.take (j+1)) o=xn (zR (YA q x (l.take j) o) x q) l[j] q:=by
 unfold YA;rw [tSg h,List.foldl_append];rfl
theorem MB(l:List Int)(j:Nat)(h:j< l.length):l.reverse[j]'(by simpa using h)=l[l.length - 1 - j]'(by omega):=by simp
theorem YH(v:Value)(l:List Int)(x q:Int)(X:Nat→Prop)(w:World)(h:Sl ze X w v l)(hx:U64 x):
  Calls prog 88 #[v, .int .u64 x, .int .u64 q] w fun e w'=>e= .returned (.int .u64 (zH q l x))∧w.grownBy w' none:=by
 have H:=za h;have HX:=za hx;obtain ⟨A,c,rfl,hc1,hc2⟩:=h.form;have HST:Hid (w.grownBy w none∧U64 0∧(0:Int)=YA q x (l.reverse.take 0) 0):=za ⟨gRr w none,⟨by decide,by decide⟩,rfl⟩;clear h hx;obtain ⟨n,hn⟩:=exq (l.length);have HN:=za hn;rw [←hn] at hc1 ⊢;have hn9:(n:Int)≤9223372036854775807:=by omega
 clear hn;go_enter func88,ntmps88;go_wp2_with fail;go_loopg [7,11] n (fun g s7 s11 wx=> ∃(j:Nat) (o:Int),j+g=n∧s11= .int .i64 j∧s7= .int .u64 o∧Hid (w.grownBy wx none∧U64 o∧o=YA q x (l.reverse.take j) 0))
 case atStart=>exact ⟨0,0,by omega,rfl,rfl,HST⟩
 case round=>
  obtain ⟨j,o,hj,rfl,rfl,HR⟩:=hrel;cases gk with
  |zero=>
   obtain rfl:j=n:=by omega
   have HE:Hid (o=zH q l x):=za (by rw [HR.z.2.2,HN.z,zH,List.take_of_length_le (by simp)]);have HG:=za HR.z.1;clear HR HST;go_wp2;go_ret;exact ⟨Ov HE.z,HG.z⟩
  |succ m=>
   have hjn:(j:Int)< (n:Int):=by omega
   have hjN:j< l.length:=by rw [←HN.z];omega
   obtain ⟨r,hr⟩: ∃r,r+j+1=n:=⟨m,by omega⟩;have hrl:r< l.length:=by rw [←HN.z];omega
   obtain ⟨g,of,c',e,_,_,hcu,hu⟩:=(H.out.kept HR.z.1).atU hrl;injection e with e1 e2 e3
   subst e1 e3;have HGd:Hid (w.grownBy wr.drew none):=za (zf HR.z.1 1);have HC0:=za (fun (w':World) (hw:wr.drew.grownBy w' none)=>(H.out.kept (HGd.z.trans hw)).atU hrl);have HC:Hid (∀w',wr.drew.grownBy w' none→w'.cell? ⟨g,of+r,none⟩=some (.int .u64 l[r])):=za (fun w' hw=>by
    obtain ⟨g2,of2,c2,e2,_,_,h3,_⟩:=HC0.z w' hw;injection e2 with e21 e22 e23
    injection e21 with e21
    injection e21 with e24 e25
    subst e24 e25;exact h3)
   have HY:=za hu;have HO:=za HR.z.2.1;have HSN:Hid (xn (zR o x q) l[r] q=YA q x (l.reverse.take (j+1)) 0):=za (by
    rw [OP q x l.reverse j (by simpa using hjN),MB l j hjN, ←HR.z.2.2]
    congr 2
    have:=HN.z
    omega)
   have e4:IntKind.i64.wrap ((n:Int) - 1)=(n:Int) - 1:=i6n _ (by omega);have e5:IntKind.i64.wrap ((n:Int) - 1 - (j:Int))=(r:Int):=by rw [i6n _ (by omega)];omega
   have hr0:(0:Int)≤(r:Int):=by omega
   have hrn:(r:Int)< (n:Int):=by omega
   clear hcu hu HC0 HR HST e2;generalize l[r]=y at *;go_wp2_with fail;refine ZF 15 ?_;refine mP0 (.int .u64 o) ?_;refine mP0 (.int .u64 x) ?_;refine mP0 (.int .u64 q) ?_;refine zm.step (Pv.eq (.int .u64 (zR o x q))) [(0,14),(1,15),(2,16)] (by kernel_rfl) (fun w' hw'=> ?_) ?_
   ·rintro _ rfl;rintro _ rfl;rintro _ rfl;refine zr rfl fun K hK=> ?_
    go_simp;refine (UA o x q w' HO.z HX.z).mono ?_;rintro e w3 ⟨rfl,hg⟩;exact hK _ _ rfl rfl hg
   refine mP0 (.slice (some ⟨g,of,none⟩) n c) ?_;refine mP0 (.slice (some ⟨g,of,none⟩) n c) ?_;refine zm.step (Pv.eq (.int .i64 (n:Int))) [(5,19)] (by kernel_rfl) (fun w' hw'=> ?_) ?_
   ·rintro _ rfl;refine zr rfl fun K hK=> ?_
    go_simp;exact hK _ _ rfl rfl gRf
   refine zm.step (Pv.eq (.int .i64 ((n:Int) - 1))) [(6,20)] (by kernel_rfl) (fun w' hw'=> ?_) ?_
   ·rintro _ rfl;refine zr rfl fun K hK=> ?_
    go_simp;exact hK _ _ rfl rfl gRf
   refine mP0 (.int .i64 (j:Int)) ?_;refine zm.step (Pv.eq (.int .i64 (r:Int))) [(7,21),(8,22)] (by kernel_rfl) (fun w' hw'=> ?_) ?_
   ·rintro _ rfl;rintro _ rfl;refine zr rfl fun K hK=> ?_
    go_simp;exact hK _ _ rfl rfl gRf
   refine zm.step (Pv.eq (.pointer (some ⟨g,of+r,none⟩))) [(4,18),(9,23)] (by kernel_rfl) (fun w' hw'=> ?_) ?_
   ·rintro _ rfl;rintro _ rfl;refine zr rfl fun K hK=> ?_
    go_simp;exact hK _ _ rfl rfl gRf
   refine zm.step (Pv.eq (.int .u64 y)) [(10,24)] (by kernel_rfl) (fun w' hw'=> ?_) ?_
   ·rintro _ rfl;refine zr rfl fun K hK=> ?_
    have hc:=HC.z w' hw';go_simp;exact hK _ _ rfl rfl gRf
   refine mP0 (.int .u64 q) ?_;refine zm.step (Pv.eq (.int .u64 (xn (zR o x q) y q))) [(3,17),(11,25),(12,26)] (by kernel_rfl) (fun w' hw'=> ?_) ?_
   ·rintro _ rfl;rintro _ rfl;rintro _ rfl;refine zr rfl fun K hK=> ?_
    go_simp;refine (Mj (zR o x q) y q w' (yw _ _ _) HY.z).mono ?_;rintro e w3 ⟨rfl,hg⟩;exact hK _ _ rfl rfl hg
   refine zm.step (Pv.eq (.int .u64 (xn (zR o x q) y q))) [(13,27)] (by kernel_rfl) (fun w' hw'=> ?_) ?_
   ·rintro _ rfl;refine zr rfl fun K hK=> ?_
    go_simp;exact hK _ _ rfl rfl gRf
   intro w3 hw3
   iterate 14 (intro _ _)
   rintro _ rfl;have HE:Hid (w.grownBy w3 none∧U64 (xn (zR o x q) y q)∧xn (zR o x q) y q=YA q x (l.reverse.take (j+1)) 0):=za ⟨HGd.z.trans hw3,XT _ _ _,HSN.z⟩;clear hw3 e4 e5;refine wpList_nil ?_;simp only [Act.put,sAa,sAb,sAc];go_wp2_with fail;go_roundg m
   case measure=>omega
   case rel=>exact ⟨j+1,_,by omega,by go_num,rfl,HE⟩
theorem Nh(v:Value)(l:List (List Int))(X:Nat→Prop)(w:World)(h:Sl (zh ze) X w v l)(hb2: ∀c∈l,c.length≤100000):
  Calls prog 154 #[v] w fun e w'=>e= .returned (.int .i64 (yH l:Nat))∧w'=w:=by
 have H:=za h;have HB2:=za hb2;obtain ⟨A,c,rfl,hc1,hc2⟩:=h.form;have HN0:Hid (0=yH (l.take 0)):=za rfl;clear h hb2;go_enter func154,ntmps154;go_wp2_with fail;go_loopg [3,8] l.length (fun g s3 s8 wx=> ∃j n:Nat,j+g=l.length∧s8= .int .i64 j∧s3= .int .i64 n∧Hid (n=yH (l.take j))∧Hid (wx=w))
 case atStart=>exact ⟨0,0,by omega,rfl,rfl,HN0,za rfl⟩
 case round=>
  obtain ⟨j,n,hj,rfl,rfl,HN,HX⟩:=hrel;obtain rfl:wr=w:=HX.z;cases gk with
  |zero=>
   obtain rfl:j=l.length:=by omega
   have HNW:Hid (n=yH l):=za (by have:=HN.z;rwa [List.take_length] at this);clear HX HN;go_wp2;go_ret;exact ⟨Ec (by rw [HNW.z]),rfl⟩
  |succ m=>
   have hjn:(j:Int)< (l.length:Int):=by omega
   have hjN:j< l.length:=by omega
   obtain ⟨g,o,c',u,e,_,_,hcu,hsu⟩:=H.out.atS hjN;injection e with e1 e2 e3
   subst e1 e3;obtain ⟨A1,c1,e1,_,_⟩:=hsu.form;subst e1;have HSN:Hid (yH (l.take (j+1))=max n l[j].length):=za (by rw [Qf l j hjN,HN.z]);have hnb:n≤100000:=by rw [HN.z];exact Va _ _ (fun c hc=>HB2.z c (mMt hc))
   have hlb:l[j].length≤100000:=HB2.z _ (lGm hjN);clear hsu e2 HN;generalize l[j].length=n1 at *;go_wp2_with fail
   all_goals
    go_roundg m
    case measure=>omega
    case rel=>exact ⟨j+1,max n n1,by omega,by go_num,by congr 1;omega,za HSN.z.symm,za rfl⟩
end
section
open Go.RowKit
theorem YP(p:Par)(l:List (List Int)):(yj p l).length=yH l:=by simp [yj]
theorem Rj(p:Par)(l:List (List Int))(x:Int):(zC p l x).length=l.length:=by simp [zC]
theorem Up(p:Par)(v:Value)(m:List (List (List Int)))(x:Int)(X:Nat→Prop)(w:World)(h:Sl (zh (zh ze)) X w v m)(hx:U64 x)(hb:m.length≤100000)(r0: ∀l∈m,l.length≤100000∧ ∀c∈l,c.length≤100000):
  Calls prog 163 #[p.v,v, .int .u64 x] w (zN (zh ze) (fun g=>w.heap.size≤g) w (zD p m x)):=by
 have H:=za h;have HI:=za hx;have b0:=za r0;obtain ⟨A,c,rfl,S0,R0⟩:=h.form;have k0:Hid (Acc (zh ze) w.heap.size 31 (fun g=>w.heap.size≤g) (w.alloc (Obj.cells p.cells 39)) (.slice none 0 0) ((m.take 0).map fun l=>zC p (yj p l) x)∧w.grownBy (w.alloc (Obj.cells p.cells 39)) none∧Bk (w.alloc (Obj.cells p.cells 39)) w.heap.size 39 p.cells):=za ⟨Acc.nil _ _ _ _ _,gAl w _ none,Bk.new w _ _⟩;clear h hx r0;go_enter func163,ntmps163;go_wp2_with fail;go_loopg [7,12] m.length (fun g s7 s12 wx=> ∃j:Nat,j+g=m.length∧s12= .int .i64 j∧Hid (Acc (zh ze) w.heap.size 31 (fun g=>w.heap.size≤g) wx s7 ((m.take j).map fun l=>zC p (yj p l) x)∧w.grownBy wx none∧Bk wx w.heap.size 39 p.cells))
 case atStart=>exact ⟨0,by omega,rfl,k0⟩
 case round=>
  obtain ⟨j,hj,rfl,HX⟩:=hrel;cases gk with
  |zero=>
   obtain rfl:j=m.length:=by omega
   have HR:Hid (Sl (zh ze) (fun g=>w.heap.size≤g) wr u7 (zD p m x)∧w.grownBy wr none):=za ⟨by have:=HX.z.1.sl;rwa [List.take_length] at this,HX.z.2.1⟩;clear HX k0;go_wp2;go_ret;exact ⟨_,rfl,HR.z.1,HR.z.2⟩
  |succ n=>
   have Q0:(j:Int)< (m.length:Int):=by omega
   have j0:j< m.length:=by omega
   obtain ⟨d0,hg,f0⟩:=HX.z;obtain ⟨g,o,c',u,e,_,_,C0,i0⟩:=(H.out.kept hg).atS j0;injection e with e1 e2 e3
   subst e1 e3;obtain ⟨A1,c1,e1,_,_⟩:=i0.form;subst e1;have t0:=za (yD (fun l=>zC p (yj p l) x) m j j0);obtain ⟨p0,g0⟩:=b0.z m[j] (lGm j0);have HT:=za (fun (w':World) (hw:wr.grownBy w' none)=>Mq p _ m[j] X w' (i0.kept hw) p0 g0);have s0:=za (Va m[j] 100000 g0);have HF:=za (fun (v:Value) (Y:Nat→Prop) (w':World) (hv:Sl (zh ze) Y w' v (yj p m[j]))=>Xt p v _ x Y w' hv HI.z (by rw [YP];exact s0.z));have u0:Hid ((zC p (yj p m[j]) x).length=yH m[j]):=za (by rw [Rj,YP]);have J0:Hid (Acc (zh ze) w.heap.size 31 (fun g=>w.heap.size≤g) wr.drew u7 ((m.take j).map fun l=>zC p (yj p l) x)):=za (d0.kept (zf (gRr wr none) 1));have HG:Hid (w.grownBy wr.drew none):=za (zf hg 1);have G0:Hid (wr.grownBy wr.drew none):=za (zf (gRr wr none) 1);have I0:Hid (Bk wr.drew w.heap.size 39 p.cells):=za (f0.drewN 1);have hp:=f0.prule;have N0:=f0.lt;have F0:Hid ((((m.take j).map fun l=>zC p (yj p l) x).length+1)*24≤140737488355328):=za (by simp;omega);clear d0 hg f0 i0 e2 HX k0 p0 g0;generalize hy:m[j]=z at t0 HF C0 u0 HT s0;clear hy;generalize z.length=n1 at *;go_wp2_with fail;go_region_held3 (fun w'=> ∀o,w'.cell? ⟨w.heap.size,o,none⟩=(#[.int .u64 p.P, .int .u64 p.Q, .int .u64 p.G, .int .u64 p.H, .int .i64 p.Nodes, .int .i64 p.N, .int .i64 p.T, .int .i64 p.K, .int .i64 p.D, .int .i64 p.R, .int .i64 p.M, .int .i64 p.X]:Array Value)[o]?) (first|assumption|exact xh (by assumption) (by assumption) _|go_keep) (first
    |(go_at_call 204;(with_reducible refine (HT.z _ G0.z).mono ?_);rintro e' w1 ⟨v1,rfl,hs1,hg1⟩;have D0:=za hs1;have y0:=za (HG.z.trans hg1);have B0:=za (J0.z.kept hg1);have o0:=za (I0.z.grown hg1 (by simp));have M0:=o0.z.prule;have P0:=o0.z.lt;clear hs1 hg1)
    |(go_at_call 41;(with_reducible refine (HF.z _ _ _ D0.z).mono ?_);rintro e' w2 ⟨v2,rfl,hs2,hg2⟩;obtain ⟨A2,c2,e2,_,_⟩:=hs2.form;rw [u0.z] at e2;subst e2;have H0:=za (y0.z.trans hg2);have A0:=za (B0.z.kept hg2);have b0:=za (o0.z.grown hg2 (by simp));have L0:=b0.z.prule;have O0:=b0.z.lt;have l0:Hid (Enc.rep (zh ze) (fun g=>w.heap.size≤g∧some g≠u7.ownBlock) w2 [.slice A2 (yH z) c2] (zC p (yj p z) x)):=za ⟨_,rfl,hs2.fresh y0.z B0.z⟩;clear hs2 hg2)
    |(refine Mx rfl (.tmp 16) (.tmp 23) rfl (E:=zh ze) (y:=zC p (yj p z) x) Zo H0.z A0.z (fun _ h=>h) l0.z F0.z rfl rfl ?_;intro v3 w3 a0 q0 c0;have z0:=za a0;have v0:=za q0;have n0:=za (b0.z.grown c0 (fun e=>A0.z.ne_bk b0.z (by decide) e.symm));have K0:=n0.z.prule;clear a0 q0 c0))
   have m0:Hid (Acc (zh ze) w.heap.size 31 (fun g=>w.heap.size≤g) w3 v3 ((m.take (j+1)).map fun l=>zC p (yj p l) x)∧w.grownBy w3 none∧Bk w3 w.heap.size 39 p.cells):=za ⟨by rw [t0.z];simpa using z0.z,v0.z,n0.z⟩;clear z0 v0 n0;go_wp2_with fail;go_roundg n
   case measure=>omega
   case rel=>exact ⟨j+1,by omega,by go_num,m0⟩
theorem Tt(v1 v2:Value)(xs ys:List Int)(X Y:Nat→Prop)(w:World)(h1:Sl ze X w v1 xs)(h2:Sl ze Y w v2 ys):
  Calls prog 96 #[v1,v2] w fun e w'=>e= .returned (.bool (decide (xs=ys)))∧w.grownBy w' none:=by
 have H1:=za h1;have H2:=za h2;obtain ⟨A1,c1,rfl,k0,s0⟩:=h1.form;obtain ⟨A2,c2,rfl,r0,q0⟩:=h2.form;clear h1 h2;by_cases hl:xs.length=ys.length
 ·have i0:=za hl;have c0:Hid ((∃n,w=w.drewN n)∧xs.take 0=ys.take 0):=za ⟨⟨0,rfl⟩,rfl⟩;rw [hl] at H1 k0 ⊢;clear hl;go_enter func96,ntmps96;go_wp2_with fail;go_loopg [13] ys.length (fun g s13 wx=> ∃j:Nat,j+g=ys.length∧s13= .int .i64 j∧Hid ((∃n,wx=w.drewN n)∧xs.take j=ys.take j))
  case atStart=>exact ⟨0,by omega,rfl,c0⟩
  case round=>
   obtain ⟨j,hj,rfl,HX⟩:=hrel;obtain ⟨⟨n0,rfl⟩,b0⟩:=HX.z;cases gk with
   |zero=>
    obtain rfl:j=ys.length:=by omega
    have HE:Hid (decide (xs=ys)=true):=za (by
     rw [List.take_length, ←i0.z,List.take_length] at b0;simpa using b0)
    clear HX c0 b0;go_wp2;go_ret;exact ⟨zn HE.z.symm,zb w _⟩
   |succ m=>
    have o0:(j:Int)< (ys.length:Int):=by omega
    have p0:(0:Int)≤(j:Int):=by omega
    have d0:j< ys.length:=by omega
    have j0:j< xs.length:=by rw [i0.z];exact d0
    obtain ⟨g1,o1,c1',e1,_,_,a1,u1⟩:=(i0.z ▸ H1.z:Sl ze X w (.slice A1 xs.length c1) xs).atU j0;injection e1 with e11 e12 e13
    subst e11 e13;obtain ⟨g2,o2,c2',e2,_,_,a2,_⟩:=H2.z.atU d0;injection e2 with e21 e22 e23
    subst e21 e23;have g0:=za (tSg j0);have f0:=za (tSg d0);have l0:=za b0;by_cases a0:xs[j]=ys[j]
    ·have m0:Hid (xs.take (j+1)=ys.take (j+1)):=za (by rw [g0.z,f0.z,a0,l0.z]);rw [a0] at a1;clear HX c0 e12 e22 b0 a0 g0 f0;generalize ys[j]=y at *;go_wp2_with fail;go_quiet (fail);go_wp2_with fail;go_roundg m
     case measure=>omega
     case rel=>exact ⟨j+1,by omega,by go_num,za ⟨⟨_,rfl⟩,m0.z⟩⟩
    ·have HE:Hid (decide (xs=ys)=false):=za (by simp only [decide_eq_false_iff_not];intro e;apply a0;subst e;rfl);have hd:(xs[j] !=ys[j])=true:=by simpa using a0
     clear HX c0 e12 e22 b0 a0 g0 f0;generalize ys[j]=y at *;generalize xs[j]=x at *;go_wp2_with fail;go_quiet (fail);go_wp2;go_ret;exact ⟨zn HE.z.symm,(zb w _).trans (zb _ _)⟩
 ·have hd:((xs.length:Int) !=(ys.length:Int))=true:=by simp;omega
  have HE:Hid (decide (xs=ys)=false):=za (by simp only [decide_eq_false_iff_not];intro e;exact hl (by rw [e]));clear hl;go_enter func96,ntmps96;go_wp2;go_ret;exact ⟨zn HE.z.symm,gRr w none⟩
theorem OV(p:Par)(x:Int×Int):U64 (zj p x):=xf _ _
def Xa(p:Par)(coms:List (List Int))(i:Int)(l:List (Int×Int)):Bool:=decide (l.map (zj p)=zC p coms i)
theorem Gz(p:Par)(v1:Value)(a0:List (List Int))(i:Int)(v2:Value)(l:List (Int×Int))(X Y:Nat→Prop)(w:World)(hp:p.ok)(h1:Sl (zh ze) X w v1 a0)(hi:U64 i)(h2:Sl zq Y w v2 l)(hb:a0.length≤100000)(I0:l.length≤100000):
  Calls prog 43 #[p.v,v1, .int .u64 i,v2] w fun e w'=>e= .returned (.bool (Xa p a0 i l))∧w.grownBy w' none:=by
 have HP:=za hp;have u0:=za (fun (w':World) (hw:w.grownBy w' none)=>Xt p v1 a0 i X w' (h1.kept hw) hi hb);have H:=za h2;obtain ⟨A,c,rfl,H0,G0⟩:=h2.form;have n0:Hid (Acc ze w.heap.size 22 (fun g=>w.heap.size≤g) (w.alloc (Obj.cells p.cells 39)) (.slice none 0 0) ((l.take 0).map (zj p))∧w.grownBy (w.alloc (Obj.cells p.cells 39)) none∧Bk (w.alloc (Obj.cells p.cells 39)) w.heap.size 39 p.cells):=za ⟨Acc.nil _ _ _ _ _,gAl w _ none,Bk.new w _ _⟩;clear h1 h2 hi hp hb;go_enter func43,ntmps43;go_wp2_with fail;go_loopg [9,14] l.length (fun g s9 s14 wx=> ∃j:Nat,j+g=l.length∧s14= .int .i64 j∧Hid (Acc ze w.heap.size 22 (fun g=>w.heap.size≤g) wx s9 ((l.take j).map (zj p))∧w.grownBy wx none∧Bk wx w.heap.size 39 p.cells))
 case atStart=>exact ⟨0,by omega,rfl,n0⟩
 case round=>
  obtain ⟨j,hj,rfl,HX⟩:=hrel;cases gk with
  |zero=>
   obtain rfl:j=l.length:=by omega
   have v0:Hid (Sl ze (fun g=>w.heap.size≤g) wr u9 (l.map (zj p))):=za (by have:=HX.z.1.sl;rwa [List.take_length] at this);have HG:=za HX.z.2.1;have hp:=HX.z.2.2.prule;clear HX n0;go_wp2_with fail;refine (u0.z _ HG.z).mono ?_;rintro e' w1 ⟨u1,rfl,hs1,hg1⟩;have z0:=za (Tt u9 u1 _ _ _ _ w1 (v0.z.kept hg1) hs1);have f0:=za (HG.z.trans hg1);clear hs1 hg1 hp;go_wp2_with fail;refine z0.z.mono ?_;rintro e' w2 ⟨rfl,c0⟩;have o0:=za (f0.z.trans c0);clear c0;go_wp2;go_ret;exact ⟨rfl,o0.z⟩
  |succ m=>
   have D0:(j:Int)< (l.length:Int):=by omega
   have q0:j< l.length:=by omega
   obtain ⟨d0,hg,i0⟩:=HX.z;obtain ⟨g,o,c',e,F0,_,m0,l0,k0,j0⟩:=(H.out.kept hg).atP q0;injection e with e1 e2 e3
   subst e1 e3;have s0:=za (yD (zj p) l j q0);have HU:=za (OV p l[j]);have HF:=za (fun (w':World)=>ZS p l[j] w' HP.z k0 j0);generalize hy:l[j]=y at s0 HU HF m0 l0 k0 j0;clear hy;have f0:Hid (wr.grownBy (wr.alloc (Obj.cells #[.int .u64 y.1, .int .u64 y.2] 153)) none):=za (gAl wr _ none);have B0:=za (d0.kept f0.z);have HG:=za (hg.trans f0.z);have A0:=za (i0.grown f0.z (by simp));have hp:=i0.prule;have C0:=i0.lt;have y0:Hid ((((l.take j).map (zj p)).length+1)*8≤140737488355328):=za (by simp;omega);clear d0 hg i0 e2 HX n0 k0 j0;go_wp2_with fail;refine (HF.z _).mono ?_;rintro e' w1 ⟨rfl,hg1⟩;have o0:=za (HG.z.trans hg1);have t0:=za (B0.z.kept hg1);have g0:=za (A0.z.grown hg1 (by simp));clear hg1 hp;go_wp2_with (at_builtin;refine zF rfl (.tmp 18) (.tmp 22) rfl (E:=ze) xD o0.z t0.z (fun _ h=>h) ⟨rfl,HU.z⟩ y0.z rfl rfl ?_);intro v2 w2 b0 c0 r0;have p0:Hid (Acc ze w.heap.size 22 (fun g=>w.heap.size≤g) w2 v2 ((l.take (j+1)).map (zj p))∧w.grownBy w2 none∧Bk w2 w.heap.size 39 p.cells):=za ⟨by rw [s0.z];simpa using b0,c0,g0.z.grown r0 (fun e=>t0.z.ne_bk g0.z (by decide) e.symm)⟩;clear b0 c0 r0;go_wp2_with fail;go_roundg m
   case measure=>omega
   case rel=>exact ⟨j+1,by omega,by go_num,p0⟩
end
end Go.Proofs.YtkdfjkdphdfclaaGreatDoor
