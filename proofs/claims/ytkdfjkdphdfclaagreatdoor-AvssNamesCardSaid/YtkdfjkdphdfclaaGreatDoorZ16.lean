/- Proves for the statement AvssNamesCardSaid, under no other condition than the statement's own, that the card avssNames holds of the program. Part 16. -/
import Derived.Test.YtkdfjkdphdfclaaGreatDoorZ15
set_option maxRecDepth 100000
set_option maxHeartbeats 16000000
set_option linter.unusedVariables false
set_option linter.unusedSimpArgs false
namespace Go.Proofs.YtkdfjkdphdfclaaGreatDoor
section
open Go Go.RowKit Go.Shelf Go.Maps
def UK:Nat→Option Code→Code
 |0,some c=>c
 |n+1,some (.seq _ b)=>UK n (some b)
 |_,_=> .skip
abbrev NQ(w:World):Exit→Act→World→Prop:=bodyPost Tryz.prog Tryz.f6 fun e w'=>e= .returned (.bool true)∧w.grownBy w' none
theorem Acc.setU{base:Nat}{e:TypeId}{X:Nat→Prop}{W:World}{v:Value}{xs:List Int}(h:Acc ze base e X W v xs)(k:Nat)(hk:k< xs.length):
  ∃g c cur,v= .slice (some ⟨g,0,none⟩) xs.length c∧base≤g∧xs.length≤c∧Bk W g e cur∧k< cur.size∧W.cell? ⟨g,k,none⟩=some (.int .u64 xs[k])∧ ∀y,U64 y→Sl ze X (W.setCell ⟨g,k,none⟩ (.int .u64 y)) v (xs.set k y):=by
 obtain ⟨hX,css,r1,r2,r3⟩:=id h;have hsl:=h.sl;rcases r3.2 with ⟨rfl,h0⟩|⟨g,cap,cur,rfl,hb,hh,hnc,hcm,hcs,htake⟩
 ·omega
 ·have hsz:cur.size=cap:=by rw [hcs];exact Nat.mul_one _
  have hbk:Bk W g e cur:=hh;obtain ⟨A,c,e1,l1,l2,l3⟩:=hsl;injection e1 with e1 e2 e3
  subst e1 e3;obtain ⟨g',o',eA,hgl,hXg,hc⟩:=l3 (by intro e;rw [e] at hk;simp at hk);injection eA with eA
  injection eA with eg eo
  subst eg eo;have key: ∀i (hi:i< xs.length),W.cell? ⟨g,i,none⟩=some (.int .u64 xs[i])∧U64 xs[i]:=fun i hi=>by
   obtain ⟨cs,⟨rfl,hu⟩,hcell⟩:=hc i hi
   have:=hcell 0 _ rfl
   exact ⟨by simpa [ze] using this,hu⟩
  refine ⟨g,cap,cur,rfl,hb,hnc,hbk,by omega,(key k hk).1,fun y hy=>⟨_,_,by rw [List.length_set],by rw [List.length_set];exact l1,l2,fun _=>⟨g,0,rfl,by simpa using hgl,hXg,fun i hi=> ?_⟩⟩⟩;rw [List.length_set] at hi;refine ⟨[.int .u64 ((xs.set k y)[i]'(by rw [List.length_set];exact hi))],⟨rfl, ?_⟩,fun j u hu=> ?_⟩
  ·rw [List.getElem_set];split
   ·exact hy
   ·exact (key i hi).2
  ·have hj:j=0:=by
    rcases Nat.eq_zero_or_pos j with h|h
    ·exact h
    ·rw [List.getElem?_eq_none (by simp;omega)] at hu;cases hu
   subst hj;simp only [List.getElem?_cons_zero,Option.some.injEq] at hu;subst hu;rw [show 0+i*ze.size+0=i by rw [show ze.size=1 from rfl];omega,(hbk.set k _).cell,Array.getElem?_setIfInBounds,List.getElem_set];by_cases hki:k=i
   ·subst hki;simp;omega
   ·rw [if_neg hki,if_neg hki, ←hbk.cell];exact (key i hi).1
theorem KF:yp.set 23 10=xA:=by decide+kernel
theorem MD(h:23< yp.length):yp[23]=9:=by
 have:yp[23]? =some 9:=by decide+kernel
 rw [List.getElem?_eq_getElem h] at this;injection this
def s0N:SSt:=xL (EW 0) ASt.start
theorem Dn:s0N.echos= []:=by decide+kernel
theorem Dm:s0N.readies= []:=by decide+kernel
theorem FN:s0N.dealer=2∧s0N.me=1∧s0N.done=false:=by decide+kernel
structure NmR (w:World) (gp B:Nat) (vd vc:Value) (gA gM nn:Nat) (b21:Nat) (a1 a2 a3 a4 a5 v18 v19 v20:Value) (W:World):Prop where
 n:NmW w gp B vd vc gA gM nn ASt.start W
 s18:Sl ze (Off gA gM) W v18 yp
 s19:Sl ze (Off gA gM) W v19 xr
 s20:Sl ze (Off gA gM) W v20 xA
 o21:Off gA gM b21
 b21:Bk W b21 78 #[.int .i64 2, .int .i64 1,a1,a2,a3,a4,a5, .bool false]
 was:xT (Off gA gM) W (.agg #[.int .i64 2, .int .i64 1,a1,a2,a3,a4,a5, .bool false]) s0N
section
variable {w W W':World} {gp B:Nat} {vd vc:Value} {gA gM nn b21:Nat} {a1 a2 a3 a4 a5 v18 v19 v20:Value}
theorem NmR.kept(h:NmR w gp B vd vc gA gM nn b21 a1 a2 a3 a4 a5 v18 v19 v20 W)(hg:W.grownBy W' none):NmR w gp B vd vc gA gM nn b21 a1 a2 a3 a4 a5 v18 v19 v20 W':=⟨h.n.kept hg,h.s18.kept hg,h.s19.kept hg,h.s20.kept hg,h.o21,h.b21.grown hg (by simp),h.was.kept hg⟩
theorem NmR.refuse(h:NmR w gp B vd vc gA gM nn b21 a1 a2 a3 a4 a5 v18 v19 v20 W)(hn:nn+3< maxLen){kind i:Int}(hk8:U8 kind)(hi:I64 i){v:Value}{l:List Int}{Y:Nat→Prop}(hl:Sl ze Y W v l)(hll:l.length≤100000)(hr:zx (EW 0) ASt.start kind i l=(ASt.start, [])):
  Calls Tryz.prog 21 #[.pointer (some ⟨gA,0,none⟩), .int .u8 kind, .int .i64 i,v] W fun e W'=> ∃A c,e= .returned (.slice A 0 c)∧NmR w gp B vd vc gA gM (nn+3) b21 a1 a2 a3 a4 a5 v18 v19 v20 W'∧zj gA gM W W':=by
 refine (h.n.take hn hk8 hi hl hll hr).mono ?_;rintro e W' ⟨v',rfl,z1,z2,z3⟩;obtain ⟨A,c,e1,_,_⟩:=z1.form;have e1:v'= .slice A 0 c:=e1;subst e1;exact ⟨A,c,rfl,⟨z2,h.s18.off2 z3,h.s19.off2 z3,h.s20.off2 z3,h.o21,h.b21.keep2 z3 h.o21.1 h.o21.2,h.was.off2 z3⟩,z3⟩
end
def RH(a b c d y:Value):Array Value:= #[.int .u8 7, .int .i64 1,a, .int .u8 7, .int .i64 0,b, .int .u8 7, .int .i64 0,c, .int .u8 7, .int .i64 0, .slice none 0 0, .int .u8 7, .int .i64 0,y, .int .u8 8, .int .i64 0,d, .int .u8 8, .int .i64 5,d, .int .u8 8, .int .i64 (-3),d, .int .u8 8, .int .i64 2,d, .int .u8 8, .int .i64 3,a, .int .u8 8, .int .i64 3, .slice none 0 0, .int .u8 10, .int .i64 3,d, .int .u8 11, .int .i64 0,a, .int .u8 0, .int .i64 3,d]
def DO(N:Nat):Pv:=⟨fun v w=> ∃y,v= .agg #[.int .u8 7, .int .i64 0,y]∧Sl ze (fun g=>N≤g) w y (nD 2),fun ⟨y,e,h⟩ hg=>⟨y,e,h.kept hg⟩⟩
def DM(N:Nat)(a b c d:Value):Pv:=⟨fun v w=> ∃g y,v= .slice (some ⟨g,0,none⟩) 14 14∧N≤g∧Sl ze (fun g=>N≤g) w y (nD 2)∧Bk w g 92 (RH a b c d y),fun ⟨g,y,e,h1,h2,h3⟩ hg=>⟨g,y,e,h1,h2.kept hg,h3.grown hg (by simp)⟩⟩
theorem DU:(nD 2).length=24:=by decide+kernel
theorem JW:(yp.drop 1).length=23:=by decide+kernel
theorem yw{W:World}{b:Nat}{t:TypeId}{a:Array Value}{j:Nat}{x0 x1 x2:Value}(hb:Bk W b t a)(e:(a.toList.drop (3*j)).take 3= [x0,x1,x2]):W.cell? ⟨b,3*j,none⟩=some x0∧W.cell? ⟨b,3*j+1,none⟩=some x1∧W.cell? ⟨b,3*j+2,none⟩=some x2:=by
 have key: ∀k u,k< 3→([x0,x1,x2]:List Value)[k]? =some u→W.cell? ⟨b,3*j+k,none⟩=some u:=fun k u hk hu=>by
  rw [←e,List.getElem?_take,if_pos hk,List.getElem?_drop] at hu;rw [hb.cell, ←Array.getElem?_toList];exact hu
 exact ⟨key 0 _ (by decide) rfl,key 1 _ (by decide) rfl,key 2 _ (by decide) rfl⟩
theorem Ho{W:World}{X:Nat→Prop}{b:Nat}{a b' c d y:Value}(hb:Bk W b 92 (RH a b' c d y))(ha:Sl ze X W a yp)(hb':Sl ze X W b' xA)(hc:Sl ze X W c (yp.drop 1))(hd:Sl ze X W d xr)(hy:Sl ze X W y (nD 2))(j:Nat)(hj:j< 14):
  ∃kind i v l,U8 kind∧I64 i∧Sl ze X W v l∧l.length≤100000∧zx (EW 0) ASt.start kind i l=(ASt.start, [])∧W.cell? ⟨b,3*j,none⟩=some (.int .u8 kind)∧W.cell? ⟨b,3*j+1,none⟩=some (.int .i64 i)∧W.cell? ⟨b,3*j+2,none⟩=some v:=by
 have l1:yp.length≤100000:=by rw [Zm];decide
 have l2:xA.length≤100000:=by rw [Gc];decide
 have l3:(yp.drop 1).length≤100000:=by rw [JW];decide
 have l4:xr.length≤100000:=by rw [Lu];decide
 have l5:(nD 2).length≤100000:=by rw [DU];decide
 have u: ∀n:Int,0≤n→n< 256→U8 n:=fun n h1 h2=>⟨h1,h2⟩
 have hcase:j=0∨j=1∨j=2∨j=3∨j=4∨j=5∨j=6∨j=7∨j=8∨j=9∨j=10∨j=11∨j=12∨j=13:=by omega
 rcases hcase with rfl|rfl|rfl|rfl|rfl|rfl|rfl|rfl|rfl|rfl|rfl|rfl|rfl|rfl
 ·exact ⟨7,1,a,_,u _ (by decide) (by decide),⟨by decide,by decide⟩,ha,l1,rf0,yw hb rfl⟩
 ·exact ⟨7,0,b',_,u _ (by decide) (by decide),⟨by decide,by decide⟩,hb',l2,rf1,yw hb rfl⟩
 ·exact ⟨7,0,c,_,u _ (by decide) (by decide),⟨by decide,by decide⟩,hc,l3,rf2,yw hb rfl⟩
 ·exact ⟨7,0, .slice none 0 0,_,u _ (by decide) (by decide),⟨by decide,by decide⟩,Sl.nil _ _ _,(by decide),rf3,yw hb rfl⟩
 ·exact ⟨7,0,y,_,u _ (by decide) (by decide),⟨by decide,by decide⟩,hy,l5,rf4,yw hb rfl⟩
 ·exact ⟨8,0,d,_,u _ (by decide) (by decide),⟨by decide,by decide⟩,hd,l4,rf5,yw hb rfl⟩
 ·exact ⟨8,5,d,_,u _ (by decide) (by decide),⟨by decide,by decide⟩,hd,l4,rf6,yw hb rfl⟩
 ·exact ⟨8,(-3),d,_,u _ (by decide) (by decide),⟨by decide,by decide⟩,hd,l4,rf7,yw hb rfl⟩
 ·exact ⟨8,2,d,_,u _ (by decide) (by decide),⟨by decide,by decide⟩,hd,l4,rf8,yw hb rfl⟩
 ·exact ⟨8,3,a,_,u _ (by decide) (by decide),⟨by decide,by decide⟩,ha,l1,rf9,yw hb rfl⟩
 ·exact ⟨8,3, .slice none 0 0,_,u _ (by decide) (by decide),⟨by decide,by decide⟩,Sl.nil _ _ _,(by decide),DL,yw hb rfl⟩
 ·exact ⟨10,3,d,_,u _ (by decide) (by decide),⟨by decide,by decide⟩,hd,l4,DK,yw hb rfl⟩
 ·exact ⟨11,0,a,_,u _ (by decide) (by decide),⟨by decide,by decide⟩,ha,l1,DJ,yw hb rfl⟩
 ·exact ⟨0,3,d,_,u _ (by decide) (by decide),⟨by decide,by decide⟩,hd,l4,DI,yw hb rfl⟩
structure NmL (w:World) (gp B:Nat) (vd vc:Value) (gA gM nn b21:Nat) (a1 a2 a3 a4 a5 v18 v19 v20 v18':Value) (b14:Nat) (y14:Value) (W:World):Prop where
 r:NmR w gp B vd vc gA gM nn b21 a1 a2 a3 a4 a5 v18 v19 v20 W
 o:Off gA gM b14
 b:Bk W b14 92 (RH v18 v20 v18' v19 y14)
 d:Sl ze (Off gA gM) W v18' (yp.drop 1)
 y:Sl ze (Off gA gM) W y14 (nD 2)
structure NmP (gA gM b21 b14:Nat) (a1 a2 a3 a4 a5:Value) (P:Nat→World→Prop):Prop where
 kept: ∀n w w',P n w→w.grownBy w' none→P n w'
 row: ∀n W j,P n W→n≤100→j< 14→ ∃kind i A m c,W.cell? ⟨b14,3*j,none⟩=some (.int .u8 kind)∧W.cell? ⟨b14,3*j+1,none⟩=some (.int .i64 i)∧W.cell? ⟨b14,3*j+2,none⟩=some (.slice A m c)∧
  ∀W',W.grownBy W' none→Calls Tryz.prog 21 #[.pointer (some ⟨gA,0,none⟩), .int .u8 kind, .int .i64 i, .slice A m c] W' fun e w'=> ∃A' c',e= .returned (.slice A' 0 c')∧P (n+3) w'∧zj gA gM W' w'
 state: ∀n W,P n W→Calls Tryz.prog 30 #[.pointer (some ⟨gA,0,none⟩)] W fun e W'=> ∃v,e= .returned v∧xT (Off gA gM) W' v s0N∧W.grownBy W' none
 given: ∀n W v,P n W→xT (Off gA gM) W v s0N→Calls Tryz.prog 29 #[v] W fun e W'=> ∃v',e= .returned v'∧xT (Off gA gM) W' v' s0N∧W.grownBy W' none
 was: ∀n W,P n W→(∀o,W.cell? ⟨b21,o,none⟩=(#[.int .i64 2, .int .i64 1,a1,a2,a3,a4,a5, .bool false]:Array Value)[o]?)∧xT (Off gA gM) W (.agg #[.int .i64 2, .int .i64 1,a1,a2,a3,a4,a5, .bool false]) s0N
 off: ∀n W g,P n W→W.heap.size≤g→Off gA gM g
theorem NmP.new(w:World)(gp B:Nat)(vd vc:Value)(gA gM b21:Nat)(a1 a2 a3 a4 a5 v18 v19 v20 v18':Value)(b14:Nat)(y14:Value):NmP gA gM b21 b14 a1 a2 a3 a4 a5 (fun nn W=>NmL w gp B vd vc gA gM nn b21 a1 a2 a3 a4 a5 v18 v19 v20 v18' b14 y14 W) where
 kept:=fun n w w' h hg=>⟨h.r.kept hg,h.o,h.b.grown hg (by simp),h.d.kept hg,h.y.kept hg⟩
 row:=fun n W j h hn hj=>by
  obtain ⟨kind,i,v,l,h1,h2,h3,h4,h5,h6,h7,h8⟩:=Ho h.b h.r.s18 h.r.s20 h.d h.r.s19 h.y j hj;obtain ⟨A,m,c,rfl⟩:=h3.shape;refine ⟨kind,i,A,m,c,h6,h7,h8,fun W' hW=> ?_⟩;refine ((h.r.kept hW).refuse (ym _ (by omega)) h1 h2 (h3.kept hW) h4 h5).mono ?_;rintro e w' ⟨A',c',rfl,k1,k2⟩;exact ⟨A',c',rfl,⟨k1,h.o,(h.b.grown hW (by simp)).keep2 k2 h.o.1 h.o.2,(h.d.kept hW).off2 k2,(h.y.kept hW).off2 k2⟩,k2⟩
 state:=fun n W h=>h.r.n.state
 given:=fun n W v h hs=>RY h.r.n hs (by rw [Dn];decide) (by rw [Dm];decide)
 was:=fun n W h=>⟨h.r.b21.rule,h.r.was⟩
 off:=fun n W g h hg=>h.r.n.off hg
def Hn(w0:World)(gA gM:Nat)(P:Nat→World→Prop)(hP: ∀n w w',P n w→w.grownBy w' none→P n w')(nn b:Nat)(t:TypeId)(cs:Array Value):Lt where
 C vs w:=Bk w b t cs∧((vs= []∧P nn w∧w0.grownBy w none)∨ ∃A c,vs= [.slice A 0 c]∧P (nn+3) w)
 R _ w w':=zj gA gM w w'
 g:=fun h hg=>⟨h.1.grown hg (by simp),h.2.imp (fun k=>⟨k.1,hP _ _ _ k.2.1 hg,k.2.2.trans hg⟩) fun ⟨A,c,e,k⟩=>⟨A,c,e,hP _ _ _ k hg⟩⟩
section
variable {w0:World} {gA gM:Nat} {P:Nat→World→Prop} {hP: ∀n w w',P n w→w.grownBy w' none→P n w'} {nn b:Nat} {t:TypeId} {cs:Array Value} {vs:List Value} {w:World}
theorem Vg(h:(Hn w0 gA gM P hP nn b t cs).C vs w): ∃n,P n w:=h.2.elim (fun k=>⟨_,k.2.1⟩) fun ⟨_,_,_,k⟩=>⟨_,k⟩
theorem MU(h:(Hn w0 gA gM P hP nn b t cs).C vs w){x:Value}(hx:vs[0]? =some x): ∃A c,x= .slice A 0 c:=by
 rcases h.2 with ⟨rfl,_⟩|⟨A,c,rfl,_⟩
 ·cases hx
 ·exact ⟨A,c,by injection hx with hx;exact hx.symm⟩
theorem JH(h:(Hn w0 gA gM P hP nn b t cs).C [] w):Bk w b t cs∧P nn w∧w0.grownBy w none:=⟨h.1,h.2.elim (fun k=>k.2) fun ⟨_,_,e,_⟩=>by cases e⟩
theorem JG(h:(Hn w0 gA gM P hP nn b t cs).C vs w)(hl:vs.length=1):P (nn+3) w:=h.2.elim (fun k=>by rw [k.1] at hl;cases hl) fun ⟨_,_,_,k⟩=>k
end
def nmS(w0:World)(gA gM:Nat)(P:Nat→World→Prop)(hP: ∀n w w',P n w→w.grownBy w' none→P n w')(nn b:Nat)(t:TypeId)(cs:Array Value):Qv (Hn w0 gA gM P hP nn b t cs):=⟨fun _ v w=>xT (Off gA gM) w v s0N,0,fun h hg=>h.kept hg,fun _ _ hr h=>h.off2 hr⟩
structure Nm4 (w:World) (gp B:Nat) (vd vc:Value) (gA gM nn:Nat) (st:ASt) (v18 v19 v20:Value) (W:World):Prop where
 n:NmW w gp B vd vc gA gM nn st W
 s18:Sl ze (Off gA gM) W v18 yp
 s19:Sl ze (Off gA gM) W v19 xr
 s20:Sl ze (Off gA gM) W v20 xA
section
variable {w W W':World} {gp B:Nat} {vd vc:Value} {gA gM nn:Nat} {st:ASt} {v18 v19 v20:Value}
theorem Nm4.kept(h:Nm4 w gp B vd vc gA gM nn st v18 v19 v20 W)(hg:W.grownBy W' none):Nm4 w gp B vd vc gA gM nn st v18 v19 v20 W':=⟨h.n.kept hg,h.s18.kept hg,h.s19.kept hg,h.s20.kept hg⟩
theorem Nm4.take(h:Nm4 w gp B vd vc gA gM nn st v18 v19 v20 W)(hn:nn+3< maxLen){kind i:Int}(hk8:U8 kind)(hi:I64 i){v:Value}{l:List Int}{Y:Nat→Prop}(hl:Sl ze Y W v l)(hll:l.length≤100000){r:ASt×List yL}(hr:zx (EW 0) st kind i l=r):
  Calls Tryz.prog 21 #[.pointer (some ⟨gA,0,none⟩), .int .u8 kind, .int .i64 i,v] W fun e W'=> ∃A c,e= .returned (.slice A r.2.length c)∧Nm4 w gp B vd vc gA gM (nn+3) r.1 v18 v19 v20 W':=by
 refine (h.n.take hn hk8 hi hl hll hr).mono ?_;rintro e W' ⟨v',rfl,z1,z2,z3⟩;obtain ⟨A,c,e1,_,_⟩:=z1.form;subst e1;exact ⟨A,c,rfl,z2,h.s18.off2 z3,h.s19.off2 z3,h.s20.off2 z3⟩
theorem Nm4.own(h:Nm4 w gp B vd vc gA gM nn st v18 v19 v20 W):Calls Tryz.prog 30 #[.pointer (some ⟨gA,0,none⟩)] W fun e W'=> ∃v,e= .returned v∧KA W.heap.size W' v (xL (EW 0) st)∧W.grownBy W' none:=NK (EW 0) st gA gM nn (Off gA gM) W (VT 0 (by decide)) h.n.av h.n.ok
end
theorem Hm:yp.length≤100000∧xr.length≤100000:=by decide+kernel
end
section
open Go Go.RowKit Go.Shelf Go.Maps
structure Nm5 (w:World) (gp B:Nat) (vd vc:Value) (b24 ge:Nat) (row:Array Value) (C D O v19 v20:Value) (W:World):Prop where
 f:AwF w gp B vd vc W
 lt:B≤b24∧B≤ge∧ge< b24
 b:Bk W b24 82 row
 s19:Sl ze (fun g=>g< b24∧g≠ge) W v19 xr
 s20:Sl ze (fun g=>g< b24∧g≠ge) W v20 xA
 sc:Sl (zh ze) (fun g=>g< b24∧g≠ge) W C CM5
 sd:Sl ze (fun g=>g< b24∧g≠ge) W D sN.deal
 so:Sl ze (fun g=>g< b24∧g≠ge) W O sN.own
theorem Nm5.keep{w W W':World}{gp B:Nat}{vd vc:Value}{b24 ge:Nat}{row:Array Value}{C D O v19 v20:Value}(h:Nm5 w gp B vd vc b24 ge row C D O v19 v20 W){r:Option Nat}(hg:W.grownBy W' r)(hr: ∀b,r=some b→b=ge∨b24< b):Nm5 w gp B vd vc b24 ge row C D O v19 v20 W':=by
 have hl:=h.lt;have hX: ∀g,(g< b24∧g≠ge)→some g≠r:=fun g hx e=>by
  have:=hr g e.symm
  omega
 exact ⟨h.f.keep hg (fun b e=>by have:=hr b e;omega),hl,h.b.grown hg (fun e=>by have:=hr b24 e.symm;omega),h.s19.keep hg hX,h.s20.keep hg hX,h.sc.keep hg hX,h.sd.keep hg hX,h.so.keep hg hX⟩
theorem KU{X:Nat→Prop}{W:World}{b:Nat}{i j:Int}{v u:Value}{l k:List Int}(hb:Bk W b 96 #[.int .i64 i,v, .int .i64 j,u])(hX:X b)(hi:I64 i)(hj:I64 j)(h:Sl ze X W v l)(h':Sl ze X W u k):Sl yT X W (.slice (some ⟨b,0,none⟩) 2 2) [(i,l),(j,k)]:=
 Sl.block (E:=yT) (xs:= [(i,l),(j,k)]) (c:=2) hb hX [[.int .i64 i,v], [.int .i64 j,u]] rfl (fun n h1 h2=>by
  have hn:n=0∨n=1:=by simp at h1;omega
  rcases hn with rfl|rfl
  ·exact ⟨v,rfl,hi,h⟩
  ·exact ⟨u,rfl,hj,h'⟩) rfl (Nat.le_refl _) (by decide)
theorem KX{X:Nat→Prop}{W:World}{b:Nat}{i:Int}{v:Value}{l:List Int}(hb:Bk W b 96 #[.int .i64 i,v])(hX:X b)(hi:I64 i)(h:Sl ze X W v l):Sl yT X W (.slice (some ⟨b,0,none⟩) 1 1) [(i,l)]:=
 Sl.block (E:=yT) (xs:= [(i,l)]) (c:=1) hb hX [[.int .i64 i,v]] rfl (fun n h1 h2=>by
  have hn:n=0:=by simp at h1;omega
  subst hn;exact ⟨v,rfl,hi,h⟩) rfl (Nat.le_refl _) (by decide)
def Ky:Nat→SSt
 |0=>{sN with deal:=xA}
 |1=>{sN with echos:=sN.echos++sN.echos}
 |2=>{sN with done:=true}
 |3=>{sN with own:=xA}
 |4=>{sN with readies:= [(3,xr),(2,xr)]}
 |_=>{sN with echos:= [(0,xr)]}
def leN(s:SSt):Bool:=s.echos.all (fun t=>decide (t.2.length≤100000)) && s.readies.all (fun t=>decide (t.2.length≤100000)) && decide (s.deal.length≤100000) && decide (s.own.length≤100000) && decide (s.echos.length+s.readies.length≤100) && decide (s.dealer=2) && decide (s.me=1) && decide (s.coms=CM5)
theorem Fi: ∀j,j< 6→leN (Ky j)=true:=by decide+kernel
theorem FM:leN sN=true:=by decide+kernel
theorem Fh(j:Nat)(h:j< 6):yo (EW 0) (Ky j)=none:=by
 have hj:j=0∨j=1∨j=2∨j=3∨j=4∨j=5:=by omega
 rcases hj with rfl|rfl|rfl|rfl|rfl|rfl
 ·exact Option.isNone_iff_eq_none.1 ld0
 ·exact Option.isNone_iff_eq_none.1 ld1
 ·exact Option.isNone_iff_eq_none.1 ld2
 ·exact Option.isNone_iff_eq_none.1 ld3
 ·exact Option.isNone_iff_eq_none.1 ld4
 ·exact Option.isNone_iff_eq_none.1 ld5
theorem MT{s:SSt}(hs:leN s=true){v:Value}{X:Nat→Prop}{W:World}(h:xT X W v s)(hT:zK W):Calls Tryz.prog 34 #[p4.v,v] W (QF (EW 0) s W):=by
 simp only [leN,Bool.and_eq_true,List.all_eq_true,decide_eq_true_eq] at hs;obtain ⟨⟨⟨⟨⟨⟨⟨h1,h2⟩,h3⟩,h4⟩,h5⟩,h6⟩,h7⟩,h8⟩:=hs;exact Qz (EW 0) s v X W (xN false) (show I64 2 from ⟨by decide,by decide⟩) (show I64 1 from ⟨by decide,by decide⟩) h h6 h7 h8 hT h1 h2 h3 h4 (ym _ (by omega))
theorem Pe{j:Nat}(hj:j< 6){v:Value}{X:Nat→Prop}{W:World}(h:xT X W v (Ky j))(hT:zK W):Calls Tryz.prog 34 #[p4.v,v] W fun e w'=>e= .returned (.tuple #[.pointer none, .int .i64 4])∧W.grownBy w' none:=
 (MT (Fi j hj) h hT).mono (by
  rintro e w' ⟨hg,h2⟩;rw [if_pos (To (VT 0 (by decide))),Fh j hj] at h2;exact ⟨h2,hg⟩)
theorem OY{v:Value}{X:Nat→Prop}{W:World}(h:xT X W v sN)(hT:zK W):Calls Tryz.prog 34 #[p4.v,v] W fun e w'=> ∃gA gM nn Y st,e= .returned (.tuple #[.pointer (some ⟨gA,0,none⟩), .int .i64 0])∧AvW Y gA gM nn (EW 0) st w'∧yx (EW 0) st∧xL (EW 0) st=sN∧W.grownBy w' none:=
 (MT FM h hT).mono (by
  rintro e w' ⟨hg,h2⟩;rw [if_pos (To (VT 0 (by decide)))] at h2;have h6:=ld6;cases hl:yo (EW 0) sN with
  |none=>rw [hl] at h6;cases h6
  |some st=>
   rw [hl] at h2 h6;obtain ⟨gA,gM,rfl,_,_,k3,k4⟩:=h2;injection h6 with h6
   exact ⟨gA,gM,_,_,st,rfl,k3,k4,h6,hg⟩)
def II(C D E R O v20 V2 V41 V42:Value):Array Value:= #[.int .i64 2, .int .i64 1,C,v20,E,R,O, .bool false, .int .i64 2, .int .i64 1,C,D,V2,R,O, .bool false, .int .i64 2, .int .i64 1,C,D,E,R,O, .bool true, .int .i64 2, .int .i64 1,C,D,E,R,v20, .bool false, .int .i64 2, .int .i64 1,C,D,E,V41,O, .bool false, .int .i64 2, .int .i64 1,C,D,V42,R,O, .bool false]
structure Nm6 (w:World) (gp B b24 b25:Nat) (C D E R O v20 V2 V41 V42:Value) (W:World):Prop where
 g:w.grownBy W none
 par:Bk W gp 39 p4.cells
 b24:Bk W b24 82 #[.int .i64 2, .int .i64 1,C,D,E,R,O, .bool false]
 b25:Bk W b25 82 (II C D E R O v20 V2 V41 V42)
 s20:Sl ze (fun _=>True) W v20 xA
 sc:Sl (zh ze) (fun _=>True) W C CM5
 sd:Sl ze (fun _=>True) W D sN.deal
 so:Sl ze (fun _=>True) W O sN.own
 se:Sl yT (fun _=>True) W E sN.echos
 sr:Sl yT (fun _=>True) W R sN.readies
 s2:Sl yT (fun _=>True) W V2 (sN.echos++sN.echos)
 s41:Sl yT (fun _=>True) W V41 [(3,xr),(2,xr)]
 s42:Sl yT (fun _=>True) W V42 [(0,xr)]
section
variable {w W W':World} {gp B b24 b25:Nat} {C D E R O v20 V2 V41 V42:Value}
theorem Nm6.kept(h:Nm6 w gp B b24 b25 C D E R O v20 V2 V41 V42 W)(hg:W.grownBy W' none):Nm6 w gp B b24 b25 C D E R O v20 V2 V41 V42 W':=⟨h.g.trans hg,h.par.grown hg (by simp),h.b24.grown hg (by simp),h.b25.grown hg (by simp),h.s20.kept hg,h.sc.kept hg,h.sd.kept hg,h.so.kept hg,h.se.kept hg,h.sr.kept hg,h.s2.kept hg,h.s41.kept hg,h.s42.kept hg⟩
theorem Nm6.at(h:Nm6 w gp B b24 b25 C D E R O v20 V2 V41 V42 W):xT (fun _=>True) W (.agg #[.int .i64 2, .int .i64 1,C,D,E,R,O, .bool false]) sN:=⟨C,D,E,R,O,by rw [NX.1,NX.2.1,NX.2.2.2],by rw [NX.2.2.1];exact h.sc,h.sd,h.se,h.sr,h.so⟩
theorem Yk{b:Nat}{t:TypeId}{a r:Array Value}{j:Nat}(hb:Bk W b t a)(e:(a.toList.drop (8*j)).take 8=r.toList){k:Nat}{u:Value}(hk:r[k]? =some u):W.cell? ⟨b,8*j+k,none⟩=some u:=by
 rw [hb.cell, ←Array.getElem?_toList];rw [←Array.getElem?_toList, ←e,List.getElem?_take] at hk;split at hk
 ·rw [List.getElem?_drop] at hk;exact hk
 ·exact absurd hk (by simp)
theorem Nm6.row(h:Nm6 w gp B b24 b25 C D E R O v20 V2 V41 V42 W)(j:Nat)(hj:j< 6): ∃c d e r o dn,xT (fun _=>True) W (.agg #[.int .i64 2, .int .i64 1,c,d,e,r,o, .bool dn]) (Ky j)∧ ∀k u,(#[.int .i64 2, .int .i64 1,c,d,e,r,o, .bool dn]:Array Value)[k]? =some u→W.cell? ⟨b25,8*j+k,none⟩=some u:=by
 have hc:Sl (zh ze) (fun _=>True) W C sN.coms:=by rw [NX.2.2.1];exact h.sc
 have hd:=NX.1;have hm:=NX.2.1;have hn:=NX.2.2.2;have hcase:j=0∨j=1∨j=2∨j=3∨j=4∨j=5:=by omega
 rcases hcase with rfl|rfl|rfl|rfl|rfl|rfl
 ·exact ⟨_,_,_,_,_,_,⟨C,v20,E,R,O,by simp only [Ky,hd,hm,hn],hc,h.s20,h.se,h.sr,h.so⟩,fun k u hk=>Yk h.b25 rfl hk⟩
 ·exact ⟨_,_,_,_,_,_,⟨C,D,V2,R,O,by simp only [Ky,hd,hm,hn],hc,h.sd,h.s2,h.sr,h.so⟩,fun k u hk=>Yk h.b25 rfl hk⟩
 ·exact ⟨_,_,_,_,_,_,⟨C,D,E,R,O,by simp only [Ky,hd,hm],hc,h.sd,h.se,h.sr,h.so⟩,fun k u hk=>Yk h.b25 rfl hk⟩
 ·exact ⟨_,_,_,_,_,_,⟨C,D,E,R,v20,by simp only [Ky,hd,hm,hn],hc,h.sd,h.se,h.sr,h.s20⟩,fun k u hk=>Yk h.b25 rfl hk⟩
 ·exact ⟨_,_,_,_,_,_,⟨C,D,E,V41,O,by simp only [Ky,hd,hm,hn],hc,h.sd,h.se,h.s41,h.so⟩,fun k u hk=>Yk h.b25 rfl hk⟩
 ·exact ⟨_,_,_,_,_,_,⟨C,D,V42,R,O,by simp only [Ky,hd,hm,hn],hc,h.sd,h.s42,h.sr,h.so⟩,fun k u hk=>Yk h.b25 rfl hk⟩
end
end
section
open Go Go.RowKit Go.Shelf Go.Maps
attribute [local go_sem] Oper.semAt_some
theorem JA(w W:World)(gp B b24 b25:Nat)(C D E R O v20 V2 V41 V42:Value){u0 u1 u2 u3 u4 u6 u7 u8 u9 u10 u11 u12 u13 u14 u15 u16 u17 u18 u19 u20 u21 u22 u23 u26 u27 u28 u29 u30 u31 u32 u33 u34 u35 u36 u37 u38 u39 u40 u41 u42 u43 u44 u45 u46 u47 u48 u49 u50 u51 u52 u53 u54 u55 u56 u57 u58 u59 u60 u61 u62 u63 u64 u65 u66 u67 u68 u69 u70 u71 u72 u73 u74 u75 u76 u77 u78 u79 u80 u81 u82 u83 u84 u85 u86 u87 u88 u89 u90 u91 u92 u93 u94 u95 u96 u97 u98 u99 u100 u101 u102 u103 u104 u105 u106 u107 u108 u109 u110 u111 u112 u113 u114 u115 u116 u117 u118 u119 u120 u121 u122 u123 u124 u125 u126 u127 u128 u129 u130 u131 u132 u133 u134 u135 u136 u137 u138 u139 u140 u141 u142 u143 u144 u145 u146 u147 u148 u149 u150 u151 u152 u153 u154 u155 u156 u157 u158 u159 u160 u161 u162 u163 u164 u165 u166 u167 u168 u169 u170 u171 u172 u173 u174 u175 u176 u177 u178 u179 u180 u181 u182 u183 u184 u185 u186 u187 u188 u189 u190 u191 u192 u193 u194 u195 u196 u197 u198 u199 u200 u201 u202 u203 u204 u205 u206 u207 u208 u209 u210 u211 u212 u213 u214 u215 u216 u217 u218 u219 u220 u221 u222 u223 u224 u225 u226 u227 u228 u229 u230 u231 u232 u233 u234 u235 u236 u237 u238 u239 u240 u241 u242 u243 u244 u245 u246 u247 u248 u249 u250 u251 u252 u253 u254 u255 u256 u257 u258 u259 u260 u261 u262 u263 u264 u265 u266 u267 u268 u269 u270 u271 u272 u273 u274 u275 u276 u277 u278 u279 u280 u281 u282 u283 u284 u285 u286 u287 u288 u289 u290 u291 u292 u293 u294 u295 u296 u297 u298 u299 u300 u301 u302 u303 u304 u305 u306 u307 u308 u309 u310 u311 u312 u313 u314 u315 u316 u317 u318 u319 u320 u321 u322 u323 u324 u325 u326 u327 u328 u329 u330 u331 u332 u333 u334 u335 u336 u337 u338 u339:Value}(hT:zK w)(h:Nm6 w gp B b24 b25 C D E R O v20 V2 V41 V42 W):
  Code.wp Tryz.prog (UK 27 Tryz.f6.body) (NQ w) {tmps:= #[u0,u1,u2,u3,u4, .pointer (some ⟨gp,0,none⟩),u6,u7,u8,u9,u10,u11,u12,u13,u14,u15,u16,u17,u18,u19,u20,u21,u22,u23, .pointer (some ⟨b24,0,none⟩), .slice (some ⟨b25,0,none⟩) 6 6,u26,u27,u28,u29,u30,u31,u32,u33,u34,u35,u36,u37,u38,u39,u40,u41,u42,u43,u44,u45,u46,u47,u48,u49,u50,u51,u52,u53,u54,u55,u56,u57,u58,u59,u60,u61,u62,u63,u64,u65,u66,u67,u68,u69,u70,u71,u72,u73,u74,u75,u76,u77,u78,u79,u80,u81,u82,u83,u84,u85,u86,u87,u88,u89,u90,u91,u92,u93,u94,u95,u96,u97,u98,u99,u100,u101,u102,u103,u104,u105,u106,u107,u108,u109,u110,u111,u112,u113,u114,u115,u116,u117,u118,u119,u120,u121,u122,u123,u124,u125,u126,u127,u128,u129,u130,u131,u132,u133,u134,u135,u136,u137,u138,u139,u140,u141,u142,u143,u144,u145,u146,u147,u148,u149,u150,u151,u152,u153,u154,u155,u156,u157,u158,u159,u160,u161,u162,u163,u164,u165,u166,u167,u168,u169,u170,u171,u172,u173,u174,u175,u176,u177,u178,u179,u180,u181,u182,u183,u184,u185,u186,u187,u188,u189,u190,u191,u192,u193,u194,u195,u196,u197,u198,u199,u200,u201,u202,u203,u204,u205,u206,u207,u208,u209,u210,u211,u212,u213,u214,u215,u216,u217,u218,u219,u220,u221,u222,u223,u224,u225,u226,u227,u228,u229,u230,u231,u232,u233,u234,u235,u236,u237,u238,u239,u240,u241,u242,u243,u244,u245,u246,u247,u248,u249,u250,u251,u252,u253,u254,u255,u256,u257,u258,u259,u260,u261,u262,u263,u264,u265,u266,u267,u268,u269,u270,u271,u272,u273,u274,u275,u276,u277,u278,u279,u280,u281,u282,u283,u284,u285,u286,u287,u288,u289,u290,u291,u292,u293,u294,u295,u296,u297,u298,u299,u300,u301,u302,u303,u304,u305,u306,u307,u308,u309,u310,u311,u312,u313,u314,u315,u316,u317,u318,u319,u320,u321,u322,u323,u324,u325,u326,u327,u328,u329,u330,u331,u332,u333,u334,u335,u336,u337,u338,u339],defers:= []} W:=by
 have HTB:=za hT;have H0:=za h;clear hT h
 conv=>arg 2;whnf
 go_wp2_with fail;go_loopg [26,27,28] 6 (fun g s26 s27 s28 wx=> ∃j:Nat,j+g=6∧s26= .int .i64 j∧Hid (Nm6 w gp B b24 b25 C D E R O v20 V2 V41 V42 wx))
 case atStart=>exact ⟨0,by omega,rfl,H0⟩
 case round=>
  rename World=>wr
  obtain ⟨j,hj,rfl,HX⟩:=hrel;rcases Nat.eq_zero_or_pos gk with hg0|hg0
  ·obtain rfl:j=6:=by omega
   have hp:=HX.out.par.prule;have hr:=HX.out.b24.rule;have HLO:=za (OY HX.out.at (HTB.out.kept HX.out.g));clear hg0;go_wp2_with fail;refine HLO.out.mono ?_;rintro e w1 ⟨gA,gM,nn,Y,st,rfl,k1,k2,k3,hg1⟩;have HAV:=za k1;have HOK:=za k2;have HES:=za k3;have H1:=za (HX.out.kept hg1);clear hp hr HLO k1 k2 k3 hg1 HX;go_upto_region 50 with (fail)
   have HGD:Hid (w1.grownBy w1.drew none):=za (zb w1 1);have HST:Hid (∀V,w1.grownBy V none→Calls Tryz.prog 30 #[.pointer (some ⟨gA,0,none⟩)] V fun e W'=> ∃v,e= .returned v∧xT (fun _=>True) W' v sN∧V.grownBy W' none):=za (fun V hV=>by
    refine (UX (EW 0) st gA gM nn Y V (VT 0 (by decide)) (HAV.out.kept hV) HOK.out).mono ?_;rintro e W' ⟨v,rfl,h1,h2⟩;rw [HES.out] at h1;exact ⟨v,rfl,h1.more fun _ _ _=>trivial,h2⟩)
   have HGI:Hid (∀V v,xT (fun _=>True) V v sN→Calls Tryz.prog 29 #[v] V fun e W'=> ∃v',e= .returned v'∧xT (fun _=>True) W' v' sN∧V.grownBy W' none):=za (fun V v hv=>by
    refine (YB v sN _ V hv (by rw [Gz];decide) (by rw [FL];decide)).mono ?_;rintro e W' ⟨v',rfl,h1,h2⟩;exact ⟨v',rfl,h1.more fun _ _ _=>trivial,h2⟩)
   have HLD:Hid (∀V,w1.grownBy V none→(∀o,V.cell? ⟨b24,o,none⟩=(#[.int .i64 2, .int .i64 1,C,D,E,R,O, .bool false]:Array Value)[o]?)∧xT (fun _=>True) V (.agg #[.int .i64 2, .int .i64 1,C,D,E,R,O, .bool false]) sN):=za (fun V hV=>⟨(H1.out.kept hV).b24.rule,(H1.out.kept hV).at⟩);have HGW:Hid (w.grownBy w1 none):=za H1.out.g;clear HAV HOK HES;refine Zf 11 ?_;refine mP0 (.int .i64 0) ?_;refine mP1 (.bool true) 0 330 ?_;refine mP1 (.bool true) 1 331 ?_;refine Zh (.pointer (some ⟨gA,0,none⟩)) 2 332 ?_;refine GS (Ft (fun _=>True) sN) 2 332 3 333 (fun w' hw' K hK=> ?_) ?_
   ·go_simp;refine (HST.out w' (HGD.out.trans hw')).mono ?_;rintro e w3 ⟨v,rfl,hs,hg⟩;exact hK _ _ rfl hs hg
   refine mV (Ft (fun _=>True) sN) [(2,332),(4,334)] (fun w' hw'=>pQ (fun x334 h334=>kE fun K hK=> ?_)) ?_
   ·have h334:xT (fun _=>True) w' x334 sN:=h334;go_simp;refine (HGI.out w' x334 h334).mono ?_;rintro e w3 ⟨v,rfl,hs,hg⟩;exact hK _ _ rfl hs hg
   refine Dq (.agg #[.int .i64 2, .int .i64 1,C,D,E,R,O, .bool false]) 2 332 (fun w' hw' K hK=> ?_) ?_
   ·obtain ⟨hr,_⟩:=HLD.out w' (HGD.out.trans hw');go_simp;exact hK _ rfl rfl
   refine GS (Ft (fun _=>True) sN) 2 332 6 336 (fun w' hw' K hK=> ?_) ?_
   ·go_simp;refine (HGI.out w' _ (HLD.out w' (HGD.out.trans hw')).2).mono ?_;rintro e w3 ⟨v,rfl,hs,hg⟩;exact hK _ _ rfl hs hg
   refine mS (.bool true) [(2,332),(5,335),(7,337)] (fun w' hw'=>pQ (fun x335 h335 x337 h337=>kE fun K hK=> ?_)) ?_
   ·have h335:xT (fun _=>True) w' x335 sN:=h335;have h337:xT (fun _=>True) w' x337 sN:=h337;go_simp;refine (Yz x335 x337 sN _ _ w' h335 h337).mono ?_;rintro e w3 ⟨rfl,hg⟩;exact hK _ _ rfl rfl hg
   refine mP2 (.bool true) 2 332 8 338 ?_;refine mP1 (.bool true) 9 339 ?_;intro w5 hw5
   iterate 10 (refine pD ?_;intro _)
   intro y10 k10;have e10:y10= .bool true:=k10;subst e10;have HFIN:Hid (w.grownBy w5 none):=za (HGW.out.trans (HGD.out.trans hw5));clear hw5 HGW HST HGI HLD HGD H1 H0;refine Eq.mpr rfl (show wpList Tryz.prog _ _ _ _ w5 from ?_);refine wpList_nil ?_;simp only [Act.put,sAa,sAb,sAc];go_wp2_with fail;go_ret;exact ⟨rfl,HFIN.out⟩
  ·have hj6:j< 6:=by omega
   have hjI:(j:Int)< 6:=by omega
   obtain ⟨c,d,e,r,o,dn,hst,hce⟩:=HX.out.row j hj6;have HLB:=za (fun V (hV:wr.grownBy V none)=>Pe hj6 (hst.kept hV) (HTB.out.kept (HX.out.g.trans hV)));have HCE:Hid (∀V,wr.grownBy V none→(∀o,V.cell? ⟨gp,o,none⟩=(p4.cells:Array Value)[o]?)∧V.cell? ⟨b25,j*8,none⟩=some (.int .i64 2)∧V.cell? ⟨b25,j*8+1,none⟩=some (.int .i64 1)∧V.cell? ⟨b25,j*8+2,none⟩=some c∧V.cell? ⟨b25,j*8+3,none⟩=some d∧V.cell? ⟨b25,j*8+4,none⟩=some e∧V.cell? ⟨b25,j*8+5,none⟩=some r∧V.cell? ⟨b25,j*8+6,none⟩=some o∧V.cell? ⟨b25,j*8+7,none⟩=some (.bool dn)):=za (fun V hV=>by
    have key: ∀k u,(#[.int .i64 2, .int .i64 1,c,d,e,r,o, .bool dn]:Array Value)[k]? =some u→V.cell? ⟨b25,j*8+k,none⟩=some u:=fun k u hk=>by
     rw [World.cell?_of_block (hV.block b25 HX.out.b25.lt (by simp)),Nat.mul_comm j 8];exact hce k u hk
    exact ⟨((HX.out.kept hV).par).prule,key 0 _ rfl,key 1 _ rfl,key 2 _ rfl,key 3 _ rfl,key 4 _ rfl,key 5 _ rfl,key 6 _ rfl,key 7 _ rfl⟩)
   have HGD:Hid (wr.grownBy wr.drew none):=za (zb wr 1);clear hst hce hj6;go_upto_region 46 with (fail)
   have hj0:(0:Int)≤(j:Int):=by omega
   refine Zf 11 ?_;refine mQ0 (p4.v) (fun w' hw' K hK=> ?_) ?_
   ·obtain ⟨hp,c0,c1,c2,c3,c4,c5,c6,c7⟩:=HCE.out w' (HGD.out.trans hw');go_simp;exact hK _ rfl rfl
   refine mP0 (.slice (some ⟨b25,0,none⟩) 6 6) ?_;refine mP0 (.int .i64 j) ?_;refine mP2 (.pointer (some ⟨b25,j*8,none⟩)) 1 311 2 312 ?_;refine mQ1 (.agg #[.int .i64 2, .int .i64 1,c,d,e,r,o, .bool dn]) 3 313 (fun w' hw' K hK=> ?_) ?_
   ·obtain ⟨hp,c0,c1,c2,c3,c4,c5,c6,c7⟩:=HCE.out w' (HGD.out.trans hw');go_simp;exact hK _ rfl rfl
   refine mN2 (Pv.eq (.tuple #[.pointer none, .int .i64 4])) 0 310 4 314 (fun w' hw' K hK=> ?_) ?_
   ·go_simp;refine (HLB.out w' (HGD.out.trans hw')).mono ?_;rintro e w3 ⟨rfl,hg3⟩;exact hK _ _ rfl rfl hg3
   refine mP1 (.tuple #[.pointer none, .int .i64 4]) 5 315 ?_;refine mP1 (.pointer none) 6 309 ?_;refine mP1 (.int .i64 4) 6 309 ?_;refine mP1 (.pointer none) 7 316 ?_;refine mP1 (.int .i64 4) 8 317 ?_;intro w5 hw5
   iterate 9 (refine pD ?_;intro _)
   intro y9 k9 y10 k10;have e9:y9= .pointer none:=k9;have e10:y10= .int .i64 4:=k10;subst e9 e10;have HFIN:Hid (Nm6 w gp B b24 b25 C D E R O v20 V2 V41 V42 w5):=za (HX.out.kept (HGD.out.trans hw5));clear hw5 HX HLB HCE HGD;refine Eq.mpr rfl (show wpList Tryz.prog _ _ _ _ w5 from ?_);refine wpList_nil ?_;simp only [Act.put,sAa,sAb,sAc];go_wp2_with fail;go_roundg (gk - 1)
   case measure=>omega
   case rel=>exact ⟨j+1,by omega,by go_num,HFIN⟩
end
section
open Go Go.RowKit Go.Shelf Go.Maps
abbrev Zr(ge ce:Nat):Value:= .slice (some ⟨ge,0,none⟩) 1 ce
abbrev Fs(C D E R O:Value):Array Value:= #[.int .i64 2, .int .i64 1,C,D,E,R,O, .bool false]
abbrev zIOz(C D E R O:Value):Array Value:= #[.int .i64 2, .int .i64 1,C,D,E,R,O, .bool false, .int .i64 2, .int .i64 1,C,D,E,R,O, .bool false, .int .i64 2, .int .i64 1,C,D,E,R,O, .bool false, .int .i64 2, .int .i64 1,C,D,E,R,O, .bool false, .int .i64 2, .int .i64 1,C,D,E,R,O, .bool false, .int .i64 2, .int .i64 1,C,D,E,R,O, .bool false]
attribute [local go_sem] Oper.semAt_some
theorem JB(w W:World)(gp B b24 b25 ge ce:Nat)(vd vc C D R O:Value)(g19 o19 c19 g20 c20:Nat){u0 u1 u2 u3 u4 u6 u7 u8 u9 u10 u11 u12 u13 u14 u15 u16 u17 u18 u21 u22 u23 u26 u27 u28 u29 u30 u31 u32 u33 u34 u35 u36 u37 u38 u39 u40 u41 u42 u43 u44 u45 u46 u47 u48 u49 u50 u51 u52 u53 u54 u55 u56 u57 u58 u59 u60 u61 u62 u63 u64 u65 u66 u67 u68 u69 u70 u71 u72 u73 u74 u75 u76 u77 u78 u79 u80 u81 u82 u83 u84 u85 u86 u87 u88 u89 u90 u91 u92 u93 u94 u95 u96 u97 u98 u99 u100 u101 u102 u103 u104 u105 u106 u107 u108 u109 u110 u111 u112 u113 u114 u115 u116 u117 u118 u119 u120 u121 u122 u123 u124 u125 u126 u127 u128 u129 u130 u131 u132 u133 u134 u135 u136 u137 u138 u139 u140 u141 u142 u143 u144 u145 u146 u147 u148 u149 u150 u151 u152 u153 u154 u155 u156 u157 u158 u159 u160 u161 u162 u163 u164 u165 u166 u167 u168 u169 u170 u171 u172 u173 u174 u175 u176 u177 u178 u179 u180 u181 u182 u183 u184 u185 u186 u187 u188 u189 u190 u191 u192 u193 u194 u195 u196 u197 u198 u199 u200 u201 u202 u203 u204 u205 u206 u207 u208 u209 u210 u211 u212 u213 u214 u215 u216 u217 u218 u219 u220 u221 u222 u223 u224 u225 u226 u227 u228 u229 u230 u231 u232 u233 u234 u235 u236 u237 u238 u239 u240 u241 u242 u243 u244 u245 u246 u247 u248 u249 u250 u251 u252 u253 u254 u255 u256 u257 u258 u259 u260 u261 u262 u263 u264 u265 u266 u267 u268 u269 u270 u271 u272 u273 u274 u275 u276 u277 u278 u279 u280 u281 u282 u283 u284 u285 u286 u287 u288 u289 u290 u291 u292 u293 u294 u295 u296 u297 u298 u299 u300 u301 u302 u303 u304 u305 u306 u307 u308 u309 u310 u311 u312 u313 u314 u315 u316 u317 u318 u319 u320 u321 u322 u323 u324 u325 u326 u327 u328 u329 u330 u331 u332 u333 u334 u335 u336 u337 u338 u339:Value}(hT:zK w)(hN:Nm5 w gp B vd vc b24 ge (Fs C D (Zr ge ce) R O) C D O (.slice (some ⟨g19,o19,none⟩) 16 c19) (.slice (some ⟨g20,0,none⟩) 24 c20) W)
  (hb:Bk W b25 82 (zIOz C D (Zr ge ce) R O)) (hlt:b24< b25) (hac:Acc yT B 96 (fun g=>g≠b25) W (Zr ge ce) sN.echos) (hsr: ∀V,Sl yT (fun _=>True) V R sN.readies):
  Code.wp Tryz.prog (UK 21 Tryz.f6.body) (NQ w) {tmps:= #[u0,u1,u2,u3,u4, .pointer (some ⟨gp,0,none⟩),u6,u7,u8,u9,u10,u11,u12,u13,u14,u15,u16,u17,u18, .slice (some ⟨g19,o19,none⟩) 16 c19, .slice (some ⟨g20,0,none⟩) 24 c20,u21,u22,u23, .pointer (some ⟨b24,0,none⟩), .slice (some ⟨b25,0,none⟩) 6 6,u26,u27,u28,u29,u30,u31,u32,u33,u34,u35,u36,u37,u38,u39,u40,u41,u42,u43,u44,u45,u46,u47,u48,u49,u50,u51,u52,u53,u54,u55,u56,u57,u58,u59,u60,u61,u62,u63,u64,u65,u66,u67,u68,u69,u70,u71,u72,u73,u74,u75,u76,u77,u78,u79,u80,u81,u82,u83,u84,u85,u86,u87,u88,u89,u90,u91,u92,u93,u94,u95,u96,u97,u98,u99,u100,u101,u102,u103,u104,u105,u106,u107,u108,u109,u110,u111,u112,u113,u114,u115,u116,u117,u118,u119,u120,u121,u122,u123,u124,u125,u126,u127,u128,u129,u130,u131,u132,u133,u134,u135,u136,u137,u138,u139,u140,u141,u142,u143,u144,u145,u146,u147,u148,u149,u150,u151,u152,u153,u154,u155,u156,u157,u158,u159,u160,u161,u162,u163,u164,u165,u166,u167,u168,u169,u170,u171,u172,u173,u174,u175,u176,u177,u178,u179,u180,u181,u182,u183,u184,u185,u186,u187,u188,u189,u190,u191,u192,u193,u194,u195,u196,u197,u198,u199,u200,u201,u202,u203,u204,u205,u206,u207,u208,u209,u210,u211,u212,u213,u214,u215,u216,u217,u218,u219,u220,u221,u222,u223,u224,u225,u226,u227,u228,u229,u230,u231,u232,u233,u234,u235,u236,u237,u238,u239,u240,u241,u242,u243,u244,u245,u246,u247,u248,u249,u250,u251,u252,u253,u254,u255,u256,u257,u258,u259,u260,u261,u262,u263,u264,u265,u266,u267,u268,u269,u270,u271,u272,u273,u274,u275,u276,u277,u278,u279,u280,u281,u282,u283,u284,u285,u286,u287,u288,u289,u290,u291,u292,u293,u294,u295,u296,u297,u298,u299,u300,u301,u302,u303,u304,u305,u306,u307,u308,u309,u310,u311,u312,u313,u314,u315,u316,u317,u318,u319,u320,u321,u322,u323,u324,u325,u326,u327,u328,u329,u330,u331,u332,u333,u334,u335,u336,u337,u338,u339],defers:= []} W:=by
 obtain ⟨x,hx⟩: ∃x,sN.echos= [x]:=List.length_eq_one_iff.1 Gz;rw [hx] at hac;have HX:=za hx;have HTB:=za hT;have HN:=za hN;have HB:=za hb;have HA:=za hac;have HR:=za hsr;have HL:Hid (b24< b25∧B≤b24∧B≤ge∧ge< b24):=za ⟨hlt,hN.lt⟩;have c3:W.cell? ⟨b25,3,none⟩=some D:=(hb.cell 3).trans rfl;have f3:W.frozen? ⟨b25,3,none⟩=false:=hb.free 3;clear hT hN hb hac hx hsr hlt
 conv=>arg 2;whnf
 go_upto_region 38 with (fail)
 obtain ⟨w1,hw1⟩: ∃y,y=W.setCell ⟨b25,3,none⟩ (.slice (some ⟨g20,0,none⟩) 24 c20):=⟨_,rfl⟩;rw [←hw1];have HB1:Hid (Bk w1 b25 82 ((zIOz C D (Zr ge ce) R O).setIfInBounds 3 (.slice (some ⟨g20,0,none⟩) 24 c20))):=za (by rw [hw1];exact HB.out.set 3 _);have HG1:Hid (W.grownBy w1 (some b25)):=za (by rw [hw1];exact zi _ _ _ _);have HN1:=za (HN.out.keep HG1.out (fun b e=>by injection e with e;right;have:=HL.out;omega));have HA1:=za (HA.out.keep HG1.out (fun g hg e=>by injection e with e;exact hg e));clear hw1 c3 f3 HN HA HB HG1;have hr:=HN1.out.b.rule;have HSZ:Hid (B≤w1.heap.size∧b25< w1.heap.size):=za ⟨HN1.out.f.sz,HB1.out.lt⟩;have HLX:Hid (([x].length+ [x].length)*32≤140737488355328):=za (by simp);go_wp2_with (at_builtin;refine QN rfl (.tmp 276) (.tmp 278) rfl (E:=yT) TD HA1.out rfl rfl HLX.out HSZ.out.1 (fun g hg=>by have:=HSZ.out.2;omega) ?_);intro v2 w2 hacc2 hg2 hor;have HS2:Hid (Sl yT (fun g=>g≠b25) w2 v2 [x,x]):=za hacc2.sl;have HE2:Hid (Sl yT (fun g=>g≠b25) w2 (Zr ge ce) [x]):=za (by
  rcases hor with rfl|h
  ·exact hacc2.sl.take 1 (by simp)
  ·exact HA1.out.sl.kept h)
 obtain ⟨A2,c2,e2,_,_⟩:=hacc2.sl.form;have e2:v2= .slice A2 2 c2:=e2;subst e2;have HN2:=za (HN1.out.keep hg2 (fun b e=>by injection e with e;left;exact e.symm));have HB2:=za (HB1.out.grown hg2 (fun e=>by injection e with e;have:=HL.out;omega));have c12:w2.cell? ⟨b25,12,none⟩=some (Zr ge ce):=(HB2.out.cell 12).trans rfl;have f12:w2.frozen? ⟨b25,12,none⟩=false:=HB2.out.free 12;clear hacc2 hg2 hor HN1 HB1 HA1 HSZ HLX hr;go_upto_region 39 with (fail)
 obtain ⟨w3,hw3⟩: ∃y,y=w2.setCell ⟨b25,12,none⟩ (.slice A2 2 c2):=⟨_,rfl⟩;rw [←hw3];have HB3:Hid (Bk w3 b25 82 (((zIOz C D (Zr ge ce) R O).setIfInBounds 3 (.slice (some ⟨g20,0,none⟩) 24 c20)).setIfInBounds 12 (.slice A2 2 c2))):=za (by rw [hw3];exact HB2.out.set 12 _);have HG3:Hid (w2.grownBy w3 (some b25)):=za (by rw [hw3];exact zi _ _ _ _);have HN3:=za (HN2.out.keep HG3.out (fun b e=>by injection e with e;right;have:=HL.out;omega));have c23:w3.cell? ⟨b25,23,none⟩=some (.bool false):=(HB3.out.cell 23).trans rfl;have f23:w3.frozen? ⟨b25,23,none⟩=false:=HB3.out.free 23;clear hw3 c12 f12 HN2 HB2;go_upto_region 40 with (fail)
 obtain ⟨w4,hw4⟩: ∃y,y=w3.setCell ⟨b25,23,none⟩ (.bool true):=⟨_,rfl⟩;rw [←hw4];have HB4:Hid (Bk w4 b25 82 ((((zIOz C D (Zr ge ce) R O).setIfInBounds 3 (.slice (some ⟨g20,0,none⟩) 24 c20)).setIfInBounds 12 (.slice A2 2 c2)).setIfInBounds 23 (.bool true))):=za (by rw [hw4];exact HB3.out.set 23 _);have HG4:Hid (w3.grownBy w4 (some b25)):=za (by rw [hw4];exact zi _ _ _ _);have HN4:=za (HN3.out.keep HG4.out (fun b e=>by injection e with e;right;have:=HL.out;omega));have c30:w4.cell? ⟨b25,30,none⟩=some O:=(HB4.out.cell 30).trans rfl;have f30:w4.frozen? ⟨b25,30,none⟩=false:=HB4.out.free 30;clear hw4 c23 f23 HN3 HB3;go_upto_region 41 with (fail)
 obtain ⟨w5,hw5⟩: ∃y,y=w4.setCell ⟨b25,30,none⟩ (.slice (some ⟨g20,0,none⟩) 24 c20):=⟨_,rfl⟩;rw [←hw5];have HB5:Hid (Bk w5 b25 82 (((((zIOz C D (Zr ge ce) R O).setIfInBounds 3 (.slice (some ⟨g20,0,none⟩) 24 c20)).setIfInBounds 12 (.slice A2 2 c2)).setIfInBounds 23 (.bool true)).setIfInBounds 30 (.slice (some ⟨g20,0,none⟩) 24 c20))):=za (by rw [hw5];exact HB4.out.set 30 _);have HG5:Hid (w4.grownBy w5 (some b25)):=za (by rw [hw5];exact zi _ _ _ _);have HN5:=za (HN4.out.keep HG5.out (fun b e=>by injection e with e;right;have:=HL.out;omega));have HGA:Hid (w2.grownBy w5 (some b25)):=za ((HG3.out.trans HG4.out).trans HG5.out);have c37:(w5.alloc (.cells #[.int .i64 3, .slice (some ⟨g19,o19,none⟩) 16 c19, .int .i64 2, .slice (some ⟨g19,o19,none⟩) 16 c19] 96)).cell? ⟨b25,37,none⟩=some R:=((HB5.out.alloc _).cell 37).trans rfl;have f37:(w5.alloc (.cells #[.int .i64 3, .slice (some ⟨g19,o19,none⟩) 16 c19, .int .i64 2, .slice (some ⟨g19,o19,none⟩) 16 c19] 96)).frozen? ⟨b25,37,none⟩=false:=(HB5.out.alloc _).free 37;clear hw5 c30 f30 HN4 HB4 HG3 HG4 HG5;go_upto_region 42 with (fail)
 obtain ⟨w6,hw6⟩: ∃y,y=(w5.alloc (.cells #[.int .i64 3, .slice (some ⟨g19,o19,none⟩) 16 c19, .int .i64 2, .slice (some ⟨g19,o19,none⟩) 16 c19] 96)).setCell ⟨b25,37,none⟩ (.slice (some ⟨w5.heap.size,0,none⟩) 2 2):=⟨_,rfl⟩;rw [←hw6];have HG6:Hid (w5.grownBy w6 (some b25)):=za (by rw [hw6];exact ((gAl _ _ none).but _).trans (zi _ _ _ _));have HB6:Hid (Bk w6 b25 82 ((((((zIOz C D (Zr ge ce) R O).setIfInBounds 3 (.slice (some ⟨g20,0,none⟩) 24 c20)).setIfInBounds 12 (.slice A2 2 c2)).setIfInBounds 23 (.bool true)).setIfInBounds 30 (.slice (some ⟨g20,0,none⟩) 24 c20)).setIfInBounds 37 (.slice (some ⟨w5.heap.size,0,none⟩) 2 2))):=za (by rw [hw6];exact (HB5.out.alloc _).set 37 _);have HT6:Hid (Bk w6 w5.heap.size 96 #[.int .i64 3, .slice (some ⟨g19,o19,none⟩) 16 c19, .int .i64 2, .slice (some ⟨g19,o19,none⟩) 16 c19]∧w5.heap.size≠b25):=za (by
  have hne:w5.heap.size≠b25:=by have:=HB5.out.lt;omega
  refine ⟨?_,hne⟩;rw [hw6];exact (Bk.new w5 _ _).grown (zi _ _ _ _) (fun e=>by injection e with e;exact hne e))
 have HN6:=za (HN5.out.keep HG6.out (fun b e=>by injection e with e;right;have:=HL.out;omega));have c44:(w6.alloc (.cells #[.int .i64 0, .slice (some ⟨g19,o19,none⟩) 16 c19] 96)).cell? ⟨b25,44,none⟩=some (Zr ge ce):=((HB6.out.alloc _).cell 44).trans rfl;have f44:(w6.alloc (.cells #[.int .i64 0, .slice (some ⟨g19,o19,none⟩) 16 c19] 96)).frozen? ⟨b25,44,none⟩=false:=(HB6.out.alloc _).free 44;clear hw6 c37 f37 HN5 HB5;rename_i KT aT;have HK:=za aT;clear aT;go_wp2_with fail;obtain ⟨w7,hw7⟩: ∃y,y=(w6.alloc (.cells #[.int .i64 0, .slice (some ⟨g19,o19,none⟩) 16 c19] 96)).setCell ⟨b25,44,none⟩ (.slice (some ⟨w6.heap.size,0,none⟩) 1 1):=⟨_,rfl⟩;rw [←hw7];have HG7:Hid (w6.grownBy w7 (some b25)):=za (by rw [hw7];exact ((gAl _ _ none).but _).trans (zi _ _ _ _));have HB7:Hid (Bk w7 b25 82 (II C D (Zr ge ce) R O (.slice (some ⟨g20,0,none⟩) 24 c20) (.slice A2 2 c2) (.slice (some ⟨w5.heap.size,0,none⟩) 2 2) (.slice (some ⟨w6.heap.size,0,none⟩) 1 1))):=za (by
  rw [hw7];have h:=(HB6.out.alloc (.cells #[.int .i64 0, .slice (some ⟨g19,o19,none⟩) 16 c19] 96)).set 44 (.slice (some ⟨w6.heap.size,0,none⟩) 1 1);exact h)
 have HT7:Hid (Bk w7 w6.heap.size 96 #[.int .i64 0, .slice (some ⟨g19,o19,none⟩) 16 c19]∧w6.heap.size≠b25):=za (by
  have hne:w6.heap.size≠b25:=by have:=HB6.out.lt;omega
  refine ⟨?_,hne⟩;rw [hw7];exact (Bk.new w6 _ _).grown (zi _ _ _ _) (fun e=>by injection e with e;exact hne e))
 have HN7:=za (HN6.out.keep HG7.out (fun b e=>by injection e with e;right;have:=HL.out;omega));have H6:Hid (Nm6 w gp B b24 b25 C D (Zr ge ce) R O (.slice (some ⟨g20,0,none⟩) 24 c20) (.slice A2 2 c2) (.slice (some ⟨w5.heap.size,0,none⟩) 2 2) (.slice (some ⟨w6.heap.size,0,none⟩) 1 1) w7):=za (by
  have n:=HN7.out;have hg:=HGA.out.trans (HG6.out.trans HG7.out);have hne: ∀g:Nat,g≠b25→some g≠some b25:=fun g h e=>by injection e with e;exact h e
  refine ⟨n.f.g,n.f.par,n.b,HB7.out,n.s20.more fun _ _ _=>trivial,n.sc.more fun _ _ _=>trivial,n.sd.more fun _ _ _=>trivial,n.so.more fun _ _ _=>trivial, ?_,HR.out w7, ?_, ?_, ?_⟩
  ·rw [HX.out];exact (HE2.out.keep hg hne).more fun _ _ _=>trivial
  ·rw [HX.out];exact (HS2.out.keep hg hne).more fun _ _ _=>trivial
  ·refine KU (HT6.out.1.grown HG7.out (hne _ HT6.out.2)) trivial ⟨by decide,by decide⟩ ⟨by decide,by decide⟩ (n.s19.more fun _ _ _=>trivial) (n.s19.more fun _ _ _=>trivial)
  ·exact KX HT7.out.1 trivial ⟨by decide,by decide⟩ (n.s19.more fun _ _ _=>trivial))
 clear hw7 c44 f44 HN6 HB6 HN7 HB7 HT6 HT7 HG6 HG7 HGA HE2 HS2 HR HX HL;exact HK.out _ _ (JA w w7 gp B b24 b25 C D (Zr ge ce) R O _ _ _ _ HTB.out H6.out)
end
section
open Go Go.RowKit Go.Shelf Go.Maps
theorem DH:sN.deal.length≠1:=by decide+kernel
theorem JF:xr.length≠1∧xA.length≠1∧CM5.length≠1∧ ∀x∈CM5,x.length≠1:=by decide+kernel
theorem GZ(w:World)(a b c d e f g h:Value):(Instr.field 82 (.agg #[a,b,c,d,e,f,g,h]) 4).run Tryz.prog w= .ok e w:=by kernel_rfl
attribute [local go_sem] Oper.semAt_some GZ
theorem JC(w W:World)(gp B nd cd gc oc cc gA gM:Nat)(g18 o18 c18 g19 o19 c19 g20 c20:Nat)(Ad:Option Addr){u0 u1 u2 u3 u4 u8 u9 u10 u11 u12 u13 u14 u15 u17 u21 u22 u23 u24 u25 u26 u27 u28 u29 u30 u31 u32 u33 u34 u35 u36 u37 u38 u39 u40 u41 u42 u43 u44 u45 u46 u47 u48 u49 u50 u51 u52 u53 u54 u55 u56 u57 u58 u59 u60 u61 u62 u63 u64 u65 u66 u67 u68 u69 u70 u71 u72 u73 u74 u75 u76 u77 u78 u79 u80 u81 u82 u83 u84 u85 u86 u87 u88 u89 u90 u91 u92 u93 u94 u95 u96 u97 u98 u99 u100 u101 u102 u103 u104 u105 u106 u107 u108 u109 u110 u111 u112 u113 u114 u115 u116 u117 u118 u119 u120 u121 u122 u123 u124 u125 u126 u127 u128 u129 u130 u131 u132 u133 u134 u135 u136 u137 u138 u139 u140 u141 u142 u143 u144 u145 u146 u147 u148 u149 u150 u151 u152 u153 u154 u155 u156 u157 u158 u159 u160 u161 u162 u163 u164 u165 u166 u167 u168 u169 u170 u171 u172 u173 u174 u175 u176 u177 u178 u179 u180 u181 u182 u183 u184 u185 u186 u187 u188 u189 u190 u191 u192 u193 u194 u195 u196 u197 u198 u199 u200 u201 u202 u203 u204 u205 u206 u207 u208 u209 u210 u211 u212 u213 u214 u215 u216 u217 u218 u219 u220 u221 u222 u223 u224 u225 u226 u227 u228 u229 u230 u231 u232 u233 u234 u235 u236 u237 u238 u239 u240 u241 u242 u243 u244 u245 u246 u247 u248 u249 u250 u251 u252 u253 u254 u255 u256 u257 u258 u259 u260 u261 u262 u263 u264 u265 u266 u267 u268 u269 u270 u271 u272 u273 u274 u275 u276 u277 u278 u279 u280 u281 u282 u283 u284 u285 u286 u287 u288 u289 u290 u291 u292 u293 u294 u295 u296 u297 u298 u299 u300 u301 u302 u303 u304 u305 u306 u307 u308 u309 u310 u311 u312 u313 u314 u315 u316 u317 u318 u319 u320 u321 u322 u323 u324 u325 u326 u327 u328 u329 u330 u331 u332 u333 u334 u335 u336 u337 u338 u339:Value}(hT:zK w)(hR:Nm4 w gp B (.slice Ad nd cd) (.slice (some ⟨gc,oc,none⟩) 2 cc) gA gM 42 ASt.start (.slice (some ⟨g18,o18,none⟩) 24 c18) (.slice (some ⟨g19,o19,none⟩) 16 c19) (.slice (some ⟨g20,0,none⟩) 24 c20) W):
  Code.wp Tryz.prog (UK 18 Tryz.f6.body) (NQ w) {tmps:= #[u0,u1,u2,u3,u4, .pointer (some ⟨gp,0,none⟩), .slice Ad nd cd, .slice (some ⟨gc,oc,none⟩) 2 cc,u8,u9,u10,u11,u12,u13,u14,u15, .pointer (some ⟨gA,0,none⟩),u17, .slice (some ⟨g18,o18,none⟩) 24 c18, .slice (some ⟨g19,o19,none⟩) 16 c19, .slice (some ⟨g20,0,none⟩) 24 c20,u21,u22,u23,u24,u25,u26,u27,u28,u29,u30,u31,u32,u33,u34,u35,u36,u37,u38,u39,u40,u41,u42,u43,u44,u45,u46,u47,u48,u49,u50,u51,u52,u53,u54,u55,u56,u57,u58,u59,u60,u61,u62,u63,u64,u65,u66,u67,u68,u69,u70,u71,u72,u73,u74,u75,u76,u77,u78,u79,u80,u81,u82,u83,u84,u85,u86,u87,u88,u89,u90,u91,u92,u93,u94,u95,u96,u97,u98,u99,u100,u101,u102,u103,u104,u105,u106,u107,u108,u109,u110,u111,u112,u113,u114,u115,u116,u117,u118,u119,u120,u121,u122,u123,u124,u125,u126,u127,u128,u129,u130,u131,u132,u133,u134,u135,u136,u137,u138,u139,u140,u141,u142,u143,u144,u145,u146,u147,u148,u149,u150,u151,u152,u153,u154,u155,u156,u157,u158,u159,u160,u161,u162,u163,u164,u165,u166,u167,u168,u169,u170,u171,u172,u173,u174,u175,u176,u177,u178,u179,u180,u181,u182,u183,u184,u185,u186,u187,u188,u189,u190,u191,u192,u193,u194,u195,u196,u197,u198,u199,u200,u201,u202,u203,u204,u205,u206,u207,u208,u209,u210,u211,u212,u213,u214,u215,u216,u217,u218,u219,u220,u221,u222,u223,u224,u225,u226,u227,u228,u229,u230,u231,u232,u233,u234,u235,u236,u237,u238,u239,u240,u241,u242,u243,u244,u245,u246,u247,u248,u249,u250,u251,u252,u253,u254,u255,u256,u257,u258,u259,u260,u261,u262,u263,u264,u265,u266,u267,u268,u269,u270,u271,u272,u273,u274,u275,u276,u277,u278,u279,u280,u281,u282,u283,u284,u285,u286,u287,u288,u289,u290,u291,u292,u293,u294,u295,u296,u297,u298,u299,u300,u301,u302,u303,u304,u305,u306,u307,u308,u309,u310,u311,u312,u313,u314,u315,u316,u317,u318,u319,u320,u321,u322,u323,u324,u325,u326,u327,u328,u329,u330,u331,u332,u333,u334,u335,u336,u337,u338,u339],defers:= []} W:=by
 have HTB:=za hT;have HR:=za hR;have HTK:=za (hR.take (ym _ (by decide)) (show U8 7 from ⟨by decide,by decide⟩) (show I64 0 from ⟨by decide,by decide⟩) hR.s18 Hm.1 rfA);rw [Ca] at HTK;clear hT hR
 conv=>arg 2;whnf
 go_wp2_with fail;refine HTK.out.mono ?_;rintro e w1 ⟨A1,c1,rfl,h1⟩;have HTK1:=za (h1.take (ym _ (by decide)) (show U8 7 from ⟨by decide,by decide⟩) (show I64 0 from ⟨by decide,by decide⟩) h1.s18 Hm.1 rfB);clear HTK HR h1;go_wp2_with fail;refine HTK1.out.mono ?_;rintro e w2 ⟨A2,c2,rfl,h2⟩;have HTK:=za (h2.take (ym _ (by decide)) (show U8 8 from ⟨by decide,by decide⟩) (show I64 1 from ⟨by decide,by decide⟩) h2.s19 Hm.2 rfC);clear HTK1 h2;go_wp2_with fail;refine HTK.out.mono ?_;rintro e w3 ⟨A3,c3,rfl,h3⟩;have HST:=za h3.own;have HR3:=za h3;clear HTK h3;go_wp2_with fail;refine HST.out.mono ?_;rintro e w4 ⟨v4,rfl,hs4,hg4⟩;have HR4:=za (HR3.out.kept hg4);have hs4:KA w3.heap.size w4 v4 sN:=hs4;obtain ⟨vc4,vd4,ve4,vr4,vo4,rfl,_,_,⟨_,_,se4⟩,_,_⟩:=hs4;obtain ⟨A4,c4,e4,_,_⟩:=se4.sl.form;rw [Gz] at e4;subst e4;clear se4 HST HR3 hg4;go_wp2_with fail;refine HR4.out.own.mono ?_;rintro e w5 ⟨v5,rfl,hs5,hg5⟩;have HR5:=za (HR4.out.kept hg5);have hs5:KA w4.heap.size w5 v5 sN:=hs5;obtain ⟨vc,vd,ve,vr,vo,e5,qc,qd,⟨b',qb,qe⟩,qr,qo⟩:=hs5;rw [NX.1,NX.2.1,NX.2.2.2] at e5;subst e5;obtain ⟨Xc,nc,cc',rfl⟩:=qc.shape;obtain ⟨Xd,ne,cd',rfl⟩:=qd.shape;obtain ⟨ge,ce,ee,e1,e2,_,_⟩:=qe.acc.form0 (by rw [Gz];decide);rw [Gz] at ee;subst ee;obtain ⟨Xr,cr',er,r1,r2⟩:=qr.form;rw [FL] at er r1;subst er;obtain ⟨Xo,no,co',rfl⟩:=qo.shape;have HBB:Hid (B≤w4.heap.size):=za HR4.out.n.f.sz;have hev:=qe.rst.2 Gz ge ce rfl;have HQ:Hid (B≤ge∧ge< w5.heap.size∧Sl ze (fun g=>g< w5.heap.size∧g≠ge) w5 (.slice (some ⟨g19,o19,none⟩) 16 c19) xr∧Sl ze (fun g=>g< w5.heap.size∧g≠ge) w5 (.slice (some ⟨g20,0,none⟩) 24 c20) xA∧Sl (zh ze) (fun g=>g< w5.heap.size∧g≠ge) w5 (.slice Xc nc cc') CM5∧Sl ze (fun g=>g< w5.heap.size∧g≠ge) w5 (.slice Xd ne cd') sN.deal∧Sl ze (fun g=>g< w5.heap.size∧g≠ge) w5 (.slice Xo no co') sN.own∧Acc yT B 96 (fun g=>g≠w5.heap.size+1) w5 (Zr ge ce) sN.echos):=za (by
  have hB:=HBB.out;rw [NX.2.2.1] at qc;refine ⟨by omega,e2,(HR5.out.s19.apart2 JF.1 hev).more fun g hl h=>⟨hl,h.2⟩,(HR5.out.s20.apart2 JF.2.1 hev).more fun g hl h=>⟨hl,h.2⟩,(qc.apartS2 JF.2.2.1 JF.2.2.2 hev).more fun g hl h=>⟨hl,h.2⟩,(qd.apart2 DH hev).more fun g hl h=>⟨hl,h.2⟩,(qo.apart2 (by rw [DG];decide) hev).more fun g hl h=>⟨hl,h.2⟩, ?_⟩;exact (qe.acc.low (by omega)).more fun g hl _=>by omega)
 have HRR:Hid (∀V,Sl yT (fun _=>True) V (.slice Xr 0 cr') sN.readies):=za (fun V=>by
  rw [FL];exact ⟨Xr,cr',rfl,r1,r2,fun h=>absurd rfl h⟩)
 clear qc qd qe qr qo HR4 hg5 hev r1 r2 e1 e2 qb;go_upto_region 36 with (fail)
 rename_i KT aT;have HK:=za aT;clear aT;go_wp2_with fail;refine HK.out _ _ (JB w _ gp B w5.heap.size (w5.heap.size+1) ge ce (.slice Ad nd cd) (.slice (some ⟨gc,oc,none⟩) 2 cc) (.slice Xc nc cc') (.slice Xd ne cd') (.slice Xr 0 cr') (.slice Xo no co') g19 o19 c19 g20 c20 HTB.out ?_ ?_ (by omega) ?_ HRR.out)
 ·have hgg:w5.grownBy ((w5.alloc (.cells (Fs (.slice Xc nc cc') (.slice Xd ne cd') (Zr ge ce) (.slice Xr 0 cr') (.slice Xo no co')) 82)).alloc (.cells (zIOz (.slice Xc nc cc') (.slice Xd ne cd') (Zr ge ce) (.slice Xr 0 cr') (.slice Xo no co')) 82)) none:=(gAl _ _ none).trans (gAl _ _ none);obtain ⟨h1,h2,h3,h4,h5,h6,h7,h8⟩:=HQ.out;exact ⟨HR5.out.n.f.kept hgg,⟨HR5.out.n.f.sz,h1,h2⟩,(Bk.new w5 _ _).alloc _,h3.kept hgg,h4.kept hgg,h5.kept hgg,h6.kept hgg,h7.kept hgg⟩
 ·have h:=Bk.new (w5.alloc (.cells (Fs (.slice Xc nc cc') (.slice Xd ne cd') (Zr ge ce) (.slice Xr 0 cr') (.slice Xo no co')) 82)) 82 (zIOz (.slice Xc nc cc') (.slice Xd ne cd') (Zr ge ce) (.slice Xr 0 cr') (.slice Xo no co'));rw [World.size_alloc] at h;exact h
 ·exact HQ.out.2.2.2.2.2.2.2.kept ((gAl w5 (.cells (Fs (.slice Xc nc cc') (.slice Xd ne cd') (Zr ge ce) (.slice Xr 0 cr') (.slice Xo no co')) 82) none).trans (gAl _ _ none))
end
section
open Go Go.RowKit Go.Shelf Go.Maps
attribute [local go_sem] Oper.semAt_some
theorem JD(w W:World)(gp B nd cd gc oc cc gA gM b21:Nat)(X1 X2 X3 X4 X5:Option Addr)(n1 n2 n3 n4 n5 c1 c2 c3 c4 c5 g18 o18 c18 g19 o19 c19 g20 c20:Nat)(Ad:Option Addr){u0 u1 u2 u3 u4 u8 u9 u10 u11 u12 u13 u14 u15 u17 u22 u23 u24 u25 u26 u27 u28 u29 u30 u31 u32 u33 u34 u35 u36 u37 u38 u39 u40 u41 u42 u43 u44 u45 u46 u47 u48 u49 u50 u51 u52 u53 u54 u55 u56 u57 u58 u59 u60 u61 u62 u63 u64 u65 u66 u67 u68 u69 u70 u71 u72 u73 u74 u75 u76 u77 u78 u79 u80 u81 u82 u83 u84 u85 u86 u87 u88 u89 u90 u91 u92 u93 u94 u95 u96 u97 u98 u99 u100 u101 u102 u103 u104 u105 u106 u107 u108 u109 u110 u111 u112 u113 u114 u115 u116 u117 u118 u119 u120 u121 u122 u123 u124 u125 u126 u127 u128 u129 u130 u131 u132 u133 u134 u135 u136 u137 u138 u139 u140 u141 u142 u143 u144 u145 u146 u147 u148 u149 u150 u151 u152 u153 u154 u155 u156 u157 u158 u159 u160 u161 u162 u163 u164 u165 u166 u167 u168 u169 u170 u171 u172 u173 u174 u175 u176 u177 u178 u179 u180 u181 u182 u183 u184 u185 u186 u187 u188 u189 u190 u191 u192 u193 u194 u195 u196 u197 u198 u199 u200 u201 u202 u203 u204 u205 u206 u207 u208 u209 u210 u211 u212 u213 u214 u215 u216 u217 u218 u219 u220 u221 u222 u223 u224 u225 u226 u227 u228 u229 u230 u231 u232 u233 u234 u235 u236 u237 u238 u239 u240 u241 u242 u243 u244 u245 u246 u247 u248 u249 u250 u251 u252 u253 u254 u255 u256 u257 u258 u259 u260 u261 u262 u263 u264 u265 u266 u267 u268 u269 u270 u271 u272 u273 u274 u275 u276 u277 u278 u279 u280 u281 u282 u283 u284 u285 u286 u287 u288 u289 u290 u291 u292 u293 u294 u295 u296 u297 u298 u299 u300 u301 u302 u303 u304 u305 u306 u307 u308 u309 u310 u311 u312 u313 u314 u315 u316 u317 u318 u319 u320 u321 u322 u323 u324 u325 u326 u327 u328 u329 u330 u331 u332 u333 u334 u335 u336 u337 u338 u339:Value}(hT:zK w)(hR:NmR w gp B (.slice Ad nd cd) (.slice (some ⟨gc,oc,none⟩) 2 cc) gA gM 0 b21 (.slice X1 n1 c1) (.slice X2 n2 c2) (.slice X3 n3 c3) (.slice X4 n4 c4) (.slice X5 n5 c5) (.slice (some ⟨g18,o18,none⟩) 24 c18) (.slice (some ⟨g19,o19,none⟩) 16 c19) (.slice (some ⟨g20,0,none⟩) 24 c20) W)(hc18:24≤c18):
  Code.wp Tryz.prog (UK 17 Tryz.f6.body) (NQ w) {tmps:= #[u0,u1,u2,u3,u4, .pointer (some ⟨gp,0,none⟩), .slice Ad nd cd, .slice (some ⟨gc,oc,none⟩) 2 cc,u8,u9,u10,u11,u12,u13,u14,u15, .pointer (some ⟨gA,0,none⟩),u17, .slice (some ⟨g18,o18,none⟩) 24 c18, .slice (some ⟨g19,o19,none⟩) 16 c19, .slice (some ⟨g20,0,none⟩) 24 c20, .pointer (some ⟨b21,0,none⟩),u22,u23,u24,u25,u26,u27,u28,u29,u30,u31,u32,u33,u34,u35,u36,u37,u38,u39,u40,u41,u42,u43,u44,u45,u46,u47,u48,u49,u50,u51,u52,u53,u54,u55,u56,u57,u58,u59,u60,u61,u62,u63,u64,u65,u66,u67,u68,u69,u70,u71,u72,u73,u74,u75,u76,u77,u78,u79,u80,u81,u82,u83,u84,u85,u86,u87,u88,u89,u90,u91,u92,u93,u94,u95,u96,u97,u98,u99,u100,u101,u102,u103,u104,u105,u106,u107,u108,u109,u110,u111,u112,u113,u114,u115,u116,u117,u118,u119,u120,u121,u122,u123,u124,u125,u126,u127,u128,u129,u130,u131,u132,u133,u134,u135,u136,u137,u138,u139,u140,u141,u142,u143,u144,u145,u146,u147,u148,u149,u150,u151,u152,u153,u154,u155,u156,u157,u158,u159,u160,u161,u162,u163,u164,u165,u166,u167,u168,u169,u170,u171,u172,u173,u174,u175,u176,u177,u178,u179,u180,u181,u182,u183,u184,u185,u186,u187,u188,u189,u190,u191,u192,u193,u194,u195,u196,u197,u198,u199,u200,u201,u202,u203,u204,u205,u206,u207,u208,u209,u210,u211,u212,u213,u214,u215,u216,u217,u218,u219,u220,u221,u222,u223,u224,u225,u226,u227,u228,u229,u230,u231,u232,u233,u234,u235,u236,u237,u238,u239,u240,u241,u242,u243,u244,u245,u246,u247,u248,u249,u250,u251,u252,u253,u254,u255,u256,u257,u258,u259,u260,u261,u262,u263,u264,u265,u266,u267,u268,u269,u270,u271,u272,u273,u274,u275,u276,u277,u278,u279,u280,u281,u282,u283,u284,u285,u286,u287,u288,u289,u290,u291,u292,u293,u294,u295,u296,u297,u298,u299,u300,u301,u302,u303,u304,u305,u306,u307,u308,u309,u310,u311,u312,u313,u314,u315,u316,u317,u318,u319,u320,u321,u322,u323,u324,u325,u326,u327,u328,u329,u330,u331,u332,u333,u334,u335,u336,u337,u338,u339],defers:= []} W:=by
 have HTB:=za hT;have HR9:=za hR;clear hT hR
 conv=>arg 2;whnf
 go_upto_region 27 with (fail)
 rename_i KR aR KL aL;have HK:=za aR;clear aR;have hc18I:(24:Int)≤(c18:Int):=by omega
 have hc181: ¬((c18:Int)≤1):=by omega
 have hc182: ¬(c18=1):=by omega
 have HGD:Hid (W.grownBy W.drew none):=za (zb W 1);have HQ:Hid (∀V,W.grownBy V none→ ∀o,V.cell? ⟨gp,o,none⟩=(p4.cells:Array Value)[o]?):=za (fun V hV=>(HR9.out.n.f.par.grown hV (by simp)).prule);have HNU:Hid (∀V,W.grownBy V none→Calls Tryz.prog 20 #[.agg #[.int .u8 7, .int .i64 0, .int .u8 1, .slice none 0 0],p4.v, .slice Ad nd cd, .int .i64 2] V fun e W'=> ∃v',e= .returned v'∧Sl ze (fun g=>V.heap.size≤g) W' v' (nD 2)∧V.grownBy W' none):=za (fun V hV=>(HR9.out.n.f.kept hV).nums 7 0 2 ⟨by decide,by decide⟩ ⟨by decide,by decide⟩ ⟨by decide,by decide⟩);refine Zf 33 ?_;refine mP0 (.slice (some ⟨g18,o18,none⟩) 24 c18) ?_;refine mP1 (.agg #[.int .u8 7, .int .i64 1, .slice (some ⟨g18,o18,none⟩) 24 c18]) 0 180 ?_;refine mP0 (.slice (some ⟨g20,0,none⟩) 24 c20) ?_;refine mP1 (.agg #[.int .u8 7, .int .i64 0, .slice (some ⟨g20,0,none⟩) 24 c20]) 2 182 ?_;refine mP0 (.slice (some ⟨g18,o18,none⟩) 24 c18) ?_;refine mP1 (.slice (some ⟨g18,o18+1,none⟩) 23 (c18 - 1)) 4 184 ?_;refine mP1 (.agg #[.int .u8 7, .int .i64 0, .slice (some ⟨g18,o18+1,none⟩) 23 (c18 - 1)]) 5 185 ?_;refine mP0 (.agg #[.int .u8 7, .int .i64 0, .slice none 0 0]) ?_;refine mP0 (.agg #[.int .u8 7, .int .i64 0, .int .u8 1, .slice none 0 0]) ?_;refine mQ0 (p4.v) (fun w' hw' K hK=> ?_) ?_
 ·have hc:=HQ.out w' (HGD.out.trans hw');go_simp;exact hK _ rfl rfl
 refine mP0 (.slice Ad nd cd) ?_;refine mN3 (Pv.sl ze (fun g=>W.drew.heap.size≤g) (nD 2)) 8 188 9 189 10 190 (fun w' hw' K hK=> ?_) ?_
 ·go_simp;refine (HNU.out w' (HGD.out.trans hw')).mono ?_;rintro e w3 ⟨v,rfl,hs3,hg3⟩;exact hK _ _ rfl (hs3.more fun g _ hg=>Nat.le_trans hw'.size hg) hg3
 refine mV (DO W.drew.heap.size) [(11,191)] (fun w' hw' x191 h191=>kD fun K hK=> ?_) ?_
 ·have h191:Sl ze (fun g=>W.drew.heap.size≤g) w' x191 (nD 2):=h191;obtain ⟨A191,n191,c191,e191⟩:=h191.shape;subst e191;go_simp;exact hK _ _ rfl ⟨_,rfl,h191⟩ gRf
 refine mP0 (.slice (some ⟨g19,o19,none⟩) 16 c19) ?_;refine mP1 (.agg #[.int .u8 8, .int .i64 0, .slice (some ⟨g19,o19,none⟩) 16 c19]) 13 193 ?_;refine mP0 (.slice (some ⟨g19,o19,none⟩) 16 c19) ?_;refine mP1 (.agg #[.int .u8 8, .int .i64 5, .slice (some ⟨g19,o19,none⟩) 16 c19]) 15 195 ?_;refine mP0 (.slice (some ⟨g19,o19,none⟩) 16 c19) ?_;refine mP1 (.agg #[.int .u8 8, .int .i64 (-3), .slice (some ⟨g19,o19,none⟩) 16 c19]) 17 197 ?_;refine mP0 (.slice (some ⟨g19,o19,none⟩) 16 c19) ?_;refine mP1 (.agg #[.int .u8 8, .int .i64 2, .slice (some ⟨g19,o19,none⟩) 16 c19]) 19 199 ?_;refine mP0 (.slice (some ⟨g18,o18,none⟩) 24 c18) ?_;refine mP1 (.agg #[.int .u8 8, .int .i64 3, .slice (some ⟨g18,o18,none⟩) 24 c18]) 21 201 ?_;refine mP0 (.agg #[.int .u8 8, .int .i64 3, .slice none 0 0]) ?_;refine mP0 (.slice (some ⟨g19,o19,none⟩) 16 c19) ?_;refine mP1 (.agg #[.int .u8 10, .int .i64 3, .slice (some ⟨g19,o19,none⟩) 16 c19]) 24 204 ?_;refine mP0 (.slice (some ⟨g18,o18,none⟩) 24 c18) ?_;refine mP1 (.agg #[.int .u8 11, .int .i64 0, .slice (some ⟨g18,o18,none⟩) 24 c18]) 26 206 ?_;refine mP0 (.slice (some ⟨g19,o19,none⟩) 16 c19) ?_;refine mP1 (.agg #[.int .u8 0, .int .i64 3, .slice (some ⟨g19,o19,none⟩) 16 c19]) 28 208 ?_;refine mV (DM W.drew.heap.size (.slice (some ⟨g18,o18,none⟩) 24 c18) (.slice (some ⟨g20,0,none⟩) 24 c20) (.slice (some ⟨g18,o18+1,none⟩) 23 (c18 - 1)) (.slice (some ⟨g19,o19,none⟩) 16 c19)) [(1,181),(3,183),(6,186),(7,187),(12,192),(14,194),(16,196),(18,198),(20,200),(22,202),(23,203),(25,205),(27,207),(29,209)] (fun w' hw'=>pQ (pQ (pQ (pQ (fun x192 h192=>pQ (pQ (pQ (pQ (pQ (pQ (pQ (pQ (pQ (kD fun K hK=> ?_)))))))))))))) ?_
 ·have h192: ∃y,x192= .agg #[.int .u8 7, .int .i64 0,y]∧Sl ze (fun g=>W.drew.heap.size≤g) w' y (nD 2):=h192;obtain ⟨y192,e192,k192⟩:=h192;subst e192;go_simp;exact hK _ _ rfl ⟨_,y192,rfl,hw'.size,k192.kept (gAl w' _ none),Bk.new w' _ _⟩ (gAl w' _ none)
 refine mS (.int .i64 14) [(30,210)] (fun w' hw' x210 h210=>kQ fun K hK=> ?_) ?_
 ·have h210: ∃g y,x210= .slice (some ⟨g,0,none⟩) 14 14∧W.drew.heap.size≤g∧Sl ze (fun g=>W.drew.heap.size≤g) w' y (nD 2)∧Bk w' g 92 (RH (.slice (some ⟨g18,o18,none⟩) 24 c18) (.slice (some ⟨g20,0,none⟩) 24 c20) (.slice (some ⟨g18,o18+1,none⟩) 23 (c18 - 1)) (.slice (some ⟨g19,o19,none⟩) 16 c19) y):=h210;obtain ⟨g210,y210,e210,k210,l210,m210⟩:=h210;subst e210;go_simp;exact hK _ rfl rfl
 refine mP0 (.int .i64 0) ?_;intro w10 hw10;intro y0 k0 y1 k1 y2 k2
 iterate 11 (refine pD ?_;intro _)
 intro y14 k14
 iterate 15 (refine pD ?_;intro _)
 intro y30 k30 y31 k31 y32 k32;obtain ⟨b14,y14,e30,hb14,hy14,kb14⟩: ∃g y,y30= .slice (some ⟨g,0,none⟩) 14 14∧W.drew.heap.size≤g∧Sl ze (fun g=>W.drew.heap.size≤g) w10 y (nD 2)∧Bk w10 g 92 (RH (.slice (some ⟨g18,o18,none⟩) 24 c18) (.slice (some ⟨g20,0,none⟩) 24 c20) (.slice (some ⟨g18,o18+1,none⟩) 23 (c18 - 1)) (.slice (some ⟨g19,o19,none⟩) 16 c19) y):=k30;have e31:y31= .int .i64 14:=k31;have e32:y32= .int .i64 0:=k32;subst e30 e31 e32;obtain ⟨P,hP⟩: ∃P:Nat→World→Prop,P=fun nn V=>NmL w gp B (.slice Ad nd cd) (.slice (some ⟨gc,oc,none⟩) 2 cc) gA gM nn b21 (.slice X1 n1 c1) (.slice X2 n2 c2) (.slice X3 n3 c3) (.slice X4 n4 c4) (.slice X5 n5 c5) (.slice (some ⟨g18,o18,none⟩) 24 c18) (.slice (some ⟨g19,o19,none⟩) 16 c19) (.slice (some ⟨g20,0,none⟩) 24 c20) (.slice (some ⟨g18,o18+1,none⟩) 23 (c18 - 1)) b14 y14 V:=⟨_,rfl⟩
 have HP:Hid (NmP gA gM b21 b14 (.slice X1 n1 c1) (.slice X2 n2 c2) (.slice X3 n3 c3) (.slice X4 n4 c4) (.slice X5 n5 c5) P):=za (by rw [hP];exact NmP.new _ _ _ _ _ _ _ _ _ _ _ _ _ _ _ _ _ _ _);have HP0:Hid (P 0 w10):=za (by
  have hr:=HR9.out.kept (HGD.out.trans hw10);have hd:=hr.s18.drop 1 (by rw [Zm];decide);rw [hP];exact ⟨hr,HR9.out.n.off hb14,kb14,hd,hy14.more fun g _ hg=>HR9.out.n.off hg⟩)
 have HPE:Hid (∀n V,P n V→NmR w gp B (.slice Ad nd cd) (.slice (some ⟨gc,oc,none⟩) 2 cc) gA gM n b21 (.slice X1 n1 c1) (.slice X2 n2 c2) (.slice X3 n3 c3) (.slice X4 n4 c4) (.slice X5 n5 c5) (.slice (some ⟨g18,o18,none⟩) 24 c18) (.slice (some ⟨g19,o19,none⟩) 16 c19) (.slice (some ⟨g20,0,none⟩) 24 c20) V):=za (by rw [hP];exact fun n V h=>h.r);clear k0 k1 k2 k14 hw10 hy14 hb14 kb14 HQ HNU HGD HR9 hP hc18I hc181 hc182;refine Eq.mpr rfl (show wpList Tryz.prog _ _ _ _ w10 from ?_);refine wpList_nil ?_;simp only [Act.put,sAa,sAb,sAc];go_wp2_with fail;go_loopg [23,212] 14 (fun g s23 s212 wx=> ∃j:Nat,j+g=14∧s212= .int .i64 j∧Hid (P (3*j) wx))
 case atStart=>exact ⟨0,by omega,rfl,HP0⟩
 case round=>
  rename World=>wr
  obtain ⟨j,hj,rfl,HX⟩:=hrel;rcases Nat.eq_zero_or_pos gk with hg0|hg0
  ·obtain rfl:j=14:=by omega
   have HF7:Hid (NmR w gp B (.slice Ad nd cd) (.slice (some ⟨gc,oc,none⟩) 2 cc) gA gM 42 b21 (.slice X1 n1 c1) (.slice X2 n2 c2) (.slice X3 n3 c3) (.slice X4 n4 c4) (.slice X5 n5 c5) (.slice (some ⟨g18,o18,none⟩) 24 c18) (.slice (some ⟨g19,o19,none⟩) 16 c19) (.slice (some ⟨g20,0,none⟩) 24 c20) wr):=za (HPE.out _ _ HX.out);clear HX hg0 HPE HP HP0;go_wp2_with fail;exact HK.out _ _ (JC w wr gp B nd cd gc oc cc gA gM g18 o18 c18 g19 o19 c19 g20 c20 Ad HTB.out ⟨HF7.out.n,HF7.out.s18,HF7.out.s19,HF7.out.s20⟩)
  ·have hj14:j< 14:=by omega
   have hjI:(j:Int)< 14:=by omega
   obtain ⟨kind,i,A,m,c,c0,c1',c2',htk⟩:=HP.out.row (3*j) wr j HX.out (by omega) hj14;have HTK:=za htk;have e0:wr.cell? ⟨b14,j*3,none⟩=some (.int .u8 kind):=(congrArg (fun o=>wr.cell? ⟨b14,o,none⟩) (by omega)).trans c0;have e1:wr.cell? ⟨b14,j*3+1,none⟩=some (.int .i64 i):=(congrArg (fun o=>wr.cell? ⟨b14,o,none⟩) (by omega)).trans c1';have e2:wr.cell? ⟨b14,j*3+2,none⟩=some (.slice A m c):=(congrArg (fun o=>wr.cell? ⟨b14,o,none⟩) (by omega)).trans c2';obtain ⟨wx,hwx⟩: ∃y,y=wr.alloc (.cells #[.int .u8 kind, .int .i64 i, .slice A m c] 92):=⟨_,rfl⟩;have hgx:wr.grownBy wx none:=by rw [hwx];exact gAl _ _ none
   have HBX:Hid (Bk wx wr.heap.size 92 #[.int .u8 kind, .int .i64 i, .slice A m c]∧P (3*j) wx∧wr.grownBy wx none∧Off gA gM wr.heap.size):=za ⟨by rw [hwx];exact Bk.new _ _ _,HP.out.kept _ _ _ HX.out hgx,hgx,HP.out.off _ _ _ HX.out (Nat.le_refl _)⟩;clear c0 c1' c2' htk HX hgx hj14;go_upto_region 30 with (fail)
   rw [←hwx];clear hwx e0 e1 e2;have HGD:Hid (wx.grownBy wx.drew none):=za (zb wx 1);obtain ⟨CS,hCS⟩: ∃y:Array Value,y= #[.int .u8 kind, .int .i64 i, .slice A m c]:=⟨_,rfl⟩;have HCS:Hid (∀V,Bk V wr.heap.size 92 CS→ ∀o,V.cell? ⟨wr.heap.size,o,none⟩=(#[.int .u8 kind, .int .i64 i, .slice A m c]:Array Value)[o]?):=za (by rw [hCS];exact fun V h=>h.rule);have HC0:Hid ((Hn wr gA gM P HP.out.kept (3*j) wr.heap.size 92 CS).C [] wx.drew):=za ⟨by rw [hCS];exact HBX.out.1.grown HGD.out (by simp), .inl ⟨rfl,HP.out.kept _ _ _ HBX.out.2.1 HGD.out,HBX.out.2.2.1.trans HGD.out⟩⟩;clear hCS;refine wp_region_late (Hn wr gA gM P HP.out.kept (3*j) wr.heap.size 92 CS) [7] 18 (by kernel_rfl) (by kernel_rfl) (by kernel_rfl) HC0.out ?_;refine lS (.pointer (some ⟨gA,0,none⟩)) [] (fun vs w' hC=>lQ fun K hK=> ?_) ?_
   ·go_simp;exact hK _ rfl rfl
   refine lS (.pointer (some ⟨wr.heap.size,0,none⟩)) [] (fun vs w' hC=>lQ fun K hK=> ?_) ?_
   ·go_simp;exact hK _ rfl rfl
   refine lS (.int .u8 kind) [(1,217)] (fun vs w' hC=>pQ (lQ fun K hK=> ?_)) ?_
   ·have hr:=HCS.out w' hC.1;go_simp;exact hK _ rfl rfl
   refine lS (.pointer (some ⟨wr.heap.size,1,none⟩)) [] (fun vs w' hC=>lQ fun K hK=> ?_) ?_
   ·go_simp;exact hK _ rfl rfl
   refine lS (.int .i64 i) [(3,219)] (fun vs w' hC=>pQ (lQ fun K hK=> ?_)) ?_
   ·have hr:=HCS.out w' hC.1;go_simp;exact hK _ rfl rfl
   refine lS (.pointer (some ⟨wr.heap.size,2,none⟩)) [] (fun vs w' hC=>lQ fun K hK=> ?_) ?_
   ·go_simp;exact hK _ rfl rfl
   refine lS (.slice A m c) [(5,221)] (fun vs w' hC=>pQ (lQ fun K hK=> ?_)) ?_
   ·have hr:=HCS.out w' hC.1;go_simp;exact hK _ rfl rfl
   refine LateR.turn 0 [(0,216),(2,218),(4,220),(6,222)] (by kernel_rfl) rfl (fun vs w' hl hC=> ?_) ?_
   ·intro x216 h216;intro x218 h218;intro x220 h220;intro x222 h222;have e216:x216= .pointer (some ⟨gA,0,none⟩):=h216;clear h216;subst e216;have e218:x218= .int .u8 kind:=h218;clear h218;subst e218;have e220:x220= .int .i64 i:=h220;clear h220;subst e220;have e222:x222= .slice A m c:=h222;clear h222;subst e222;refine askl_do rfl fun K hK=> ?_
    obtain rfl:vs= []:=List.eq_nil_of_length_eq_zero hl;obtain ⟨hb,hp,hgr⟩:=JH hC;go_simp;refine (HTK.out w' hgr).mono ?_;rintro e w3 ⟨A',c',rfl,k1,k2⟩;exact hK _ _ rfl ⟨k2,hb.keep2 k2 HBX.out.2.2.2.1 HBX.out.2.2.2.2, .inr ⟨A',c',rfl,k1⟩⟩
   refine lS (.int .i64 0) [(7,223)] (fun vs w' hC x223 h223=>lQ fun K hK=> ?_) ?_
   ·obtain ⟨A',c',e⟩:=MU hC h223;subst e;go_simp;exact hK _ rfl rfl
   refine lS (.bool false) [(8,224)] (fun vs w' hC=>pQ (lQ fun K hK=> ?_)) ?_
   ·go_simp;exact hK _ rfl rfl
   refine lS (.bool false) [(9,225)] (fun vs w' hC=>pQ (lQ fun K hK=> ?_)) ?_
   ·go_simp;exact hK _ rfl rfl
   refine lS (.pointer (some ⟨gA,0,none⟩)) [(10,226)] (fun vs w' hC=>pQ (lR fun K hK=> ?_)) ?_
   ·go_simp;exact hK _ rfl rfl
   refine lV (nmS wr gA gM P HP.out.kept (3*j) wr.heap.size 92 CS) [(10,226),(11,227)] (fun vs w' hC=>pQ (pQ (lE fun K hK=> ?_))) ?_
   ·obtain ⟨n',hn'⟩:=Vg hC;go_simp;refine (HP.out.state n' w' hn').mono ?_;rintro e w3 ⟨v,rfl,hs,hg⟩;exact hK _ _ rfl ⟨hs,hg⟩
   refine lV (nmS wr gA gM P HP.out.kept (3*j) wr.heap.size 92 CS) [(10,226),(12,228)] (fun vs w' hC=>pQ (fun x228 h228=>lE fun K hK=> ?_)) ?_
   ·have h228:xT (Off gA gM) w' x228 s0N:=h228;obtain ⟨n',hn'⟩:=Vg hC;go_simp;refine (HP.out.given n' w' x228 hn' h228).mono ?_;rintro e w3 ⟨v,rfl,hs,hg⟩;exact hK _ _ rfl ⟨hs,hg⟩
   refine lS (.agg #[.int .i64 2, .int .i64 1, .slice X1 n1 c1, .slice X2 n2 c2, .slice X3 n3 c3, .slice X4 n4 c4, .slice X5 n5 c5, .bool false]) [(10,226)] (fun vs w' hC=>pQ (lR fun K hK=> ?_)) ?_
   ·obtain ⟨n',hn'⟩:=Vg hC;have hr:=(HP.out.was n' w' hn').1;go_simp;exact hK _ rfl rfl
   refine lS (.bool true) [(10,226),(13,229),(14,230)] (fun vs w' hC=>pQ (fun x229 h229=>pQ (lE fun K hK=> ?_))) ?_
   ·have h229:xT (Off gA gM) w' x229 s0N:=h229;obtain ⟨n',hn'⟩:=Vg hC;go_simp;refine (Yz x229 _ s0N _ _ w' h229 (HP.out.was n' w' hn').2).mono ?_;rintro e w3 ⟨rfl,hg⟩;exact hK _ _ rfl ⟨rfl,hg⟩
   refine lS (.bool false) [(10,226),(15,231)] (fun vs w' hC=>pQ (pQ (lR fun K hK=> ?_))) ?_
   ·go_simp;exact hK _ rfl rfl
   refine lS (.bool false) [(10,226),(16,232)] (fun vs w' hC=>pQ (pQ (lQ fun K hK=> ?_))) ?_
   ·go_simp;exact hK _ rfl rfl
   intro vs w5 hvl hC5
   iterate 17 (refine pD ?_;intro _)
   intro y17 k17;have e17:y17= .bool false:=k17;subst e17;have HFIN:Hid (P (3*(j+1)) w5):=za (JG hC5 hvl);clear hvl hC5 HC0 HCS HBX HTK HGD;refine Eq.mpr rfl (show wpList Tryz.prog _ _ _ _ w5 from ?_);refine wpList_nil ?_;simp only [Act.put,sAa,sAb,sAc];go_wp2_with fail;go_roundg (gk - 1)
   case measure=>omega
   case rel=>exact ⟨j+1,by omega,by go_num,HFIN⟩
end
section
open Go Go.RowKit Go.Shelf Go.Maps
attribute [local go_sem] Oper.semAt_some
theorem JE(w W:World)(gp B nd cd gc oc cc:Nat)(Ad:Option Addr){u0 u1 u2 u3 u4 u8 u9 u10 u11 u12 u13 u14 u15 u16 u17 u18 u19 u20 u21 u22 u23 u24 u25 u26 u27 u28 u29 u30 u31 u32 u33 u34 u35 u36 u37 u38 u39 u40 u41 u42 u43 u44 u45 u46 u47 u48 u49 u50 u51 u52 u53 u54 u55 u56 u57 u58 u59 u60 u61 u62 u63 u64 u65 u66 u67 u68 u69 u70 u71 u72 u73 u74 u75 u76 u77 u78 u79 u80 u81 u82 u83 u84 u85 u86 u87 u88 u89 u90 u91 u92 u93 u94 u95 u96 u97 u98 u99 u100 u101 u102 u103 u104 u105 u106 u107 u108 u109 u110 u111 u112 u113 u114 u115 u116 u117 u118 u119 u120 u121 u122 u123 u124 u125 u126 u127 u128 u129 u130 u131 u132 u133 u134 u135 u136 u137 u138 u139 u140 u141 u142 u143 u144 u145 u146 u147 u148 u149 u150 u151 u152 u153 u154 u155 u156 u157 u158 u159 u160 u161 u162 u163 u164 u165 u166 u167 u168 u169 u170 u171 u172 u173 u174 u175 u176 u177 u178 u179 u180 u181 u182 u183 u184 u185 u186 u187 u188 u189 u190 u191 u192 u193 u194 u195 u196 u197 u198 u199 u200 u201 u202 u203 u204 u205 u206 u207 u208 u209 u210 u211 u212 u213 u214 u215 u216 u217 u218 u219 u220 u221 u222 u223 u224 u225 u226 u227 u228 u229 u230 u231 u232 u233 u234 u235 u236 u237 u238 u239 u240 u241 u242 u243 u244 u245 u246 u247 u248 u249 u250 u251 u252 u253 u254 u255 u256 u257 u258 u259 u260 u261 u262 u263 u264 u265 u266 u267 u268 u269 u270 u271 u272 u273 u274 u275 u276 u277 u278 u279 u280 u281 u282 u283 u284 u285 u286 u287 u288 u289 u290 u291 u292 u293 u294 u295 u296 u297 u298 u299 u300 u301 u302 u303 u304 u305 u306 u307 u308 u309 u310 u311 u312 u313 u314 u315 u316 u317 u318 u319 u320 u321 u322 u323 u324 u325 u326 u327 u328 u329 u330 u331 u332 u333 u334 u335 u336 u337 u338 u339:Value}(hT:zK w)(hf:AwF w gp B (.slice Ad nd cd) (.slice (some ⟨gc,oc,none⟩) 2 cc) W):
  Code.wp Tryz.prog (UK 10 Tryz.f6.body) (NQ w) {tmps:= #[u0,u1,u2,u3,u4, .pointer (some ⟨gp,0,none⟩), .slice Ad nd cd, .slice (some ⟨gc,oc,none⟩) 2 cc,u8,u9,u10,u11,u12,u13,u14,u15,u16,u17,u18,u19,u20,u21,u22,u23,u24,u25,u26,u27,u28,u29,u30,u31,u32,u33,u34,u35,u36,u37,u38,u39,u40,u41,u42,u43,u44,u45,u46,u47,u48,u49,u50,u51,u52,u53,u54,u55,u56,u57,u58,u59,u60,u61,u62,u63,u64,u65,u66,u67,u68,u69,u70,u71,u72,u73,u74,u75,u76,u77,u78,u79,u80,u81,u82,u83,u84,u85,u86,u87,u88,u89,u90,u91,u92,u93,u94,u95,u96,u97,u98,u99,u100,u101,u102,u103,u104,u105,u106,u107,u108,u109,u110,u111,u112,u113,u114,u115,u116,u117,u118,u119,u120,u121,u122,u123,u124,u125,u126,u127,u128,u129,u130,u131,u132,u133,u134,u135,u136,u137,u138,u139,u140,u141,u142,u143,u144,u145,u146,u147,u148,u149,u150,u151,u152,u153,u154,u155,u156,u157,u158,u159,u160,u161,u162,u163,u164,u165,u166,u167,u168,u169,u170,u171,u172,u173,u174,u175,u176,u177,u178,u179,u180,u181,u182,u183,u184,u185,u186,u187,u188,u189,u190,u191,u192,u193,u194,u195,u196,u197,u198,u199,u200,u201,u202,u203,u204,u205,u206,u207,u208,u209,u210,u211,u212,u213,u214,u215,u216,u217,u218,u219,u220,u221,u222,u223,u224,u225,u226,u227,u228,u229,u230,u231,u232,u233,u234,u235,u236,u237,u238,u239,u240,u241,u242,u243,u244,u245,u246,u247,u248,u249,u250,u251,u252,u253,u254,u255,u256,u257,u258,u259,u260,u261,u262,u263,u264,u265,u266,u267,u268,u269,u270,u271,u272,u273,u274,u275,u276,u277,u278,u279,u280,u281,u282,u283,u284,u285,u286,u287,u288,u289,u290,u291,u292,u293,u294,u295,u296,u297,u298,u299,u300,u301,u302,u303,u304,u305,u306,u307,u308,u309,u310,u311,u312,u313,u314,u315,u316,u317,u318,u319,u320,u321,u322,u323,u324,u325,u326,u327,u328,u329,u330,u331,u332,u333,u334,u335,u336,u337,u338,u339],defers:= []} W:=by
 have HTB:=za hT;have hp:=hf.par.prule;have HNW:=za (NmW.new hf (hT.kept hf.g));clear hT hf
 conv=>arg 2;whnf
 go_wp2_with fail;refine HNW.out.mono ?_;rintro e w1 ⟨gA,gM,rfl,hn1,hg1⟩;have HN1:=za hn1;have hp1:=hn1.f.par.prule;clear hp HNW hn1 hg1;go_wp2_with fail;refine (HN1.out.f.nums 7 0 1 ⟨by decide,by decide⟩ ⟨by decide,by decide⟩ ⟨by decide,by decide⟩).mono ?_;rintro e w2 ⟨v18,rfl,hs18,hg2⟩;have HN2:=za (HN1.out.kept hg2);have HS18:Hid (Sl ze (Off gA gM) w2 v18 yp):=za (hs18.more fun g _ hg=>HN1.out.off hg);have hp2:=HN2.out.f.par.prule;clear hp1 hs18 hg2;go_wp2_with fail;refine (HN2.out.f.nums 8 3 1 ⟨by decide,by decide⟩ ⟨by decide,by decide⟩ ⟨by decide,by decide⟩).mono ?_;rintro e w3 ⟨v19,rfl,hs19,hg3⟩;have HN3:=za (HN2.out.kept hg3);have HS19:Hid (Sl ze (Off gA gM) w3 v19 xr):=za (hs19.more fun g _ hg=>HN2.out.off hg);have HS18b:=za (HS18.out.kept hg3);obtain ⟨A18,c18,e18,hc18,_⟩:=HS18.out.form;rw [Zm] at e18 hc18;subst e18;obtain ⟨g18,o18,rfl, -, -⟩:=HS18.out.addr (by rw [Zm];decide);obtain ⟨A19,c19,e19,hc19,_⟩:=HS19.out.form;rw [Lu] at e19;subst e19;obtain ⟨g19,o19,rfl, -, -⟩:=HS19.out.addr (by rw [Lu];decide);clear hp2 hs19 hg3 HS18 hc19;have HRB:Hid (yp.length*8≤140737488355328):=za (by rw [Zm];decide);go_wp2_with (at_builtin;refine Rb rfl (.tmp 159) (.tmp 160) rfl (E:=ze) (Y:=fun g=>w3.heap.size≤g) (ys:=yp) xd rfl rfl HS18b.out HRB.out (fun _ h=>h) (fun _ _ _ h=>h) ?_);intro A20 c20 w4 hacc20 hg4;obtain ⟨g20,c20',cur,e20,hgb,hcc,hbk,hks,hcell,hset⟩:=hacc20.setU 23 (by rw [Zm];decide);rw [MD] at hcell;rw [Zm] at e20 hcc ⊢;injection e20 with e20a e20b e20c
 subst e20a e20c;have HSET:Hid (∀W,w4.grownBy W none→W.cell? ⟨g20,23,none⟩=some (.int .u64 9)∧(∀i,W.frozen? ⟨g20,i,none⟩=false)∧Sl ze (fun g=>w3.heap.size≤g) (W.setCell ⟨g20,23,none⟩ (.int .u64 10)) (.slice (some ⟨g20,0,none⟩) 24 c20) xA):=za (fun W hW=>by
  obtain ⟨g',c',cur',e',_,_,hbk',_,hcell',hset'⟩:=(hacc20.kept hW).setU 23 (by rw [Zm];decide);rw [Zm] at e';injection e' with ea eb ec
  injection ea with ea
  injection ea with ea
  subst ea ec;rw [MD] at hcell';refine ⟨hcell',hbk'.free, ?_⟩;have h2:=hset' 10 ⟨by decide,by decide⟩;rw [KF,Zm] at h2;exact h2)
 have HN4:=za (HN3.out.kept hg4);have HGD:Hid (w4.grownBy w4.drew none):=za (zb w4 1);have HG4:Hid (w3.grownBy w4 none):=za hg4;have HQ:Hid (∀W,w4.grownBy W none→ ∀o,W.cell? ⟨gp,o,none⟩=(p4.cells:Array Value)[o]?):=za (fun W hW=>(HN4.out.f.par.grown hW (by simp)).prule);have HG20:Hid (w3.heap.size≤g20):=za hgb;have hcI:(24:Int)≤(c20:Int):=by omega
 clear hacc20 hg4 hcell hset hbk hks hcc e20b hgb;go_upto_region 25 with (fail)
 refine Zf 15 ?_;refine mP0 (.slice (some ⟨g20,0,none⟩) 24 c20) ?_;refine mP0 (.slice (some ⟨g20,0,none⟩) 24 c20) ?_;refine mP1 (.int .i64 24) 1 163 ?_;refine mP1 (.int .i64 23) 2 164 ?_ (hA:=by intro w;go_simp;rfl);refine mP0 (.slice (some ⟨g20,0,none⟩) 24 c20) ?_;refine mP0 (.slice (some ⟨g20,0,none⟩) 24 c20) ?_;refine mP1 (.int .i64 24) 5 167 ?_;refine mP1 (.int .i64 23) 6 168 ?_ (hA:=by intro w;go_simp;rfl);refine mP2 (.pointer (some ⟨g20,23,none⟩)) 4 166 7 169 ?_;refine mQ1 (.int .u64 9) 8 170 (fun w' hw' K hK=> ?_) ?_
 ·have hc:=(HSET.out w' (HGD.out.trans hw')).1;go_simp;exact hK _ rfl rfl
 refine mP1 (.int .u64 10) 9 171 ?_ (hA:=by intro w;go_simp;rfl);refine mP0 (.pointer (some ⟨gp,1,none⟩)) ?_;refine mQ1 (.int .u64 11) 11 173 (fun w' hw' K hK=> ?_) ?_
 ·have hc:=HQ.out w' (HGD.out.trans hw');go_simp;exact hK _ rfl rfl
 refine mP2 (.int .u64 10) 10 172 12 174 ?_;refine mP2 (.pointer (some ⟨g20,23,none⟩)) 0 162 3 165 ?_;intro w5 hw5
 iterate 13 (refine pD ?_;intro _)
 intro y13 k13 y14 k14;have e14:y14= .pointer (some ⟨g20,23,none⟩):=k14;have e13:y13= .int .u64 10:=k13;subst e13 e14;obtain ⟨hc5,hf5,hs5⟩:=HSET.out w5 (HGD.out.trans hw5);obtain ⟨w6,hw6⟩: ∃y,y=w5.setCell ⟨g20,23,none⟩ (.int .u64 10):=⟨_,rfl⟩;rw [←hw6] at hs5;have hg36:w3.grownBy w6 none:=zB (HG4.out.trans (HGD.out.trans hw5)) (by rw [hw6];exact zi w5 g20 23 (.int .u64 10)) (fun b e=>by injection e with e;have:=HG20.out;omega);have HN6:=za (HN3.out.kept hg36);have HS6:Hid (Sl ze (Off gA gM) w6 (.slice (some ⟨g18,o18,none⟩) 24 c18) yp∧Sl ze (Off gA gM) w6 (.slice (some ⟨g19,o19,none⟩) 16 c19) xr∧Sl ze (Off gA gM) w6 (.slice (some ⟨g20,0,none⟩) 24 c20) xA):=za ⟨by have h:=HS18b.out.kept hg36;exact h,HS19.out.kept hg36,hs5.more fun g _ hg=>HN3.out.off hg⟩;clear hs5 hw5 hg36 HSET HQ HG4 HG20 HGD HN4;refine Eq.mpr rfl (show wpList Tryz.prog _ _ _ _ w5 from ?_);simp only [Act.put,sAa,sAb,sAc];go_wp2_with fail;rw [←hw6];clear hw6 hc5 hf5;refine HN6.out.state.mono ?_;rintro e w7 ⟨v7,rfl,hs7,hg7⟩;have HN7:=za (HN6.out.kept hg7);have HGV:=za (RY HN7.out hs7 (by rw [show xL (EW 0) ASt.start=s0N from rfl,Dn];decide) (by rw [show xL (EW 0) ASt.start=s0N from rfl,Dm];decide));have HG67:=za hg7;obtain ⟨b1,b2,b3,b4,b5,rfl, -⟩:=hs7;clear hg7;go_wp2_with fail;refine HGV.out.mono ?_;rintro e w8 ⟨v8,rfl,hs8,hg8⟩;have HS8:Hid (xT (Off gA gM) w8 v8 s0N):=za hs8;have hs8:xT (Off gA gM) w8 v8 s0N:=hs8;obtain ⟨a1,a2,a3,a4,a5,e8,t1,t2,t3,t4,t5⟩:=hs8;rw [FN.1,FN.2.1,FN.2.2] at e8;subst e8;obtain ⟨X1,n1,c1,rfl⟩:=t1.shape
 obtain ⟨X2,n2,c2,rfl⟩:=t2.shape;obtain ⟨X3,n3,c3,rfl⟩:=t3.shape;obtain ⟨X4,n4,c4,rfl⟩:=t4.shape;obtain ⟨X5,n5,c5,rfl⟩:=t5.shape;have HG68:=za (HG67.out.trans hg8);clear hg8 t1 t2 t3 t4 t5 HGV HG67;rename_i KT aT KV aV;have HK:=za aT;clear aT;go_wp2_with fail;obtain ⟨w9,hw9⟩: ∃y,y=w8.alloc (.cells #[.int .i64 2, .int .i64 1, .slice X1 n1 c1, .slice X2 n2 c2, .slice X3 n3 c3, .slice X4 n4 c4, .slice X5 n5 c5, .bool false] 78):=⟨_,rfl⟩;have hg89:w8.grownBy w9 none:=by rw [hw9];exact gAl _ _ none
 have HR9:Hid (NmR w gp B (.slice Ad nd cd) (.slice (some ⟨gc,oc,none⟩) 2 cc) gA gM 0 w8.heap.size (.slice X1 n1 c1) (.slice X2 n2 c2) (.slice X3 n3 c3) (.slice X4 n4 c4) (.slice X5 n5 c5) (.slice (some ⟨g18,o18,none⟩) 24 c18) (.slice (some ⟨g19,o19,none⟩) 16 c19) (.slice (some ⟨g20,0,none⟩) 24 c20) w9):=za (by
  have hg69:=HG68.out.trans hg89;have hn8:=HN6.out.kept HG68.out;refine ⟨HN6.out.kept hg69,HS6.out.1.kept hg69,HS6.out.2.1.kept hg69,HS6.out.2.2.kept hg69,hn8.off (Nat.le_refl _),by rw [hw9];exact Bk.new _ _ _, ?_⟩;have h:=HS8.out.kept hg89;exact h)
 rw [←hw9];clear hw9 HN1 HN2 HN3 HN6 HN7 HS6 HS8 HG68 HS18b HS19 hg89 HRB;exact HK.out _ _ (JD w w9 gp B nd cd gc oc cc gA gM w8.heap.size X1 X2 X3 X4 X5 n1 n2 n3 n4 n5 c1 c2 c3 c4 c5 g18 o18 c18 g19 o19 c19 g20 c20 Ad HTB.out HR9.out hc18)
end
section
open Go Go.RowKit Go.Shelf Go.Maps
def JI(a b:Value):Array Value:= #[.int .u64 23, .int .u64 11, .int .u64 5, .int .u64 9, .int .i64 4, .int .i64 4, .int .i64 1, .int .i64 1, .int .i64 1, .int .i64 1, .int .i64 1, .int .i64 1, .int .i64 2, .int .i64 1,a, .int .u64 23, .int .u64 11, .int .u64 4, .int .u64 9, .int .i64 4, .int .i64 4, .int .i64 1, .int .i64 1, .int .i64 1, .int .i64 1, .int .i64 1, .int .i64 1, .int .i64 0, .int .i64 1,a, .int .u64 23, .int .u64 11, .int .u64 4, .int .u64 9, .int .i64 4, .int .i64 4, .int .i64 1, .int .i64 1, .int .i64 1, .int .i64 1, .int .i64 1, .int .i64 1, .int .i64 5, .int .i64 1,a, .int .u64 23, .int .u64 11, .int .u64 4, .int .u64 9, .int .i64 4, .int .i64 4, .int .i64 1, .int .i64 1, .int .i64 1, .int .i64 1, .int .i64 1, .int .i64 1, .int .i64 2, .int .i64 0,a, .int .u64 23, .int .u64 11, .int .u64 4, .int .u64 9, .int .i64 4, .int .i64 4, .int .i64 1, .int .i64 1, .int .i64 1, .int .i64 1, .int .i64 1, .int .i64 1, .int .i64 2, .int .i64 5,a, .int .u64 23, .int .u64 11, .int .u64 4, .int .u64 9, .int .i64 4, .int .i64 4, .int .i64 1, .int .i64 1, .int .i64 1, .int .i64 1, .int .i64 1, .int .i64 1, .int .i64 (-1), .int .i64 1,a, .int .u64 23, .int .u64 11, .int .u64 4, .int .u64 9, .int .i64 4, .int .i64 4, .int .i64 1, .int .i64 1, .int .i64 1, .int .i64 1, .int .i64 1, .int .i64 1, .int .i64 2, .int .i64 1, .slice none 0 0, .int .u64 23, .int .u64 11, .int .u64 4, .int .u64 9, .int .i64 4, .int .i64 4, .int .i64 1, .int .i64 1, .int .i64 1, .int .i64 1, .int .i64 1, .int .i64 1, .int .i64 2, .int .i64 1,b, .int .u64 0, .int .u64 0, .int .u64 0, .int .u64 0, .int .i64 0, .int .i64 0, .int .i64 0, .int .i64 0, .int .i64 0, .int .i64 0, .int .i64 0, .int .i64 0, .int .i64 1, .int .i64 1, .slice none 0 0]
def DN(N:Nat)(a b:Value):Pv:=⟨fun v w=> ∃g,v= .slice (some ⟨g,0,none⟩) 9 9∧N≤g∧Bk w g 89 (JI a b),fun ⟨g,h1,h2,h3⟩ hg=>⟨g,h1,h2,h3.grown hg (by simp)⟩⟩
def Pf(E:zw)(v:Value):Array Value:= #[.int .u64 E.p.P, .int .u64 E.p.Q, .int .u64 E.p.G, .int .u64 E.p.H, .int .i64 E.p.Nodes, .int .i64 E.p.N, .int .i64 E.p.T, .int .i64 E.p.K, .int .i64 E.p.D, .int .i64 E.p.R, .int .i64 E.p.M, .int .i64 E.p.X, .int .i64 E.dealer, .int .i64 E.me,v]
theorem ZM{W:World}{b9:Nat}{t:TypeId}{a r:Array Value}{j:Nat}(hb:Bk W b9 t a)(e:(a.toList.drop (15*j)).take 15=r.toList){k:Nat}{u:Value}(hk:r[k]? =some u):W.cell? ⟨b9,15*j+k,none⟩=some u:=by
 rw [hb.cell, ←Array.getElem?_toList];rw [←Array.getElem?_toList, ←e,List.getElem?_take] at hk;split at hk
 ·rw [List.getElem?_drop] at hk;exact hk
 ·exact absurd hk (by simp)
theorem GQ{W:World}{b9 gc oc cc B:Nat}(hb:Bk W b9 89 (JI (.slice (some ⟨gc,oc,none⟩) 2 cc) (.slice (some ⟨gc,oc,none⟩) 1 cc)))(hc:Sl (zh ze) (fun g=>g< B) W (.slice (some ⟨gc,oc,none⟩) 2 cc) CM5)(j:Nat)(hj:j< 9):
  ∃E v,Xn E=false∧E.p.ok∧I64 E.dealer∧I64 E.me∧Sl (zh ze) (fun g=>g< B) W v E.coms∧ ∀k u,(Pf E v)[k]? =some u→W.cell? ⟨b9,15*j+k,none⟩=some u:=by
 have hcase:j=0∨j=1∨j=2∨j=3∨j=4∨j=5∨j=6∨j=7∨j=8:=by omega
 rcases hcase with rfl|rfl|rfl|rfl|rfl|rfl|rfl|rfl|rfl
 ·exact ⟨E0, .slice (some ⟨gc,oc,none⟩) 2 cc,en0,Hi,⟨by decide,by decide⟩,⟨by decide,by decide⟩,hc,fun k u hk=>ZM hb (by kernel_rfl) hk⟩
 ·exact ⟨E1, .slice (some ⟨gc,oc,none⟩) 2 cc,en1,(xN false),⟨by decide,by decide⟩,⟨by decide,by decide⟩,hc,fun k u hk=>ZM hb (by kernel_rfl) hk⟩
 ·exact ⟨E2, .slice (some ⟨gc,oc,none⟩) 2 cc,en2,(xN false),⟨by decide,by decide⟩,⟨by decide,by decide⟩,hc,fun k u hk=>ZM hb (by kernel_rfl) hk⟩
 ·exact ⟨E3, .slice (some ⟨gc,oc,none⟩) 2 cc,en3,(xN false),⟨by decide,by decide⟩,⟨by decide,by decide⟩,hc,fun k u hk=>ZM hb (by kernel_rfl) hk⟩
 ·exact ⟨E4, .slice (some ⟨gc,oc,none⟩) 2 cc,en4,(xN false),⟨by decide,by decide⟩,⟨by decide,by decide⟩,hc,fun k u hk=>ZM hb (by kernel_rfl) hk⟩
 ·exact ⟨E5, .slice (some ⟨gc,oc,none⟩) 2 cc,en5,(xN false),⟨by decide,by decide⟩,⟨by decide,by decide⟩,hc,fun k u hk=>ZM hb (by kernel_rfl) hk⟩
 ·exact ⟨E6, .slice none 0 0,en6,(xN false),⟨by decide,by decide⟩,⟨by decide,by decide⟩,Sl.nil _ _ _,fun k u hk=>ZM hb (by kernel_rfl) hk⟩
 ·exact ⟨E7, .slice (some ⟨gc,oc,none⟩) 1 cc,en7,(xN false),⟨by decide,by decide⟩,⟨by decide,by decide⟩,hc.take 1 (by decide),fun k u hk=>ZM hb (by kernel_rfl) hk⟩
 ·exact ⟨E8, .slice none 0 0,en8,Hj,⟨by decide,by decide⟩,⟨by decide,by decide⟩,Sl.nil _ _ _,fun k u hk=>ZM hb (by kernel_rfl) hk⟩
attribute [local go_sem] Oper.semAt_some
theorem TK(w:World)(hT:zK w):Calls Tryz.prog 6 #[] w fun e w'=>e= .returned (.bool true)∧w.grownBy w' none:=by
 have HTB:=za hT;clear hT;go_enter Tryz.func6,Tryz.ntmps6;go_wp2_with fail;refine (Iw w).mono ?_;rintro e x ⟨rfl,ew⟩;subst x;go_wp2_with fail;refine (Ka w HTB.out).mono ?_;rintro e wa ⟨rfl,hga⟩;have HGa:=za hga;clear hga;go_wp2_with fail;refine (QB wa).mono ?_;rintro e x ⟨rfl,ew⟩;subst x;go_wp2_with fail;refine (Kf wa 7 0 _).mono ?_;rintro e x ⟨rfl,ew⟩;subst x;go_wp2_with fail;refine (NL wa).mono ?_;rintro e wb ⟨rfl,hgb⟩;have HGb:=za (HGa.out.trans hgb);clear hgb;go_wp2_with fail;refine (YB _ ⟨0,0, [], [], [], [], [],false⟩ (fun _=>False) wb ⟨_,_,_,_,_,rfl,Sl.nil _ _ _,Sl.nil _ _ _,Sl.nil _ _ _,Sl.nil _ _ _,Sl.nil _ _ _⟩ (by simp) (by simp)).mono ?_;rintro e wc ⟨vz,rfl,hsz,hgc⟩;have HGc:=za (HGb.out.trans hgc);have HSM:=za (Yz vz (.agg #[.int .i64 0, .int .i64 0, .slice none 0 0, .slice none 0 0, .slice none 0 0, .slice none 0 0, .slice none 0 0, .bool false]) ⟨0,0, [], [], [], [], [],false⟩ _ (fun _=>False) wc hsz ⟨_,_,_,_,_,rfl,Sl.nil _ _ _,Sl.nil _ _ _,Sl.nil _ _ _,Sl.nil _ _ _,Sl.nil _ _ _⟩);obtain ⟨z1,z2,z3,z4,z5,rfl,hsz⟩:=hsz;clear hsz hgc;go_wp2_with fail;refine HSM.out.mono ?_;rintro e wd ⟨rfl,hgd⟩;have HGd:=za (HGc.out.trans hgd);clear hgd HSM HGa HGb HGc;go_wp2_with fail;refine (Vv false wd).mono ?_;rintro e w1 ⟨rfl,hg1⟩;obtain ⟨w2,hw2⟩: ∃y,y=w1.alloc (Obj.cells p4.cells 39):=⟨_,rfl⟩;obtain ⟨gp,hgp⟩: ∃y,y=w1.heap.size:=⟨_,rfl⟩;have HBp:Hid (Bk w2 gp 39 p4.cells):=za (by rw [hw2,hgp];exact Bk.new _ _ _);have HG2:Hid (w.grownBy w2 none):=za (by rw [hw2];exact (HGd.out.trans hg1).trans (gAl _ _ none))
 have hps:(p19 false).v=p4.v:=rfl;rw [hps];clear hg1 hps;go_upto_region 6 with (fail)
 first|rw [←hw2, ←hgp]|(have hw2':w1.alloc (Obj.cells #[.int .u64 23, .int .u64 11, .int .u64 4, .int .u64 9, .int .i64 4, .int .i64 4, .int .i64 1, .int .i64 1, .int .i64 1, .int .i64 1, .int .i64 1, .int .i64 1] 39)=w2:=hw2.symm;rw [hw2', ←hgp];clear hw2')
 clear hw2 hgp;have hp:=HBp.out.prule;go_wp2_with fail;refine (Yw p4 2 5 1 w2 (xN false) PZ ⟨rfl,rfl⟩ (HTB.out.kept HG2.out) ⟨by decide,by decide⟩ ⟨by decide,by decide⟩ (by decide)).mono ?_;rintro e w3 ⟨vd,vc,rfl,hds,hcm,hg3⟩;have hds1:Sl VV (fun _=>True) w3 vd [DL5]:=by
  have h:=hds;rw [show (List.range 1).map (dlD p4 5 2)= [dlD p4 5 2 0] from rfl,LH] at h;exact h
 rw [IN] at hcm;have HF3:Hid (AwF w gp w3.heap.size vd vc w3):=za ⟨HG2.out.trans hg3,(HG2.out.trans hg3).size,Nat.le_refl _,HBp.out.grown hg3 (by simp),Nat.lt_of_lt_of_le HBp.out.lt hg3.size,hds1.more fun g h _=>h,hcm.more fun g h _=>h⟩;obtain ⟨B,hB⟩: ∃y,y=w3.heap.size:=⟨_,rfl⟩;have HB:=za hB;rw [←hB] at HF3;obtain ⟨Ad,nd,cd,rfl⟩:=hds1.shape;obtain ⟨Ac,cc,ec,hc1,hc2⟩:=hcm.form;have ec:vc= .slice Ac 2 cc:=ec;subst ec;obtain ⟨gc,oc,rfl, -, -⟩:=hcm.addr (by decide);have hc1:2≤cc:=hc1;have hc1I:(2:Int)≤(cc:Int):=by omega
 have hc1J:(1:Int)≤(cc:Int):=by omega
 have hp3:=HF3.out.par.prule;obtain ⟨w5,hw5⟩: ∃y,y=w3.alloc (Obj.cells #[.int .u64 23, .int .u64 11, .int .u64 5, .int .u64 9, .int .i64 4, .int .i64 4, .int .i64 1, .int .i64 1, .int .i64 1, .int .i64 1, .int .i64 1, .int .i64 1] 39):=⟨_,rfl⟩;clear hp hds hds1 hcm hg3 HBp HG2 hB;go_upto_region 11 with (fail)
 rename_i KR aR KL aL;have HK:=za aR;clear aR;have HW5:Hid (Bk w5 w3.heap.size 39 Fu.cells∧w3.grownBy w5 none):=za (by rw [hw5];exact ⟨Bk.new _ _ _,gAl _ _ none⟩);rw [←hw5];clear hw5 hp3;have HF5:=za (HF3.out.kept HW5.out.2);have HRD:Hid (w5.grownBy w5.drew none):=za (zb w5 1);have HCE:Hid (∀W,w5.drew.grownBy W none→(∀o,W.cell? ⟨gp,o,none⟩=(p4.cells:Array Value)[o]?)∧ ∀o,W.cell? ⟨w3.heap.size,o,none⟩=(Fu.cells:Array Value)[o]?):=za (fun W hW=>⟨(HF5.out.par.grown (HRD.out.trans hW) (by simp)).prule,(HW5.out.1.grown (HRD.out.trans hW) (by simp)).prule⟩);refine Zf 29 ?_;refine mQ0 (.agg #[.int .u64 23, .int .u64 11, .int .u64 5, .int .u64 9, .int .i64 4, .int .i64 4, .int .i64 1, .int .i64 1, .int .i64 1, .int .i64 1, .int .i64 1, .int .i64 1]) (fun w' hw' K hK=> ?_) ?_
 ·obtain ⟨hp1,hp2⟩:=HCE.out w' hw';go_simp;exact hK _ rfl rfl
 refine mP0 (.slice (some ⟨gc,oc,none⟩) 2 cc) ?_;refine mP2 (.agg #[.int .u64 23, .int .u64 11, .int .u64 5, .int .u64 9, .int .i64 4, .int .i64 4, .int .i64 1, .int .i64 1, .int .i64 1, .int .i64 1, .int .i64 1, .int .i64 1, .int .i64 2, .int .i64 1, .slice (some ⟨gc,oc,none⟩) 2 cc]) 0 71 1 72 ?_;refine mQ0 (.agg #[.int .u64 23, .int .u64 11, .int .u64 4, .int .u64 9, .int .i64 4, .int .i64 4, .int .i64 1, .int .i64 1, .int .i64 1, .int .i64 1, .int .i64 1, .int .i64 1]) (fun w' hw' K hK=> ?_) ?_
 ·obtain ⟨hp1,hp2⟩:=HCE.out w' hw';go_simp;exact hK _ rfl rfl
 refine mP0 (.slice (some ⟨gc,oc,none⟩) 2 cc) ?_;refine mP2 (.agg #[.int .u64 23, .int .u64 11, .int .u64 4, .int .u64 9, .int .i64 4, .int .i64 4, .int .i64 1, .int .i64 1, .int .i64 1, .int .i64 1, .int .i64 1, .int .i64 1, .int .i64 0, .int .i64 1, .slice (some ⟨gc,oc,none⟩) 2 cc]) 3 74 4 75 ?_;refine mQ0 (.agg #[.int .u64 23, .int .u64 11, .int .u64 4, .int .u64 9, .int .i64 4, .int .i64 4, .int .i64 1, .int .i64 1, .int .i64 1, .int .i64 1, .int .i64 1, .int .i64 1]) (fun w' hw' K hK=> ?_) ?_
 ·obtain ⟨hp1,hp2⟩:=HCE.out w' hw';go_simp;exact hK _ rfl rfl
 refine mP0 (.slice (some ⟨gc,oc,none⟩) 2 cc) ?_;refine mP2 (.agg #[.int .u64 23, .int .u64 11, .int .u64 4, .int .u64 9, .int .i64 4, .int .i64 4, .int .i64 1, .int .i64 1, .int .i64 1, .int .i64 1, .int .i64 1, .int .i64 1, .int .i64 5, .int .i64 1, .slice (some ⟨gc,oc,none⟩) 2 cc]) 6 77 7 78 ?_;refine mQ0 (.agg #[.int .u64 23, .int .u64 11, .int .u64 4, .int .u64 9, .int .i64 4, .int .i64 4, .int .i64 1, .int .i64 1, .int .i64 1, .int .i64 1, .int .i64 1, .int .i64 1]) (fun w' hw' K hK=> ?_) ?_
 ·obtain ⟨hp1,hp2⟩:=HCE.out w' hw';go_simp;exact hK _ rfl rfl
 refine mP0 (.slice (some ⟨gc,oc,none⟩) 2 cc) ?_;refine mP2 (.agg #[.int .u64 23, .int .u64 11, .int .u64 4, .int .u64 9, .int .i64 4, .int .i64 4, .int .i64 1, .int .i64 1, .int .i64 1, .int .i64 1, .int .i64 1, .int .i64 1, .int .i64 2, .int .i64 0, .slice (some ⟨gc,oc,none⟩) 2 cc]) 9 80 10 81 ?_;refine mQ0 (.agg #[.int .u64 23, .int .u64 11, .int .u64 4, .int .u64 9, .int .i64 4, .int .i64 4, .int .i64 1, .int .i64 1, .int .i64 1, .int .i64 1, .int .i64 1, .int .i64 1]) (fun w' hw' K hK=> ?_) ?_
 ·obtain ⟨hp1,hp2⟩:=HCE.out w' hw';go_simp;exact hK _ rfl rfl
 refine mP0 (.slice (some ⟨gc,oc,none⟩) 2 cc) ?_;refine mP2 (.agg #[.int .u64 23, .int .u64 11, .int .u64 4, .int .u64 9, .int .i64 4, .int .i64 4, .int .i64 1, .int .i64 1, .int .i64 1, .int .i64 1, .int .i64 1, .int .i64 1, .int .i64 2, .int .i64 5, .slice (some ⟨gc,oc,none⟩) 2 cc]) 12 83 13 84 ?_;refine mQ0 (.agg #[.int .u64 23, .int .u64 11, .int .u64 4, .int .u64 9, .int .i64 4, .int .i64 4, .int .i64 1, .int .i64 1, .int .i64 1, .int .i64 1, .int .i64 1, .int .i64 1]) (fun w' hw' K hK=> ?_) ?_
 ·obtain ⟨hp1,hp2⟩:=HCE.out w' hw';go_simp;exact hK _ rfl rfl
 refine mP0 (.slice (some ⟨gc,oc,none⟩) 2 cc) ?_;refine mP2 (.agg #[.int .u64 23, .int .u64 11, .int .u64 4, .int .u64 9, .int .i64 4, .int .i64 4, .int .i64 1, .int .i64 1, .int .i64 1, .int .i64 1, .int .i64 1, .int .i64 1, .int .i64 (-1), .int .i64 1, .slice (some ⟨gc,oc,none⟩) 2 cc]) 15 86 16 87 ?_;refine mQ0 (.agg #[.int .u64 23, .int .u64 11, .int .u64 4, .int .u64 9, .int .i64 4, .int .i64 4, .int .i64 1, .int .i64 1, .int .i64 1, .int .i64 1, .int .i64 1, .int .i64 1]) (fun w' hw' K hK=> ?_) ?_
 ·obtain ⟨hp1,hp2⟩:=HCE.out w' hw';go_simp;exact hK _ rfl rfl
 refine mP1 (.agg #[.int .u64 23, .int .u64 11, .int .u64 4, .int .u64 9, .int .i64 4, .int .i64 4, .int .i64 1, .int .i64 1, .int .i64 1, .int .i64 1, .int .i64 1, .int .i64 1, .int .i64 2, .int .i64 1, .slice none 0 0]) 18 89 ?_;refine mQ0 (.agg #[.int .u64 23, .int .u64 11, .int .u64 4, .int .u64 9, .int .i64 4, .int .i64 4, .int .i64 1, .int .i64 1, .int .i64 1, .int .i64 1, .int .i64 1, .int .i64 1]) (fun w' hw' K hK=> ?_) ?_
 ·obtain ⟨hp1,hp2⟩:=HCE.out w' hw';go_simp;exact hK _ rfl rfl
 refine mP0 (.slice (some ⟨gc,oc,none⟩) 2 cc) ?_;refine mP1 (.slice (some ⟨gc,oc,none⟩) 1 cc) 21 92 ?_;refine mP2 (.agg #[.int .u64 23, .int .u64 11, .int .u64 4, .int .u64 9, .int .i64 4, .int .i64 4, .int .i64 1, .int .i64 1, .int .i64 1, .int .i64 1, .int .i64 1, .int .i64 1, .int .i64 2, .int .i64 1, .slice (some ⟨gc,oc,none⟩) 1 cc]) 20 91 22 93 ?_;refine mP0 (.agg #[.int .u64 0, .int .u64 0, .int .u64 0, .int .u64 0, .int .i64 0, .int .i64 0, .int .i64 0, .int .i64 0, .int .i64 0, .int .i64 0, .int .i64 0, .int .i64 0]) ?_;refine mP1 (.agg #[.int .u64 0, .int .u64 0, .int .u64 0, .int .u64 0, .int .i64 0, .int .i64 0, .int .i64 0, .int .i64 0, .int .i64 0, .int .i64 0, .int .i64 0, .int .i64 0, .int .i64 1, .int .i64 1, .slice none 0 0]) 24 95 ?_;refine mV (DN w5.drew.heap.size (.slice (some ⟨gc,oc,none⟩) 2 cc) (.slice (some ⟨gc,oc,none⟩) 1 cc)) [(2,73),(5,76),(8,79),(11,82),(14,85),(17,88),(19,90),(23,94),(25,96)] (fun w' hw'=>pQ (pQ (pQ (pQ (pQ (pQ (pQ (pQ (pQ (kD fun K hK=> ?_)))))))))) ?_
 ·go_simp;exact hK _ _ rfl ⟨_,rfl,hw'.size,Bk.new w' _ _⟩ (gAl w' _ none)
 refine mS (.int .i64 9) [(26,97)] (fun w' hw' x97 h97=>kQ fun K hK=> ?_) ?_
 ·have h97: ∃b,x97= .slice (some ⟨b,0,none⟩) 9 9∧w5.drew.heap.size≤b∧Bk w' b 89 (JI (.slice (some ⟨gc,oc,none⟩) 2 cc) (.slice (some ⟨gc,oc,none⟩) 1 cc)):=h97;obtain ⟨b97,e97,k97,l97⟩:=h97;subst e97;go_simp;exact hK _ rfl rfl
 refine mP0 (.int .i64 0) ?_;intro w6 hw6
 iterate 26 (refine pD ?_;intro _)
 intro y26 k26 y27 k27 y28 k28;obtain ⟨b9,e26,kb9,hb9⟩: ∃b,y26= .slice (some ⟨b,0,none⟩) 9 9∧w5.drew.heap.size≤b∧Bk w6 b 89 (JI (.slice (some ⟨gc,oc,none⟩) 2 cc) (.slice (some ⟨gc,oc,none⟩) 1 cc)):=k26;have e27:y27= .int .i64 9:=k27;have e28:y28= .int .i64 0:=k28;subst e26 e27 e28;have HF6:=za (HF5.out.kept (HRD.out.trans hw6));have HB9:=za hb9;clear k27 k28 hw6 HCE kb9 hb9;refine wpList_nil ?_;simp only [Act.put,sAa,sAb,sAc];go_wp2_with fail;go_loopg [11,12,13,14,15,99] 9 (fun g s11 s12 s13 s14 s15 s99 wx=> ∃j:Nat,j+g=9∧s99= .int .i64 j∧Hid (w6.grownBy wx none))
 case atStart=>exact ⟨0,by omega,rfl,za (World.grownBy.refl _ _)⟩
 case round=>
  rename World=>wr
  obtain ⟨j,hj,rfl,HX⟩:=hrel;rcases Nat.eq_zero_or_pos gk with hg0|hg0
  ·obtain rfl:j=9:=by omega
   have HF7:=za (HF6.out.kept HX.out);clear HX hg0 HB9 HF6 HF5 HF3 HW5;go_wp2_with fail;exact HK.out _ _ (JE w wr gp B nd cd gc oc cc Ad HTB.out HF7.out)
  ·have hj9:j< 9:=by omega
   have hjI:(j:Int)< 9:=by omega
   have HFr:=za (HF6.out.kept HX.out);obtain ⟨E,vE,h0,hok,hde,hme,hsl,hce⟩:=GQ ((HB9.out.grown HX.out (by simp))) HFr.out.cm j hj9;obtain ⟨Ae,ne,ce,rfl⟩:=hsl.shape;obtain ⟨wx,hwx⟩: ∃y,y=wr.alloc (.cells (Pf E (.slice Ae ne ce)) 89):=⟨_,rfl⟩;have hgx:wr.grownBy wx none:=by rw [hwx];exact gAl _ _ none
   have HBX:Hid (Bk wx wr.heap.size 89 (Pf E (.slice Ae ne ce))):=za (by rw [hwx];exact Bk.new _ _ _);have HGX:=za (HX.out.trans hgx);have hT3:=HTB.out.kept (HFr.out.g.trans hgx);have HNB:=za (Hp h0 hok hde hme (hsl.kept hgx) hT3);have HLB:=za (fun W (hW:wx.grownBy W none)=>JN h0 hok hde hme (hsl.kept (hgx.trans hW)) (hT3.kept hW));have c0:wr.cell? ⟨b9,j*15,none⟩=some (.int .u64 E.p.P):=(congrArg (fun o=>wr.cell? ⟨b9,o,none⟩) (by omega)).trans (hce 0 _ rfl);have c1:wr.cell? ⟨b9,j*15+1,none⟩=some (.int .u64 E.p.Q):=(congrArg (fun o=>wr.cell? ⟨b9,o,none⟩) (by omega)).trans (hce 1 _ rfl);have c2:wr.cell? ⟨b9,j*15+2,none⟩=some (.int .u64 E.p.G):=(congrArg (fun o=>wr.cell? ⟨b9,o,none⟩) (by omega)).trans (hce 2 _ rfl);have c3:wr.cell? ⟨b9,j*15+3,none⟩=some (.int .u64 E.p.H):=(congrArg (fun o=>wr.cell? ⟨b9,o,none⟩) (by omega)).trans (hce 3 _ rfl);have c4:wr.cell? ⟨b9,j*15+4,none⟩=some (.int .i64 E.p.Nodes):=(congrArg (fun o=>wr.cell? ⟨b9,o,none⟩) (by omega)).trans (hce 4 _ rfl);have c5:wr.cell? ⟨b9,j*15+5,none⟩=some (.int .i64 E.p.N):=(congrArg (fun o=>wr.cell? ⟨b9,o,none⟩) (by omega)).trans (hce 5 _ rfl);have c6:wr.cell? ⟨b9,j*15+6,none⟩=some (.int .i64 E.p.T):=(congrArg (fun o=>wr.cell? ⟨b9,o,none⟩) (by omega)).trans (hce 6 _ rfl);have c7:wr.cell? ⟨b9,j*15+7,none⟩=some (.int .i64 E.p.K):=(congrArg (fun o=>wr.cell? ⟨b9,o,none⟩) (by omega)).trans (hce 7 _ rfl);have c8:wr.cell? ⟨b9,j*15+8,none⟩=some (.int .i64 E.p.D):=(congrArg (fun o=>wr.cell? ⟨b9,o,none⟩) (by omega)).trans (hce 8 _ rfl)
   have c9:wr.cell? ⟨b9,j*15+9,none⟩=some (.int .i64 E.p.R):=(congrArg (fun o=>wr.cell? ⟨b9,o,none⟩) (by omega)).trans (hce 9 _ rfl);have c10:wr.cell? ⟨b9,j*15+10,none⟩=some (.int .i64 E.p.M):=(congrArg (fun o=>wr.cell? ⟨b9,o,none⟩) (by omega)).trans (hce 10 _ rfl);have c11:wr.cell? ⟨b9,j*15+11,none⟩=some (.int .i64 E.p.X):=(congrArg (fun o=>wr.cell? ⟨b9,o,none⟩) (by omega)).trans (hce 11 _ rfl);have c12:wr.cell? ⟨b9,j*15+12,none⟩=some (.int .i64 E.dealer):=(congrArg (fun o=>wr.cell? ⟨b9,o,none⟩) (by omega)).trans (hce 12 _ rfl);have c13:wr.cell? ⟨b9,j*15+13,none⟩=some (.int .i64 E.me):=(congrArg (fun o=>wr.cell? ⟨b9,o,none⟩) (by omega)).trans (hce 13 _ rfl);have c14:wr.cell? ⟨b9,j*15+14,none⟩=some ((.slice Ae ne ce)):=(congrArg (fun o=>wr.cell? ⟨b9,o,none⟩) (by omega)).trans (hce 14 _ rfl);clear h0 hok hde hme hsl HX HFr hgx hT3 hce hj9;go_upto_region 14 with (fail)
   have hwx2:wx=wr.alloc (.cells #[.int .u64 E.p.P, .int .u64 E.p.Q, .int .u64 E.p.G, .int .u64 E.p.H, .int .i64 E.p.Nodes, .int .i64 E.p.N, .int .i64 E.p.T, .int .i64 E.p.K, .int .i64 E.p.D, .int .i64 E.p.R, .int .i64 E.p.M, .int .i64 E.p.X, .int .i64 E.dealer, .int .i64 E.me,(.slice Ae ne ce)] 89):=hwx;rw [←hwx2];have hrx: ∀o,wx.cell? ⟨wr.heap.size,o,none⟩=(Pf E (.slice Ae ne ce))[o]? :=HBX.out.rule;simp only [Pf] at hrx;clear hwx hwx2 c0 c1 c2 c3 c4 c5 c6 c7 c8 c9 c10 c11 c12 c13 c14;go_wp2_with fail;refine HNB.out.mono ?_;rintro e wy ⟨rfl,hgy⟩;have hry: ∀o,wy.cell? ⟨wr.heap.size,o,none⟩=(Pf E (.slice Ae ne ce))[o]? :=(HBX.out.grown hgy (by simp)).rule;simp only [Pf] at hry;have HGY:=za hgy;clear hrx hgy HNB;go_wp2_with fail;refine (HLB.out wy HGY.out).mono ?_;rintro e wz ⟨rfl,hgz⟩;have HFIN:Hid (w6.grownBy wz none):=za ((HGX.out.trans HGY.out).trans hgz);clear hry hgz HLB;go_wp2_with fail;go_roundg (gk - 1)
   case measure=>omega
   case rel=>exact ⟨j+1,by omega,by go_num,HFIN⟩
end
section
open Go.RowKit
def Di:List Int:= [0,1,56,2,57,49,28,3,61,58,42,50,38,29,17,4,62,47,59,36,45,43,51,22,53,39,33,30,24,18,12,5,63,55,48,27,60,41,37,16,46,35,44,21,52,32,23,11,54,26,40,15,34,20,31,10,25,14,19,9,13,8,7,6]
theorem FJ: ∀j,j< 64→Di.getD j 0=((Lib.deBruijn64tab.getD j 0:Nat):Int):=by decide
theorem DC(j:Nat)(hj:j< Lib.deBruijn64tab.length):Di.getD j 0=((Lib.deBruijn64tab.getD j 0:Nat):Int):=FJ j hj
def Oc(cs:Array Value):Obj→Obj
 | .cells _ t f=> .cells cs t f
 |o=>o
end
end Go.Proofs.YtkdfjkdphdfclaaGreatDoor
