/- Part 21 of the proof of a card of AvssOne, AvssAll. -/
import Derived.Test.YtkdfjkdphdfclaaGreatDoorW20
set_option maxRecDepth 100000
set_option maxHeartbeats 16000000
set_option linter.unusedVariables false
set_option linter.unusedSimpArgs false
namespace Go.Proofs.YtkdfjkdphdfclaaGreatDoor
open Tryz
section
open Go Go.RowKit Go.Shelf Go.Maps
theorem Dj:zQ prog 40 53 1 8:=Ee
structure Ow (w:World) (two:Bool) (d seed:Int) (acts:List Ts) (vl vd vc:Value) (gp g:Nat) (S:List Nat) (L:List (Nat×Nat)) (va:Value) (W:World):Prop where
 gr:w.grownBy W none
 sb: ∀b∈S,w.heap.size≤b
 rm:Rm (fun k=>anE two d ((k:Int)+1) seed) S L (fun _=>ASt.start) 0 W
 gS:g∈S
 bk:Bk W g 45 (zM (p19 two) va (.slice none 0 0) vd vc)
 aS: ∀b,va.ownBlock=some b→b∈S
 ds:Sl VC (zw S) W vd (Xe two d seed)
 cm:Sl (zh ze) (zw S) W vc (Kn (p19 two) [0] seed)
 ac:Sl Yc (zw S) W vl acts
 pb:Bk W gp 39 (p19 two).cells
 pS:zw S gp
section
variable {w W W':World} {two:Bool} {d seed:Int} {acts:List Ts} {vl vd vc va:Value} {gp g:Nat} {S:List Nat} {L:List (Nat×Nat)}
theorem Ow.kept(h:Ow w two d seed acts vl vd vc gp g S L va W)(hg:W.grownBy W' none):Ow w two d seed acts vl vd vc gp g S L va W':=⟨h.gr.trans hg,h.sb,h.rm.kept hg,h.gS,h.bk.grown hg (by simp),h.aS,h.ds.kept hg,h.cm.kept hg,h.ac.kept hg,h.pb.grown hg (by simp),h.pS⟩
theorem Ow.add(h:Ow w two d seed acts vl vd vc gp g S L va W)(hd:1≤d∧d≤(p19 two).N)(hL:(L.length:Int)< (p19 two).N){gA gM:Nat}(hg:W.grownBy W' none)(hA:W.heap.size≤gA)(hM:W.heap.size≤gM)(hv:AvW (fun b=>W.heap.size≤b∧b≠gA∧b≠gM) gA gM 0 (anE two d ((L.length:Int)+1) seed) ASt.start W'):Ow w two d seed acts vl vd vc gp g (gA::gM::S) (L++ [(gA,gM)]) va W':=by
 have up: ∀{α:Type} {E:Enc α} {v:Value} {xs:List α},Sl E (zw S) W v xs→Sl E (zw (gA::gM::S)) W' v xs:=fun k=>(k.more fun c hl hc e=>by
  rcases List.mem_cons.1 e with e|e
  ·omega
  ·rcases List.mem_cons.1 e with e|e
   ·omega
   ·exact hc e).kept hg
 have hs:=h.gr.size;have hp:=h.pb.lt;exact ⟨h.gr.trans hg,fun c hc=>by
  rcases List.mem_cons.1 hc with rfl|hc
  ·omega
  ·rcases List.mem_cons.1 hc with rfl|hc
   ·omega
   ·exact h.sb c hc,h.rm.add hg hA hM (Hj hd ⟨by omega,by omega⟩) hv rfl,mCm _ (mCm _ h.gS),h.bk.grown hg (by simp),fun b e=>mCm _ (mCm _ (h.aS b e)),up h.ds,up h.cm,up h.ac,h.pb.grown hg (by simp),fun e=>by
  rcases List.mem_cons.1 e with e|e
  ·omega
  ·rcases List.mem_cons.1 e with e|e
   ·omega
   ·exact h.pS e⟩
theorem Ow.put(h:Ow w two d seed acts vl vd vc gp g S L va W){e0:TypeId}{b0:Nat}{X0:Nat→Prop}{xs0 ys0:List (Option Nat)}(h0:Acc ZP b0 e0 X0 W va xs0)(he0:e0≠125){v':Value}{W2:World}(hg:yC va.ownBlock (some g) W W2)(hm:xR W va v')(ha:Acc ZP b0 e0 X0 W2 v' ys0)(hb2:Bk W2 g 45 (zM (p19 two) v' (.slice none 0 0) vd vc)): ∃S',Ow w two d seed acts vl vd vc gp g S' L v' W2∧(∀b∈S,b∈S'):=by
 obtain ⟨u,k1,k2⟩:=hg.two;have hsz:w.heap.size≤W.heap.size:=h.gr.size;have hs2:W.heap.size≤W2.heap.size:=hg.size;obtain ⟨S',hS'⟩:=exq (v'.ownBlock.toList++S);have m1: ∀b∈S,b∈S':=fun b hb=>by rw [hS'];exact mAr _ hb
 have m2: ∀b,v'.ownBlock=some b→b∈S':=fun b hb=>by rw [hS',hb];simp
 have m3: ∀b∈S',b∈S∨(W.heap.size≤b∧v'.ownBlock=some b):=fun b hb=>by
  rw [hS'] at hb;rcases List.mem_append.1 hb with hb|hb
  ·have hb':v'.ownBlock=some b:=by simpa using hb
   rcases hm with hm|⟨n,hn,hm⟩
   ·exact .inl (h.aS b (by rw [←hm];exact hb'))
   ·rw [hm] at hb';injection hb' with e
    subst e;exact .inr ⟨hn,hm⟩
  ·exact .inl hb
 have m4: ∀b∈S',b∈S∨W.heap.size≤b:=fun b hb=>(m3 b hb).imp id (·.1)
 have hp:=h.pb.lt;refine ⟨S',⟨zz (zz h.gr k1 (fun b e=>h.sb b (h.aS b e))) k2 (fun b e=>by injection e with e;rw [←e];exact h.sb _ h.gS),fun b hb=> ?_, ?_,m1 g h.gS,hb2,m2,h.ds.put hg h.aS h.gS m4,h.cm.put hg h.aS h.gS m4,h.ac.put hg h.aS h.gS m4,h.pb.put h.pS hg h.aS h.gS,fun e=> ?_⟩,m1⟩
 ·rcases m3 b hb with e|e
  ·exact h.sb b e
  ·omega
 ·refine ⟨fun b hb=> ?_,h.rm.nd,fun i hi=>⟨m1 _ (h.rm.sub i hi).1,m1 _ (h.rm.sub i hi).2⟩,fun i hi=> ?_⟩
  ·rcases m3 b hb with e|e
   ·exact nLl (h.rm.sz b e) hs2
   ·exact (ha.lt b e.2).2
  ·obtain ⟨h1,h2,h3⟩:=h.rm.av i hi;have hne:=h0.neAv h2 he0;have hgn:=h.bk.neAv h2 (by decide);refine ⟨h1,(((h2.more (Y:=fun b=>zw S b∧b< W.heap.size) fun b hl hX=>⟨hX,hl⟩).keep k1 (fun b hX e=>hX.1 (h.aS b e.symm)) (fun e=>hne.1 e.symm) (fun e=>hne.2 e.symm)).keep k2 (fun b hX e=>hX.1 (by injection e with e;rw [e];exact h.gS)) (fun e=>hgn.1 (by injection e with e;exact e.symm)) (fun e=>hgn.2 (by injection e with e;exact e.symm))).more fun b _ hX e=> ?_,h3⟩;rcases m3 b e with e|e
   ·exact hX.1 e
   ·have:=hX.2
    omega
 ·rcases m4 gp e with e|e
  ·exact h.pS e
  ·omega
theorem Ow.set(h:Ow w two d seed acts vl vd vc gp g S L va W){ba:Nat}{t:TypeId}{cs:Array Value}(hb:Bk W ba t cs)(ht:t≠125)(htr:t≠45)(hbS:ba∈S)(hg:W.grownBy W' (some ba)):Ow w two d seed acts vl vd vc gp g S L va W':=by
 have up: ∀{α:Type} {E:Enc α} {v:Value} {xs:List α},Sl E (zw S) W v xs→Sl E (zw S) W' v xs:=fun k=>k.keep hg fun c hc e=>hc (by injection e with e;rw [e];exact hbS)
 have hgb:g≠ba:=fun e=>by
  subst e;have h1:=h.bk;unfold Bk at h1 hb;rw [h1] at hb;injection hb with hb
  injection hb with _ k2 _
  exact htr k2.symm
 refine ⟨zz h.gr hg (fun c e=>by injection e with e;rw [←e];exact h.sb ba hbS),h.sb,h.rm.keep hg (fun c e=> ?_),h.gS,h.bk.grown hg (fun e=>hgb (by injection e)),h.aS,up h.ds,up h.cm,up h.ac,h.pb.grown hg (fun e=>h.pS (by injection e with e;rw [e];exact hbS)),h.pS⟩;injection e with e
 subst e;refine ⟨hbS,fun i hi=> ?_⟩
 have:=hb.neAv (h.rm.av i hi).2.1 ht
 exact ⟨fun e=>this.1 e.symm,fun e=>this.2 e.symm⟩
theorem Ow.fin(h:Ow w two d seed acts vl vd vc gp g S L va W)(hL:(L.length:Int)=(p19 two).N){hon:Int→Bool}{X:Nat→Prop}(hal:Sl ZP X W va (zU (YD two d seed hon) L))(hX: ∀b,X b→zw (tBl g L) b):Rw w (YD two d seed hon) (Xe two d seed) acts vl va vd vc g (tBl g L) L 0 (fun _=>ASt.start) [] (.slice none 0 0) W:=by
 have hsub: ∀b∈tBl g L,b∈S:=fun b hb=>by
  rcases List.mem_cons.1 hb with rfl|e
  ·exact h.gS
  ·rcases List.mem_append.1 e with e|e
   ·obtain ⟨x,hx,rfl⟩:=List.mem_map.1 e;obtain ⟨i,hi,rfl⟩:=List.mem_iff_getElem.1 hx;exact (h.rm.sub i hi).1
   ·obtain ⟨x,hx,rfl⟩:=List.mem_map.1 e;obtain ⟨i,hi,rfl⟩:=List.mem_iff_getElem.1 hx;exact (h.rm.sub i hi).2
 have hN: ∀b,zw S b→zw (tBl g L) b:=fun b hb e=>hb (hsub b e)
 exact ⟨h.gr,fun b hb=>h.sb b (hsub b hb),⟨fun b hb=>h.rm.sz b (hsub b hb),h.rm.nd,fun i hi=>OB hi,fun i hi=>by
  obtain ⟨h1,h2,h3⟩:=h.rm.av i hi;exact ⟨h1,h2.more fun b _ hb=>hN b hb,h3⟩⟩,hL,mCs,h.bk,Acc.nil _ _ _ _ _,fun b e=>by simp [Value.ownBlock] at e,hal.more fun b _ hb=>hX b hb,h.ds.more fun b _ hb=>hN b hb,h.cm.more fun b _ hb=>hN b hb,h.ac.more fun b _ hb=>hN b hb⟩
end
theorem Sl.setAO{X:Nat→Prop}{W:World}{g n c:Nat}{xs:List (Option Nat)}(h:Sl ZP X W (.slice (some ⟨g,0,none⟩) n c) xs){e:TypeId}{cur:Array Value}(hb:Bk W g e cur){k:Nat}(hk:k< xs.length):Sl ZP X (W.setCell ⟨g,k,none⟩ (.pointer none)) (.slice (some ⟨g,0,none⟩) n c) (xs.set k none)∧Bk (W.setCell ⟨g,k,none⟩ (.pointer none)) g e (cur.setIfInBounds k (.pointer none)):=by
 have key: ∀i (hi:i< xs.length),W.cell? ⟨g,i,none⟩=some (.pointer (xs[i].map fun b=>⟨b,0,none⟩)):=fun i hi=>by
  obtain ⟨g',o',c',e',_,_,hc⟩:=h.atAO hi;injection e' with e1 e2 e3
  injection e1 with e1
  injection e1 with e1 e4 e5
  subst e1 e4;rw [Nat.zero_add] at hc;exact hc
 have hks:k< cur.size:=by
  have:=key k hk
  rw [hb.cell] at this;exact (Array.getElem?_eq_some_iff.1 this).1
 refine ⟨?_,hb.set k _⟩;obtain ⟨A',c',e',h1,h2,h3⟩:=h;injection e' with e1 e2 e3
 subst e1 e2 e3;refine ⟨_,_,by rw [List.length_set],by rw [List.length_set];exact h1,h2,fun _=> ?_⟩;obtain ⟨g',o',eA,hgl,hXg,hc⟩:=h3 (by intro e;rw [e] at hk;simp at hk);injection eA with eA
 injection eA with eg eo
 subst eg eo;refine ⟨g,0,rfl,by simpa using hgl,hXg,fun i hi=> ?_⟩;rw [List.length_set] at hi;refine ⟨[.pointer (((xs.set k none)[i]'(by rw [List.length_set];exact hi)).map fun b=>⟨b,0,none⟩)],rfl,fun j u hu=> ?_⟩;have hj:j=0:=by
  rcases Nat.eq_zero_or_pos j with h|h
  ·exact h
  ·rw [List.getElem?_eq_none (by simp;omega)] at hu;cases hu
 subst hj;simp only [List.getElem?_cons_zero,Option.some.injEq] at hu;subst hu;rw [show 0+i*ZP.size+0=i by rw [show ZP.size=1 from rfl];omega,(hb.set k _).cell,Array.getElem?_setIfInBounds,List.getElem_set];by_cases hki:k=i
 ·subst hki;simp [hks]
 ·rw [if_neg hki,if_neg hki, ←hb.cell];exact key i hi
def Fe(hon:Int→Bool)(k:Nat):Int→Bool:=fun j=>hon j && decide (j≠(k:Int)+1)
theorem OS(two:Bool)(d seed:Int)(hon:Int→Bool)(L:List (Nat×Nat))(k:Nat):(zU (YD two d seed hon) L).set k none=zU (YD two d seed (Fe hon k)) L:=by
 apply List.ext_getElem
 ·simp [zU]
 ·intro i h1 h2;have hi:i< L.length:=by simpa [zU] using h2
  rw [List.getElem_set,xt _ L hi,xt _ L hi];show (if k=i then none else if hon ((i:Int)+1)=true then some L[i].1 else none)=if Fe hon k ((i:Int)+1)=true then some L[i].1 else none
  unfold Fe;by_cases hk:k=i
  ·subst hk;simp
  ·have hne: ¬((i:Int)+1=(k:Int)+1):=by omega
   rw [if_neg hk];simp [hne]
theorem Df(hon:Int→Bool)(k:Nat)(l:List Int)(hn:l.Nodup):(l.filter fun j=> !Fe hon k j).length≤(l.filter fun j=> !hon j).length+1:=by
 have h:=Zv (Q:=l.filter fun j=> !Fe hon k j) (L:=((k:Int)+1)::l.filter fun j=> !hon j) (hn.filter _) fun j hj=>by
  obtain ⟨h1,h2⟩:=List.mem_filter.1 hj;unfold Fe at h2;by_cases e:j=(k:Int)+1
  ·rw [e];exact mCs
  ·refine mCm _ (List.mem_filter.2 ⟨h1, ?_⟩);simpa [e] using h2
 simpa using h
end
section
open Go Go.RowKit Go.Shelf Go.Maps
def Nw(D:World)(E:zv)(gA:Nat)(w:World):Prop:= ∃gM,(D.heap.size≤gA∧D.heap.size≤gM)∧AvW (fun b=>D.heap.size≤b∧b≠gA∧b≠gM) gA gM 0 E ASt.start w
def FP(D:World)(E:zv):Pv:=⟨fun v w=> ∃gA,v= .tuple #[.pointer (some ⟨gA,0,none⟩), .int .i64 0]∧Nw D E gA w,fun ⟨gA,h1,gM,h2,h3⟩ hg=>⟨gA,h1,gM,h2,h3.kept hg⟩⟩
def FQ(D:World)(E:zv):Pv:=⟨fun v w=> ∃gA,v= .pointer (some ⟨gA,0,none⟩)∧Nw D E gA w,fun ⟨gA,h1,gM,h2,h3⟩ hg=>⟨gA,h1,gM,h2,h3.kept hg⟩⟩
def Hp(w:World)(two:Bool)(seed:Int)(acts:List Ts)(vl:Value)(e:Ending)(w':World):Prop:= ∃(d:Int) (hon:Int→Bool) (g:Nat) (va vd vc:Value) (L:List (Nat×Nat)),e= .returned (.tuple #[.pointer (some ⟨g,0,none⟩), .int .i64 d, .bool true])∧(1≤d∧d≤(p19 two).N)∧(((Vr (p19 two).N).filter fun j=> !hon j).length:Int)≤(p19 two).T∧Rw w (YD two d seed hon) (Xe two d seed) acts vl va vd vc g (tBl g L) L 0 (fun _=>ASt.start) [] (.slice none 0 0) w'
attribute [local go_sem] Oper.semAt_some
theorem TX(b0:Bool)(d0 a0:Int)(vi:Value)(m0:List Int)(vl:Value)(c0:List Ts)(X Y:Nat→Prop)(w:World)(s1:U64 a0)(hi:Sl Fk X w vi m0)(hl:Sl Yc Y w vl c0)(hT:yd w):
  Calls prog 11 #[.bool b0, .int .i64 d0, .int .u64 a0,vi] w (Hp w b0 a0 c0 vl):=by
 have N1:=za hT;have n2:=za s1;have P1:=za hi;have S1:Hid (Sl Yc (fun b=>b< w.heap.size) w vl c0):=za (hl.more fun b h _=>h);obtain ⟨Ai,ci,rfl,a2,X1⟩:=hi.form;obtain ⟨LN,c1⟩:=exq (m0.length);have p2:=za c1;rw [←c1] at P1 a2 ⊢;obtain ⟨p,hp⟩:=exq (p19 b0);have HP:=za hp;have hN:4≤p.N∧p.N≤7:=by rw [hp];cases b0<;>exact ⟨by decide,by decide⟩
 have L2:1≤p.T∧p.T≤2:=by rw [hp];cases b0<;>exact ⟨by decide,by decide⟩
 have v2:IntKind.u64.wrap p.N=p.N:=IntWalk.u64_in _ (by omega);have M1:p.N≠0:=by omega
 obtain ⟨d,W1,⟨K2,J2⟩,I2⟩: ∃y,(1≤y∧y≤p.N)∧(IntKind.i64.wrap ((IntKind.u64.wrap d0).tmod p.N)=y - 1∧IntKind.i64.wrap (IntKind.u64.wrap d0%p.N)=y - 1)∧IntKind.i64.wrap (1+(y - 1))=y:=by
  have h0:0≤IntKind.u64.wrap d0:=by rw [IntKind.wrap_u64];omega
  have r0:=Int.emod_nonneg (IntKind.u64.wrap d0) M1;have r9:=Int.emod_lt_of_pos (IntKind.u64.wrap d0) (show 0< p.N by omega);have e:IntKind.i64.wrap (IntKind.u64.wrap d0%p.N)=1+IntKind.u64.wrap d0%p.N - 1:=by rw [i6n _ (by omega)];omega
  refine ⟨1+IntKind.u64.wrap d0%p.N,by omega,⟨?_,e⟩, ?_⟩
  ·rw [Int.tmod_eq_emod_of_nonneg h0];exact e
  ·rw [i6n (1+(1+IntKind.u64.wrap d0%p.N - 1)) (by omega)];omega
 have HD:=za W1;clear hl hi hT s1 c1;go_enter func11,ntmps11;go_wp2_with fail;refine (UC b0 w).mono ?_;rintro e w1 ⟨rfl,hg1⟩;rw [←hp];obtain ⟨w2,q0⟩:=exq (w1.alloc (Obj.cells p.cells 39));obtain ⟨gp,s0⟩:=exq (w1.heap.size);obtain ⟨w3,D0⟩:=exq (w2.alloc (Obj.cells (zM p (.slice none 0 0) (.slice none 0 0) (.slice none 0 0) (.slice none 0 0)) 45));obtain ⟨g,S0⟩:=exq (w2.heap.size);have l1:Hid (Bk w3 gp 39 p.cells):=za (by rw [D0];exact Bk.alloc (by rw [q0,s0];exact Bk.new _ _ _) _);have n1:Hid (Bk w3 g 45 (zM p (.slice none 0 0) (.slice none 0 0) (.slice none 0 0) (.slice none 0 0))):=za (by rw [D0,S0];exact Bk.new _ _ _);have Q1:Hid (w.grownBy w3 none∧w.heap.size≤gp∧gp< g):=za ⟨by rw [D0];exact (hg1.trans (by rw [q0];exact gAl _ _ none)).trans (gAl _ _ none),by rw [s0];exact hg1.size,by rw [s0,S0,q0,World.size_alloc];exact Nat.lt_succ_self _⟩;clear hg1 hp;go_upto_region 2 with (fail)
 first|rw [←q0, ←s0]|(have p0:w1.alloc (Obj.cells p.cells 39)=w2:=q0.symm;simp only [Par.cells] at p0;rw [p0, ←s0];clear p0)
 have Z0: ∀o,w2.cell? ⟨gp,o,none⟩=(p.cells:Array Value)[o]? :=by
  have h:Bk w2 gp 39 p.cells:=by rw [q0,s0];exact Bk.new _ _ _
  exact h.prule
 clear q0 s0;go_upto_region 5 with (fail)
 rw [←D0, ←S0];clear D0 S0 Z0;have T1:=l1.z.prule;have U0:Hid (Zk p=true∧(p.K=1∧p.D=1)∧p.ok):=za ⟨by rw [HP.z];exact Xs b0,by rw [HP.z];cases b0<;>exact ⟨rfl,rfl⟩,by rw [HP.z];exact ZY b0⟩;go_wp2_with fail;refine (Xo p d a0 2 w3 U0.z.2.2 U0.z.1 U0.z.2.1 (N1.z.kept Q1.z.1) n2.z HD.z (by decide)).mono ?_;rintro e w4 ⟨vd,vc,rfl,hds,hcm,hg4⟩;obtain ⟨Ad,nd,cd,rfl⟩:=hds.shape;obtain ⟨Ac,nc,cc,rfl⟩:=hcm.shape;have T0:=n1.z.grown hg4 (by simp);obtain ⟨w5,P0⟩:=exq ((w4.setCell ⟨g,14,none⟩ (.slice Ad nd cd)).setCell ⟨g,15,none⟩ (.slice Ac nc cc));have a1:Bk w5 g 45 (zM p (.slice none 0 0) (.slice none 0 0) (.slice Ad nd cd) (.slice Ac nc cc)):=by rw [P0];exact (T0.set 14 _).set 15 _
 have I0:w4.grownBy w5 (some g):=by rw [P0];exact (zD _ _ 14 _).trans (zD _ _ 15 _)
 have z0:Hid (Ow w b0 d a0 c0 vl (.slice Ad nd cd) (.slice Ac nc cc) gp g [g] [] (.slice none 0 0) w5∧Acc ZP (g+1) 53 (fun b=>b≠g) w5 (.slice none 0 0) (([]:List (Nat×Nat)).map fun q=>some q.1)):=za (by
  obtain ⟨g1,g2,g3⟩:=Q1.z;have H2:=n1.z.lt;have H1:w.grownBy w5 none:=zz (g1.trans hg4) I0 (fun b e=>by injection e with e;omega);refine ⟨⟨H1,fun b hb=> ?_,⟨fun b hb=> ?_,fun i j hi=>absurd hi (by simp),fun i hi=>absurd hi (by simp),fun i hi=>absurd hi (by simp)⟩,List.mem_singleton.2 rfl,by rw [←HP.z];exact a1,fun b e=>by simp [Value.ownBlock] at e, ?_, ?_, ?_,by rw [←HP.z];exact (l1.z.grown hg4 (by simp)).grown I0 (fun e=>by injection e with e;omega),fun e=> ?_⟩,Acc.nil _ _ _ _ _⟩
  ·rw [List.mem_singleton.1 hb];omega
  ·rw [List.mem_singleton.1 hb];exact a1.lt
  ·rw [HP.z] at hds;exact (hds.keep I0 (fun b hb e=>by injection e with e;omega)).more fun b _ hb e=>by have:=List.mem_singleton.1 e;omega
  ·rw [HP.z] at hcm;exact (hcm.keep I0 (fun b hb e=>by injection e with e;omega)).more fun b _ hb e=>by have:=List.mem_singleton.1 e;omega
  ·exact (S1.z.kept H1).more fun b _ hb e=>by have:=List.mem_singleton.1 e;omega
  ·have:=List.mem_singleton.1 e;omega)
 have Z1:=T0.free;have Q0:=T0.rule;clear hds hcm hg4 T0 a1 I0 T1 l1 n1 S1 U0;obtain ⟨NN,L1⟩: ∃z:Nat,(z:Int)=p.N:=⟨p.N.toNat,by omega⟩;have j1:=za L1;clear L1;go_wp2_with fail;rw [←P0];clear P0 Z1 Q0;go_loopg [14,15,16] NN (fun gk s14 s15 s16 wx=> ∃(i:Nat) (va:Value),i+gk=NN∧s14= .int .i64 ((i:Int)+1)∧Hid (∃S L,L.length=i∧Ow w b0 d a0 c0 vl (.slice Ad nd cd) (.slice Ac nc cc) gp g S L va wx∧Acc ZP (g+1) 53 (fun b=>b≠g) wx va (L.map fun q=>some q.1)))
 case atStart=>exact ⟨0, .slice none 0 0,by omega,rfl,za ⟨[g], [],rfl,z0.z⟩⟩
 case round=>
  rename World=>w7
  obtain ⟨i,va,hi,rfl,HX⟩:=hrel;obtain ⟨S,L,hL,hO,hA⟩:=HX.z;have U1:=j1.z;have HO:=za hO;have HA:=za hA;have A0:=za hL;have j0:=hO.pb.prule;rw [←HP.z] at j0;rcases Nat.eq_zero_or_pos gk with hg0|hg0
  ·obtain rfl:i=NN:=by omega
   have x0: ¬((i:Int)+1≤p.N):=by omega
   have G2:4≤i:=by omega
   have Y1:i≤7:=by omega
   have E0:((L.map fun q=>some q.1:List (Option Nat))).length=i:=by rw [lLm,hL]
   obtain ⟨ba,cb,eva,j2,i2,d2,c2⟩:=hA.form0 (by rw [E0];omega);rw [E0] at eva d2;obtain ⟨cur0,i0⟩: ∃cur,Bk w7 ba 53 cur:=by
    obtain ⟨_,M2,_,_,h3⟩:=id hA;rcases h3.2 with ⟨e0,_⟩|⟨g',cap,cur,e0,_,hh,_⟩
    ·rw [eva] at e0;cases e0
    ·rw [eva] at e0;injection e0 with e1 e2 e3
     injection e1 with e1
     injection e1 with e1
     subst e1;exact ⟨cur,hh⟩
   have R1:Hid (ba∈S∧g< ba):=za ⟨hO.aS ba (by rw [eva];rfl),by omega⟩;subst eva;have o2:Hid (∀b,b=ba→zw (tBl g L) b):=za (fun b hb e=>by
    subst hb;rcases List.mem_cons.1 e with e|e
    ·have:=R1.z.2;omega
    ·rcases List.mem_append.1 e with e|e
     ·obtain ⟨x,hx,ex⟩:=List.mem_map.1 e;obtain ⟨q,hq,rfl⟩:=List.mem_iff_getElem.1 hx;exact (i0.neAv (hO.rm.av q hq).2.1 (by decide)).1 ex.symm
     ·obtain ⟨x,hx,ex⟩:=List.mem_map.1 e;obtain ⟨q,hq,rfl⟩:=List.mem_iff_getElem.1 hx;exact (i0.neAv (hO.rm.av q hq).2.1 (by decide)).2 ex.symm)
   obtain ⟨TT,N0⟩: ∃z:Nat,(z:Int)=p.T:=⟨p.T.toNat,by omega⟩;have l2:=za N0;have i1:Hid (Ow w b0 d a0 c0 vl (.slice Ad nd cd) (.slice Ac nc cc) gp g S L (.slice (some ⟨ba,0,none⟩) i cb) w7∧Sl ZP (fun b=>b=ba) w7 (.slice (some ⟨ba,0,none⟩) i cb) (zU (YD b0 d a0 fun _=>true) L)∧(∃cur,Bk w7 ba 53 cur)∧((Vr (p19 b0).N).filter fun j=> !(fun _:Int=>true) j).length≤0):=za ⟨hO,by
    have h:=hA.sl;have e:zU (YD b0 d a0 fun _=>true) L=L.map fun q=>some q.1:=by
     apply List.ext_getElem
     ·simp [zU]
     ·intro q h1 h2;rw [xt _ L (by simpa [zU] using h1)];show (if true=true then some _ else none)=_;rw [if_pos rfl,List.getElem_map]
    rw [e];obtain ⟨A',c',e',k1,k2,k3⟩:=h;refine ⟨A',c',e',k1,k2,fun V1=> ?_⟩;obtain ⟨g',o',eA,q1,q2,q3⟩:=k3 V1;rw [eA] at e';injection e' with e1
    injection e1 with e1
    injection e1 with e1
    exact ⟨g',o',eA,q1,e1.symm,q3⟩,⟨cur0,i0⟩,by simp⟩
   have B0:Hid (∀(g0:Int→Bool) V,Ow w b0 d a0 c0 vl (.slice Ad nd cd) (.slice Ac nc cc) gp g S L (.slice (some ⟨ba,0,none⟩) i cb) V→Sl ZP (fun b=>b=ba) V (.slice (some ⟨ba,0,none⟩) i cb) (zU (YD b0 d a0 g0) L)→(((Vr (p19 b0).N).filter fun j=> !g0 j).length:Int)≤(p19 b0).T→Hp w b0 a0 c0 vl (.returned (.tuple #[.pointer (some ⟨g,0,none⟩), .int .i64 d, .bool true])) V):=za (fun g0 V h1 h2 h3=>⟨d,g0,g,_,_,_,L,rfl,by rw [←HP.z];exact HD.z,h3,h1.fin (by rw [A0.z,j1.z,HP.z]) h2 o2.z⟩);clear hO hA hL E0 i0 N0 HX z0 hg0 j2 i2 U1;go_wp2_with fail;clear j0 x0;go_loopg [17] TT (fun gk s17 wx=> ∃(q:Nat) (g0:Int→Bool),q+gk=TT∧s17= .int .i64 q∧Hid (Ow w b0 d a0 c0 vl (.slice Ad nd cd) (.slice Ac nc cc) gp g S L (.slice (some ⟨ba,0,none⟩) i cb) wx∧Sl ZP (fun b=>b=ba) wx (.slice (some ⟨ba,0,none⟩) i cb) (zU (YD b0 d a0 g0) L)∧(∃cur,Bk wx ba 53 cur)∧((Vr (p19 b0).N).filter fun j=> !g0 j).length≤q))
   case atStart=>exact ⟨0,fun _=>true,by omega,rfl,i1⟩
   case round=>
    rename World=>w8
    obtain ⟨q,g0,hq,rfl,HY⟩:=hrel;have w0:=l2.z;have j0:=HY.z.1.pb.prule;rw [←HP.z] at j0;have B2:(0:Int)≤(q:Int):=iNn q;have HF:Hid (Hp w b0 a0 c0 vl (.returned (.tuple #[.pointer (some ⟨g,0,none⟩), .int .i64 d, .bool true])) w8):=za (B0.z g0 w8 HY.z.1 HY.z.2.1 (by have:=HY.z.2.2.2;rw [←HP.z, ←w0];rw [←HP.z] at this;omega));by_cases R0:q< LN∧0< gk
    ·obtain ⟨hq1,hq2⟩:=R0;have A2:(q:Int)< (LN:Int):=by omega
     have z2:(q:Int)< p.T:=by omega
     have v1:q< m0.length:=by rw [←p2.z];exact hq1
     obtain ⟨gi,oi,ci',ei, -, -,t0,F0⟩:=(P1.z.kept HY.z.1.gr).atB v1;injection ei with ei1 ei2 ei3
     subst ei1;clear ei2 ei3;obtain ⟨x,hx⟩:=exq (m0[q]);rw [←hx] at t0 F0;obtain ⟨k,D1,G1⟩: ∃k:Nat,x.tmod p.N=(k:Int)∧k< i:=by
      have h0:=Int.emod_nonneg x M1;have h1:=Int.emod_lt_of_pos x (show 0< p.N by omega);exact ⟨(x%p.N).toNat,by rw [Int.tmod_eq_emod_of_nonneg F0.1];omega,by have:=j1.z;omega⟩
     have o1:IntKind.i64.wrap x=x:=i6n _ (by have:=F0.2;have:=F0.1;omega);have F1:IntKind.i64.wrap (k:Int)=(k:Int):=i6n _ (by omega);have D2:(0:Int)≤(k:Int):=iNn k;have C2:(k:Int)< (i:Int):=by omega
     have o0:Hid (∀V,w8.grownBy V none→(∀o,V.cell? ⟨gp,o,none⟩=(p.cells:Array Value)[o]?)∧(∀o,V.cell? ⟨g,o,none⟩=(zM p (.slice (some ⟨ba,0,none⟩) i cb) (.slice none 0 0) (.slice Ad nd cd) (.slice Ac nc cc))[o]?)∧V.cell? ⟨gi,oi+q,none⟩=some (.int .u8 x)):=za (fun V hV=>by
      have h1:=(HY.z.1.kept hV).pb.prule;have h2:=(HY.z.1.kept hV).bk.rule;rw [←HP.z] at h1 h2;exact ⟨h1,h2,hV.cell t0 (by simp)⟩)
     have l0:Hid (w8.grownBy w8.drew none):=za (zb w8 1);have r2:=za G1;have HQ:=za (And.intro hq hq2);clear t0 F0 hx v1 hq1 hq2 HF i1 G1 w0;go_upto_region 18 with (fail)
     clear j0;refine ZR 13 ?_;refine mP0 (.pointer (some ⟨g,0,none⟩)) ?_;refine mP1 (.pointer (some ⟨g,0,none⟩)) 0 88 ?_;refine mP1 (.pointer (some ⟨g,12,none⟩)) 1 89 ?_;refine mQ1 (.slice (some ⟨ba,0,none⟩) i cb) 2 90 (fun w' hw' K hK=> ?_) ?_
     ·obtain ⟨C1,B1,A1⟩:=o0.z w' (l0.z.trans hw');go_simp;exact hK _ rfl rfl
     refine mP0 (.slice (some ⟨gi,oi,none⟩) LN ci) ?_;refine mP0 (.int .i64 q) ?_;refine mP2 (.pointer (some ⟨gi,oi+q,none⟩)) 4 92 5 93 ?_;refine mQ1 (.int .u8 x) 6 94 (fun w' hw' K hK=> ?_) ?_
     ·obtain ⟨C1,B1,A1⟩:=o0.z w' (l0.z.trans hw');go_simp;exact hK _ rfl rfl
     refine mN1 (Pv.eq (.int .i64 x)) 7 95 (fun w' hw' K hK=> ?_) ?_
     ·go_simp;exact hK _ _ rfl (by first|rfl|simp [o1,D1,F1]) gRf
     refine mP0 (.pointer (some ⟨gp,5,none⟩)) ?_;refine mQ1 (.int .i64 p.N) 9 97 (fun w' hw' K hK=> ?_) ?_
     ·obtain ⟨C1,B1,A1⟩:=o0.z w' (l0.z.trans hw');go_simp;exact hK _ rfl rfl
     refine mN2 (Pv.eq (.int .i64 k)) 8 96 10 98 (fun w' hw' K hK=> ?_) ?_
     ·go_simp;exact hK _ _ rfl (by first|rfl|simp [o1,D1,F1]) gRf
     refine mP2 (.pointer (some ⟨ba,k,none⟩)) 3 91 11 99 ?_;intro w9 p1;intro y0 k0 y1 k1 y2 k2 y3 k3
     iterate 8 (refine pD ?_;intro _)
     intro y12 k12;have e12:y12= .pointer (some ⟨ba,k,none⟩):=k12;subst e12;have n0:w8.grownBy w9 none:=l0.z.trans p1;obtain ⟨t1,t2,⟨cur,t3⟩,t4⟩:=HY.z;have u1:=t1.kept n0;have u2:=t2.kept n0;have u3:=t3.grown n0 (by simp);obtain ⟨w10,f0⟩:=exq (w9.setCell ⟨ba,k,none⟩ (.pointer none));have W0:k< (zU (YD b0 d a0 g0) L).length:=by rw [yP,A0.z];exact r2.z
     have J0: ∃u,w9.cell? ⟨ba,k,none⟩=some (.pointer u):=by
      obtain ⟨g',o',c',e',_,_,hc⟩:=u2.atAO W0;injection e' with e1
      injection e1 with e1
      injection e1 with e1 e4
      subst e1 e4;rw [Nat.zero_add] at hc;exact ⟨_,hc⟩
     obtain ⟨u0,f2⟩:=J0;have E1:=u3.free k;have C0:Hid (Ow w b0 d a0 c0 vl (.slice Ad nd cd) (.slice Ac nc cc) gp g S L (.slice (some ⟨ba,0,none⟩) i cb) w10∧Sl ZP (fun b=>b=ba) w10 (.slice (some ⟨ba,0,none⟩) i cb) (zU (YD b0 d a0 (Fe g0 k)) L)∧(∃cur,Bk w10 ba 53 cur)∧((Vr (p19 b0).N).filter fun j=> !Fe g0 k j).length≤q+1):=za (by
      have h2:=u2.setAO u3 W0;have H0:w9.grownBy w10 (some ba):=by rw [f0];exact zD _ _ k _
      rw [OS, ←f0] at h2;exact ⟨u1.set u3 (by decide) (by decide) R1.z.1 H0,h2.1,⟨_,h2.2⟩,by have:=Df g0 k _ (yv (Qo (p19 b0).N));omega⟩)
     clear k0 k1 k2 k3 p1 n0 t1 t2 t3 t4 u1 u2 u3 W0 HY o0 l0 B0;show wpList _ _ _ _ _ _;simp only [Act.put,sAa,sAb,sAc];go_wp2_with fail;rw [←f0];clear f0 f2 E1;go_roundg (gk - 1)
     case measure=>have:=HQ.z.2;omega
     case rel=>exact ⟨q+1,Fe g0 k,by have:=HQ.z;omega,by go_num,C0⟩
    ·have b2:(¬((q:Int)< (LN:Int)))∨((q:Int)< (LN:Int)∧ ¬((q:Int)< p.T)):=by omega
     clear R0 HY i1 B0;rcases b2 with h1|⟨h1,h2⟩
     all_goals
      clear hq w0;go_wp2_with fail;go_ret3;exact HF.z
  ·have F2:(i:Int)+1≤p.N:=by omega
   have Y1:i< 7:=by omega
   have s2:IntKind.i64.wrap ((i:Int)+1+1)=(i:Int)+1+1:=i6n _ (by omega);have O1:Hid (∀V,w7.grownBy V none→Calls prog 18 #[p.v, .int .i64 d, .int .i64 ((i:Int)+1),(.slice Ac nc cc)] V fun e W'=> ∃gA,e= .returned (.tuple #[.pointer (some ⟨gA,0,none⟩), .int .i64 0])∧Nw w7 (anE b0 d ((i:Int)+1) a0) gA W'∧V.grownBy W' none):=za (fun V hV=>by
    have hd:=HD.z;rw [HP.z] at hd ⊢;have hm:1≤(i:Int)+1∧(i:Int)+1≤(p19 b0).N:=by rw [←HP.z];omega
    refine (MD (anE b0 d ((i:Int)+1) a0) _ _ V (ZY b0) (n19 hd) (n19 hm) (HO.z.cm.kept hV) (N1.z.kept (HO.z.gr.trans hV))).mono ?_;rintro e W' ⟨hg,k⟩;rw [if_pos (JD (Hj hd hm))] at k;obtain ⟨gA,gM,rfl,k1,k2,k3⟩:=k;have hs:=hV.size;exact ⟨gA,rfl,⟨gM,⟨nLT hs k1,nLT hs k2⟩,k3.more fun b _ hb=>⟨nLT hs hb.1,hb.2⟩⟩,hg⟩)
   have o0:Hid (∀V,w7.grownBy V none→(∀o,V.cell? ⟨gp,o,none⟩=(p.cells:Array Value)[o]?)∧ ∀o,V.cell? ⟨g,o,none⟩=(zM p va (.slice none 0 0) (.slice Ad nd cd) (.slice Ac nc cc))[o]?):=za (fun V hV=>by
    have h1:=(HO.z.kept hV).pb.prule;have h2:=(HO.z.kept hV).bk.rule;rw [←HP.z] at h1 h2;exact ⟨h1,h2⟩)
   have l0:Hid (w7.grownBy w7.drew none):=za (zb w7 1);clear hO hA hL HX z0;go_upto_region 11 with (fail)
   clear j0;refine ZR 13 ?_;refine mQ0 (p.v) (fun w' hw' K hK=> ?_) ?_
   ·obtain ⟨hq1,hq2⟩:=o0.z w' (l0.z.trans hw');go_simp;exact hK _ rfl rfl
   refine mP0 (.int .i64 d) ?_;refine mP0 (.int .i64 ((i:Int)+1)) ?_;refine mP0 (.pointer (some ⟨g,0,none⟩)) ?_;refine mP1 (.pointer (some ⟨g,0,none⟩)) 3 57 ?_;refine mP1 (.pointer (some ⟨g,15,none⟩)) 4 58 ?_;refine mQ1 (.slice Ac nc cc) 5 59 (fun w' hw' K hK=> ?_) ?_
   ·obtain ⟨hq1,hq2⟩:=o0.z w' (l0.z.trans hw');go_simp;exact hK _ rfl rfl
   refine mN4 (FP w7 (anE b0 d ((i:Int)+1) a0)) 0 54 1 55 2 56 6 60 (fun w' hw' K hK=> ?_) ?_
   ·go_simp;refine (O1.z w' (l0.z.trans hw')).mono ?_;rintro e w3 ⟨gA,rfl,hn,hg3⟩;exact hK _ _ rfl ⟨gA,rfl,hn⟩ hg3
   refine mV (FP w7 (anE b0 d ((i:Int)+1) a0)) [(7,61)] (fun w' hw' x61 f1=>kD fun K hK=> ?_) ?_
   ·have f1: ∃gA,x61= .tuple #[.pointer (some ⟨gA,0,none⟩), .int .i64 0]∧Nw w7 (anE b0 d ((i:Int)+1) a0) gA w':=f1;obtain ⟨gA61,e61,f61⟩:=f1;subst e61;go_simp;exact hK _ _ rfl ⟨_,rfl,f61⟩ gRf
   refine mV (FQ w7 (anE b0 d ((i:Int)+1) a0)) [(8,53)] (fun w' hw' x53 v0=>kD fun K hK=> ?_) ?_
   ·have v0: ∃gA,x53= .tuple #[.pointer (some ⟨gA,0,none⟩), .int .i64 0]∧Nw w7 (anE b0 d ((i:Int)+1) a0) gA w':=v0;obtain ⟨gA53,e53,f53⟩:=v0;subst e53;go_simp;exact hK _ _ rfl ⟨_,rfl,f53⟩ gRf
   refine mS (.int .i64 0) [(8,53)] (fun w' hw' x53 v0=>kQ fun K hK=> ?_) ?_
   ·have v0: ∃gA,x53= .tuple #[.pointer (some ⟨gA,0,none⟩), .int .i64 0]∧Nw w7 (anE b0 d ((i:Int)+1) a0) gA w':=v0;obtain ⟨gA53,e53,f53⟩:=v0;subst e53;go_simp;exact hK _ rfl rfl
   refine mV (FQ w7 (anE b0 d ((i:Int)+1) a0)) [(9,62)] (fun w' hw' x62 d1=>kD fun K hK=> ?_) ?_
   ·have d1: ∃gA,x62= .pointer (some ⟨gA,0,none⟩)∧Nw w7 (anE b0 d ((i:Int)+1) a0) gA w':=d1;obtain ⟨gA62,e62,f62⟩:=d1;subst e62;go_simp;exact hK _ _ rfl ⟨_,rfl,f62⟩ gRf
   refine mP1 (.int .i64 0) 10 63 ?_;intro w8 r1
   iterate 11 (refine pD ?_;intro _)
   intro y11 k11 y12 k12;obtain ⟨gA,e11,gM,⟨J1,I1⟩,K1⟩:=k11;have e12:y12= .int .i64 0:=k12;subst e11 e12;have X0:w7.grownBy w8 none:=l0.z.trans r1;have O0:Hid (Ow w b0 d a0 c0 vl (.slice Ad nd cd) (.slice Ac nc cc) gp g (gA::gM::S) (L++ [(gA,gM)]) va w8):=za (HO.z.add (by rw [←HP.z];exact HD.z) (by rw [A0.z, ←HP.z];omega) X0 J1 I1 (by rw [A0.z];exact K1));have V0:Hid (Acc ZP (g+1) 53 (fun b=>b≠g) w8 va (L.map fun q=>some q.1)):=za (HA.z.kept X0);clear r1 X0 J1 I1 K1 O1 o0 l0 HO HA;refine wpList_nil ?_;simp only [Act.put,sAa,sAb,sAc];have Q0:=O0.z.bk.rule;rw [←HP.z] at Q0;have G0:=O0.z.bk.lt;go_wp2_with (at_builtin;refine zW rfl (.tmp 70) (.tmp 72) rfl (E:=ZP) (y:=some gA) Dj V0.z rfl rfl rfl (by rw [lLm,A0.z];omega) (Nat.succ_le_of_lt G0) (fun b hb=>by omega) ?_);intro v9 w9 b1 n0 z1;obtain ⟨A9,n9,c9,e9⟩:=b1.sl.shape;subst e9;have K0:=O0.z.bk.grown n0 (fun e=>by have:=(V0.z.lt g e.symm).1;omega);rw [←HP.z] at K0;obtain ⟨w10,f0⟩:=exq (w9.setCell ⟨g,12,none⟩ (.slice A9 n9 c9));have H0:w9.grownBy w10 (some g):=by rw [f0];exact zD _ _ 12 _
   have L0:Bk w10 g 45 (zM p (.slice A9 n9 c9) (.slice none 0 0) (.slice Ad nd cd) (.slice Ac nc cc)):=by rw [f0];exact K0.set 12 _
   have C0:Hid (∃S L,L.length=i+1∧Ow w b0 d a0 c0 vl (.slice Ad nd cd) (.slice Ac nc cc) gp g S L (.slice A9 n9 c9) w10∧Acc ZP (g+1) 53 (fun b=>b≠g) w10 (.slice A9 n9 c9) (L.map fun q=>some q.1)):=za (by
    have R0:yC va.ownBlock (some g) w8 w10:=((yC.refl _ _ w8).step n0 (.inr (.inl rfl))).step H0 (.inr (.inr rfl));have M0:Acc ZP (g+1) 53 (fun b=>b≠g) w10 (.slice A9 n9 c9) ((L++ [(gA,gM)]).map fun q=>some q.1):=by
     rw [lMa];exact b1.keep H0 (fun b hb e=>hb (by injection e))
    obtain ⟨S',q1,q2⟩:=O0.z.put V0.z (by decide) R0 z1 M0 (by rw [←HP.z];exact L0);exact ⟨S',L++ [(gA,gM)],by rw [lLa,A0.z,List.length_singleton],q1,M0⟩)
   have Y0:=K0.rule;have x1:=K0.free;clear b1 n0 z1 K0 H0 L0 Q0 O0 V0 A0 G0;go_wp2_with fail;rw [←f0];clear f0 Y0 x1;go_roundg (gk - 1)
   case measure=>omega
   case rel=>exact ⟨i+1, .slice A9 n9 c9,by omega,by go_num,C0⟩
end
end Go.Proofs.YtkdfjkdphdfclaaGreatDoor
