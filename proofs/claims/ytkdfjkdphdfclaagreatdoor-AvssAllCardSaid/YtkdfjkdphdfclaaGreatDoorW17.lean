/- Part 17 of the proof of a card of AvssOne, AvssAll. -/
import Derived.Test.YtkdfjkdphdfclaaGreatDoorW16
set_option maxRecDepth 100000
set_option maxHeartbeats 16000000
set_option linter.unusedVariables false
set_option linter.unusedSimpArgs false
namespace Go.Proofs.YtkdfjkdphdfclaaGreatDoor
open Tryz
section
open Go Go.RowKit Go.Shelf Go.Maps
theorem Bk.keep2{w w':World}{b gA gM:Nat}{t:TypeId}{cs:Array Value}(h:Bk w b t cs)(hg:zJ gA gM w w')(hA:b≠gA)(hM:b≠gM):Bk w' b t cs:=by
 obtain ⟨u,k1,k2⟩:=hg.split;exact (h.grown k1 (fun e=>by injection e with e;exact hM e)).grown k2 (fun e=>by injection e with e;exact hA e)
attribute [local go_sem] Oper.semAt_some
end
section
open Go
structure zI (E:zv) (st:ASt):Prop where
 heard: ∀k i x,st.heard k i=some x→(k=8∨k=9)∧(1≤i∧i≤E.p.N)∧ZL E i x
 dealt: ∀x,st.dealt=some x→Ym E x
 own: ∀x,st.own=some x→Ym E x
 done:st.done=true→st.own≠none
theorem zI.start(E:zv):zI E ASt.start:=⟨fun _ _ _ h=>by simp [ASt.start] at h,fun _ h=>by simp [ASt.start] at h,fun _ h=>by simp [ASt.start] at h,fun h=>by simp [ASt.start] at h⟩
theorem EC{p:Par}(hs:Sm p)(hm:Zk p=true){m:List (List (List Int))}{t:Nat}(ht:1≤t)(h: ∀M∈m,M.length=t∧ ∀r∈M,r.length=t∧ ∀y∈r,isB p y=true){i:Int}(hi:0≤i):(zF p m i).length=m.length∧ ∀c∈zF p m i,c.length=t∧ ∀y∈c,isB p y=true:=by
 refine ⟨by simp [zF],fun c hc=> ?_⟩;obtain ⟨M,hM,rfl⟩:=List.mem_map.1 hc;obtain ⟨h1,h2⟩:=h M hM;have hne:M≠ []:=by rintro rfl;simp at h1;omega
 have hw:yV M=t:=Ox M 0 (fun r hr=>(h2 r hr).1) (Nat.zero_le _) hne;refine ⟨by simp [zx,yt,hw],fun y hy=> ?_⟩;obtain ⟨c,hc,rfl⟩:=List.mem_map.1 hy;obtain ⟨j,hj,rfl⟩:=List.mem_map.1 hc;rw [hw] at hj;have hj:=List.mem_range.1 hj;refine CD hs hm (fun y hy=> ?_) hi;obtain ⟨r,hr,rfl⟩:=List.mem_map.1 hy;obtain ⟨h3,h4⟩:=h2 r hr;rw [List.getElem?_eq_getElem (by omega)];exact h4 _ (lGm _)
theorem Dt{p:Par}(hs:Sm p)(hm:Zk p=true){m:List (List (List Int))}{t:Nat}(h: ∀M∈m,M.length=t∧ ∀r∈M,r.length=t∧ ∀y∈r,isB p y=true){i:Int}(hi:0≤i):(yA p m i).length=m.length∧ ∀c∈yA p m i,c.length=t∧ ∀y∈c,isB p y=true:=by
 refine ⟨by simp [yA],fun c hc=> ?_⟩;obtain ⟨M,hM,rfl⟩:=List.mem_map.1 hc;obtain ⟨h1,h2⟩:=h M hM;refine ⟨by simp [zx,h1],fun y hy=> ?_⟩;obtain ⟨r,hr,rfl⟩:=List.mem_map.1 hy;exact CD hs hm (h2 r hr).2 hi
theorem EP{p:Par}{s t k:Nat}{x:zu}{coms:List (List Int)}{d:Int}(ho:ZM s t k x)(hb:yE p x.m coms d=true): ∀M∈x.m,M.length=t∧ ∀r∈M,r.length=t∧ ∀y∈r,isB p y=true:=fun M hM=>
 ⟨(ho.m.2 M hM).1,fun r hr=>⟨(ho.m.2 M hM).2 r hr,(((GA (Qh hb)).2 M hM).2 r hr).2⟩⟩
theorem YO{E:zv}{st:ASt}{k i:Int}{m:List (List (List Int))}(h:i∈zy E st k m): ∃x,st.heard k i=some x∧x.m=m:=by
 unfold zy at h;obtain ⟨_,h2⟩:=List.mem_filter.1 h;unfold Xt at h2
 revert h2
 cases st.heard k i with
 |none=>intro h;cases h
 |some x=>intro h;exact ⟨x,rfl,of_decide_eq_true h⟩
theorem Ps{l:List (List (Int×Int))}(h: ∀c∈l, ∀y∈c,0≤y.1∧0≤y.2): ∀y∈zr l,0≤y.1∧0≤y.2:=fun y hy=>by
 obtain ⟨c,hc,rfl⟩:=List.mem_map.1 hy;cases c with
 |nil=>exact ⟨Int.le_refl 0,Int.le_refl 0⟩
 |cons z c=>exact h _ hc z mCs
theorem PJ{p:Par}{l:List (List (Int×Int))}{cs:List (List Int)}{t:Nat}(h:xA p l cs=true)(hc: ∀c∈cs,c.length=t):l.length=cs.length∧ ∀c∈l,c.length=t:=by
 have h:=of_decide_eq_true h;refine ⟨by rw [←h,lLm],fun c hm=> ?_⟩
 have:=hc _ (h ▸ List.mem_map.2 ⟨c,hm,rfl⟩)
 rwa [lLm] at this
theorem Ya{E:zv}(hE:E.ok)(hs:Sm E.p){st:ASt}(g0:zI E st){m:List (List (List Int))}(d0:zl E st m≠ []):Ym E (yu E st m (zl E st m))∧(yu E st m (zl E st m)).m=m:=by
 have hm:=hE.may;have ht:=NI hm;have f0: ∀h∈zl E st m, ∃x,st.heard h.1 h.2=some x∧x.m=m∧ZL E h.2 x:=fun h hh=>by
  obtain ⟨k,_,e,_⟩:=Yy E st m d0;rw [e] at hh;obtain ⟨i,hi,rfl⟩:=List.mem_map.1 hh;obtain ⟨x,h1,h2⟩:=YO hi;exact ⟨x,h1,h2,(g0.heard _ _ _ h1).2.2⟩
 obtain ⟨h0,o0⟩:=List.exists_mem_of_ne_nil _ d0;obtain ⟨x0,_,rfl,a0⟩:=f0 h0 o0;have n0:=VB hE d0;have m0:((zl E st x0.m).take (E.p.T+1).toNat).length=(E.p.T+1).toNat:=by rw [lLt];omega
 have c0:=Rf hE d0;have i0:=EP a0.ok a0.bond;have j0:0≤E.me:=by have:=hE.me;omega
 have hr:=EC hs hm (by omega) i0 j0;have hc:=Dt hs hm i0 j0;have k0:x0.m.length=E.coms.length:=by rw [(Ul hE).1,a0.ok.m.1]
 have ha:=Uy hm hs c0 (one:=fun x=>zr x.b) (cs:=zF E.p x0.m E.me) (hr.1.trans k0) (fun c hc=>⟨by rw [m0];exact (hr.2 c hc).1,(hr.2 c hc).2⟩) (st:=st) (fun h hh=>by
  obtain ⟨x,h1,h2,h3⟩:=f0 h (mMt hh);refine ⟨x,h1,Ps h3.nn.b, ?_⟩
  have:=h3.b
  rwa [h2] at this)
 have hb:=Uy hm hs c0 (one:=fun x=>zr x.a) (cs:=yA E.p x0.m E.me) (hc.1.trans k0) (fun c l0=>⟨by rw [m0];exact (hc.2 c l0).1,(hc.2 c l0).2⟩) (st:=st) (fun h hh=>by
  obtain ⟨x,h1,h2,h3⟩:=f0 h (mMt hh);refine ⟨x,h1,Ps h3.nn.a, ?_⟩;have h4:=of_decide_eq_true h3.a;rw [h2,VD (Yu hm).P x0.m _ (OG (by omega) a0.ok) h.2 E.me] at h4;exact decide_eq_true h4)
 have b0:Ym E ⟨x0.m,zX E st ((zl E st x0.m).take (E.p.T+1).toNat) (fun x=>zr x.b),zX E st ((zl E st x0.m).take (E.p.T+1).toNat) (fun x=>zr x.a)⟩:=by
  have la:=PJ ha.1 fun c h=>(hr.2 c h).1
  have lb:=PJ hb.1 fun c h=>(hc.2 c h).1
  exact ⟨⟨a0.ok.m,⟨by rw [la.1,hr.1,a0.ok.m.1],la.2⟩,⟨by rw [lb.1,hc.1,a0.ok.m.1],lb.2⟩⟩,a0.bond,ha.1,hb.1,⟨ha.2,hb.2⟩⟩
 unfold yu;cases hd:st.dealt with
 |none=>exact ⟨b0,rfl⟩
 |some d=>
  dsimp only;split
  ·rename_i e;exact ⟨g0.dealt d hd,e⟩
  ·exact ⟨b0,rfl⟩
section
variable {E:zv} {s:ASt}
theorem zI.put(h:zI E s){k i:Int}{x:zu}(hk:k=8∨k=9)(hi:1≤i∧i≤E.p.N)(hx:ZL E i x):zI E (s.put k i x):=⟨fun k' i' y hy=>by
 unfold ASt.put at hy;dsimp only at hy;split at hy
 ·rename_i e;obtain ⟨rfl,rfl⟩:=e;injection hy with hy
  subst hy;exact ⟨hk,hi,hx⟩
 ·exact h.heard k' i' y hy,h.dealt,h.own,h.done⟩
theorem zI.ofEnd(h:zI E s)(out:List yL):zI E (yn E s out).1:=by
 unfold yn;split
 ·rename_i o ho;split
  ·exact ⟨h.heard,h.dealt,h.own,fun _ e=>by rw [ho] at e;cases e⟩
  ·exact h
 ·exact h
theorem zI.setOwn(h:zI E s){o:zu}(ho:Ym E o):zI E {s with own:=some o}:=⟨h.heard,h.dealt,fun x hx=>by injection hx with hx;subst hx;exact ho,fun _ e=>by cases e⟩
theorem zI.setDealt(h:zI E s){o:zu}(ho:Ym E o):zI E {s with dealt:=some o}:=⟨h.heard,fun x hx=>by injection hx with hx;subst hx;exact ho,h.own,h.done⟩
def ZG(E:zv)(x:zu)(i:Int):zu:=⟨x.m,zA (x.a.map (atP E.p.Q i)),zA (x.b.map (atP E.p.Q i))⟩
theorem UT{F:zv}(hm:Zk E.p=true)(ep:F.p=E.p)(ec:F.coms=E.coms)(ed:F.dealer=E.dealer)(hF:0≤F.me)(hE:0≤E.me){x:zu}(h:Ym E x):zi F E.me (zO E x F.me)=(ZG E x F.me,true)∧ZL F E.me (ZG E x F.me):=by
 have h1:=Ij hm ep ec ed hF hE h;exact ⟨OZ (by rw [ep];exact hm) h1,h1⟩
theorem xO(hE:E.ok){x:zu}(h:Ym E x):zi E E.me (zO E x E.me)=(ZG E x E.me,true)∧ZL E E.me (ZG E x E.me):=by
 have:=hE.me
 exact UT hE.may rfl rfl rfl (by omega) (by omega) h
theorem zI.hear(hE:E.ok)(hs:Sm E.p){tell:ASt→zu→ASt×List yL}(ht: ∀s o,zI E s→Ym E o→zI E (tell s o).1)(h:zI E s){k i:Int}{l:List Int}(hk:k=8∨k=9)(hp:(zi E i l).2=true→ZL E i (zi E i l).1):zI E (xc E tell s k i l).1:=by
 unfold xc;split
 ·exact h
 ·rename_i hn;simp only [not_or,Bool.not_eq_false] at hn;have hx:=hp hn.2.2.2;have h1:=h.put hk ⟨by omega,by omega⟩ hx;dsimp only;split
  ·rename_i hc;have hk:=(Ya hE hs h1 hc.2).1;exact (ht _ _ (h1.setOwn hk) hk).ofEnd _
  ·exact h1.ofEnd _
theorem zI.hear1(hE:E.ok)(hs:Sm E.p)(h:zI E s){k i:Int}{l:List Int}(hk:k=8∨k=9)(hp:(zi E i l).2=true→ZL E i (zi E i l).1):zI E (Zf E s k i l).1:=zI.hear hE hs (fun _ _ h _=>h) h hk hp
theorem zI.hear2(hE:E.ok)(hs:Sm E.p)(h:zI E s){k i:Int}{l:List Int}(hk:k=8∨k=9)(hp:(zi E i l).2=true→ZL E i (zi E i l).1):zI E (yU E s k i l).1:=zI.hear hE hs (fun s o h ho=>by
 show zI E (Zf E s yR E.me (zO E o E.me)).1;exact zI.hear1 hE hs h (.inr rfl) fun _=>by rw [(xO hE ho).1];exact (xO hE ho).2) h hk hp
theorem zI.take(hE:E.ok)(hs:Sm E.p)(h:zI E s)(k i:Int){l:List Int}(hl: ∀y∈l,0≤y):zI E (zV E s k i l).1:=by
 unfold zV;split
 ·split
  ·exact h
  ·rename_i hn;have hw:=TC hl (by simpa using hn:(zT E l).2=true);exact zI.hear2 hE hs (h.setDealt hw) (.inl rfl) fun _=>by rw [(xO hE hw).1];exact (xO hE hw).2
 ·split
  ·rename_i hk;exact zI.hear2 hE hs h hk (Zs hl)
  ·exact h
end
theorem xT{N i:Int}:i∈Vr N↔1≤i∧i≤N:=by
 unfold Vr;rw [lMM];constructor
 ·rintro ⟨j,hj,rfl⟩
  have:=List.mem_range.1 hj
  omega
 ·rintro ⟨h1,h2⟩;exact ⟨(i - 1).toNat,List.mem_range.2 (by omega),by omega⟩
def GR(E:zv)(s:ASt)(o:zu):ASt:=if (s.heard 9 E.me).isSome=true then s else s.put 9 E.me (ZG E o E.me)
noncomputable def xF(E:zv)(s:ASt)(m:List (List (List Int))):ASt×List yL:=
 if s.own=none∧zl E s m≠ [] then yn E (GR E {s with own:=some (yu E s m (zl E s m))} (yu E s m (zl E s m))) (yI E 9 (yu E s m (zl E s m)))
 else yn E s []
theorem Vd{E:zv}{s:ASt}(h:s.own=none)(out:List yL):yn E s out=(s,out):=by
 unfold yn;rw [h]
theorem Di(E:zv)(s:ASt)(b:List yL):yn E (yn E s []).1 (b++(yn E s []).2)=yn E s b:=by
 cases ho:s.own with
 |none=>rw [Vd ho,Vd ho,Vd ho,List.append_nil]
 |some o=>
  by_cases hc:s.done=false∧((zy E s yR o.m).length:Int)≥E.p.N - E.p.T
  ·have e1: ∀out,yn E s out=({s with done:=true},out++ [(Ph,0,(yy o.m).flatten)]):=fun out=>by
    unfold yn;rw [ho];dsimp only;rw [if_pos hc]
   rw [e1,e1];unfold yn;dsimp only;rw [ho];dsimp only;rw [if_neg (fun h=>by cases h.1)];simp
  ·have e1: ∀out,yn E s out=(s,out):=fun out=>by
    unfold yn;rw [ho];dsimp only;rw [if_neg hc]
   rw [e1,e1,e1,List.append_nil]
section
variable {E:zv} {s:ASt}
theorem Ig(hE:E.ok){o:zu}(ho:Ym E o)(hown:s.own≠none):Zf E s yR E.me (zO E o E.me)=if (s.heard 9 E.me).isSome=true then (s, []) else yn E (s.put 9 E.me (ZG E o E.me)) []:=by
 have hp:=(xO hE ho).1;have hme:=hE.me;unfold Zf xc;rw [hp];by_cases h:(s.heard 9 E.me).isSome=true
 ·rw [if_pos (.inl h),if_pos h]
 ·rw [if_neg (by simp only [not_or];exact ⟨h,by omega,by omega,by simp⟩),if_neg h];dsimp only;rw [if_neg (fun hc=>hown hc.1)];rfl
theorem Ml(hE:E.ok)(hs:Sm E.p)(hst:zI E s){k i:Int}{l:List Int}(hk:k=8∨k=9)(hp:(zi E i l).2=true→ZL E i (zi E i l).1):
  yU E s k i l=if (s.heard k i).isSome=true∨i< 1∨E.p.N< i∨(zi E i l).2=false then (s, []) else xF E (s.put k i (zi E i l).1) (zi E i l).1.m:=by
 unfold yU xc;split
 ·rfl
 ·rename_i hn;simp only [not_or,Bool.not_eq_false] at hn;have h1:=hst.put hk ⟨by omega,by omega⟩ (hp hn.2.2.2);dsimp only;unfold xF;split
  ·rename_i hc;have hkn:=(Ya hE hs h1 hc.2).1;unfold Zg;rw [Ig hE hkn (by simp)];unfold GR;dsimp only;split
   ·rw [List.append_nil];rfl
   ·exact Di E _ _
  ·rfl
end
theorem Ir(E:zv)(s:ASt)(out:List yL):((yn E s out).1=s∨(yn E s out).1={s with done:=true})∧(∀y∈(yn E s out).2,y∈out∨y.1=10)∧(∀y∈out,y∈(yn E s out).2)∧
  ((yn E s out).1.done=true→s.done=true∨ ∃o,s.own=some o∧((zy E s 9 o.m).length:Int)≥E.p.N - E.p.T)∧
  (∀o,s.own=some o→((zy E s 9 o.m).length:Int)≥E.p.N - E.p.T→(yn E s out).1.done=true)∧((yn E s out).2.filter fun y=>decide (y.1≠10))=out.filter fun y=>decide (y.1≠10):=by
 rcases (show s.own=none∨ ∃o,s.own=some o by cases s.own<;>simp) with ho|⟨o,ho⟩
 ·rw [Vd ho];exact ⟨.inl rfl,fun y h=> .inl h,fun y h=>h,fun h=> .inl h,fun o h=>(by rw [ho] at h;cases h),rfl⟩
 ·by_cases hc:s.done=false∧((zy E s yR o.m).length:Int)≥E.p.N - E.p.T
  ·have e1:yn E s out=({s with done:=true},out++ [(Ph,0,(yy o.m).flatten)]):=by
    unfold yn;rw [ho];dsimp only;rw [if_pos hc]
   rw [e1];refine ⟨.inr rfl,fun y h=> ?_,fun y h=>mAl _ h,fun _=> .inr ⟨o,ho,hc.2⟩,fun _ _ _=>rfl,by simp [Ph]⟩;rcases List.mem_append.1 h with h|h
   ·exact .inl h
   ·rw [List.mem_singleton.1 h];exact .inr rfl
  ·have e1:yn E s out=(s,out):=by
    unfold yn;rw [ho];dsimp only;rw [if_neg hc]
   rw [e1];refine ⟨.inl rfl,fun y h=> .inl h,fun y h=>h,fun h=> .inl h,fun o' h1 h2=> ?_,rfl⟩;rw [ho] at h1;injection h1 with h1
   subst h1;cases hd:s.done with
   |true=>rfl
   |false=>exact absurd ⟨hd,h2⟩ hc
structure zaJ (E:zv) (s s':ASt) (out:List yL):Prop where
 own: ∀o,s.own=some o→s'.own=some o
 heard: ∀k j x,s.heard k j=some x→s'.heard k j=some x
 done:s.done=true→s'.done=true
 fresh: ∀k j x,s'.heard k j=some x→s.heard k j=some x∨(k=9∧j=E.me∧ ∃o,s'.own=some o∧x.m=o.m)
 outs: ∀y∈out,y.1=10∨(s.own=none∧ ∃o,s'.own=some o∧ ∃k,(1≤k∧k≤E.p.N)∧k≠E.me∧y=(9,k,zO E o k))
 sent:s.own=none→ ∀o,s'.own=some o→(∀k,1≤k→k≤E.p.N→k≠E.me→(9,k,zO E o k)∈out)∧(s'.heard 9 E.me).isSome=true∧zl E s o.m≠ []
 full: ∀o,s'.own=some o→((zy E s' 9 o.m).length:Int)≥E.p.N - E.p.T→s'.done=true
 doneq:s'.done=true→s.done=true∨ ∃o,s'.own=some o∧((zy E s' 9 o.m).length:Int)≥E.p.N - E.p.T
 cnt:((out.filter fun y=>decide (y.1≠10)).length:Int)≤if s.own=none∧s'.own≠none then E.p.N - 1 else 0
theorem XU{E:zv}{k:Int}{x:zu}{y:yL}:y∈yI E k x↔ ∃i,(1≤i∧i≤E.p.N)∧i≠E.me∧y=(k,i,zO E x i):=by
 unfold yI;rw [lMM];constructor
 ·rintro ⟨i,hi,rfl⟩;obtain ⟨h1,h2⟩:=List.mem_filter.1 hi;exact ⟨i,xT.1 h1,by simpa using h2,rfl⟩
 ·rintro ⟨i,h1,h2,rfl⟩;exact ⟨i,List.mem_filter.2 ⟨xT.2 h1,by simpa using h2⟩,rfl⟩
theorem Ut{N:Int}(h:0≤N):((Vr N).length:Int)=N:=by
 unfold Vr;simp;omega
theorem Va{a:Int}: ∀{l:List Int},a∈l→(l.filter fun i=>decide (i≠a)).length+1≤l.length
 |x::l,h=>by
  by_cases e:x=a
  ·subst e
   have:=List.length_filter_le (fun i=>decide (i≠x)) l
   simp;simpa using this
  ·have hm:a∈l:=by
    rcases List.mem_cons.1 h with h|h
    ·exact absurd h.symm e
    ·exact h
   have:=Va hm
   simp only [List.filter_cons,e,ne_eq,not_false_eq_true,decide_true,if_true,List.length_cons];simp only [ne_eq] at this;omega
theorem US{E:zv}(hme:1≤E.me∧E.me≤E.p.N)(k:Int)(x:zu):((yI E k x).length:Int)≤E.p.N - 1:=by
 unfold yI;rw [lLm];have h1:=Va (xT.2 hme);have h2:=Ut (N:=E.p.N) (by omega);omega
theorem VK{E:zv}(hE:E.ok){s:ASt}(m:List (List (List Int)))(hkm:zl E s m≠ []→(yu E s m (zl E s m)).m=m):zaJ E s (xF E s m).1 (xF E s m).2∧(xF E s m).1.dealt=s.dealt∧((xF E s m).1.own=none→(xF E s m).1=s∧zl E s m= []):=by
 unfold xF;split
 ·rename_i hc;obtain ⟨o,ho⟩:=exq (yu E s m (zl E s m));have hom:=hkm hc.2;rw [←ho] at hom ⊢;obtain ⟨s2,hs2⟩: ∃y,y=GR E {s with own:=some o} o:=⟨_,rfl⟩;rw [←hs2];have f_own:s2.own=some o:=by rw [hs2];unfold GR;split<;>rfl
  have f_dealt:s2.dealt=s.dealt:=by rw [hs2];unfold GR;split<;>rfl
  have f_done:s2.done=s.done:=by rw [hs2];unfold GR;split<;>rfl
  have f_heard: ∀k j x,s.heard k j=some x→s2.heard k j=some x:=fun k j x h=>by
   rw [hs2];unfold GR;split
   ·exact h
   ·rename_i hn;unfold ASt.put;dsimp only;split
    ·rename_i e;obtain ⟨rfl,rfl⟩:=e;exact absurd (by rw [show ({s with own:=some o}:ASt).heard 9 E.me=s.heard 9 E.me from rfl,h];rfl) hn
    ·exact h
  have f_me:(s2.heard 9 E.me).isSome=true:=by
   rw [hs2];unfold GR;split
   ·assumption
   ·unfold ASt.put;simp
  have f_fresh: ∀k j x,s2.heard k j=some x→s.heard k j=some x∨(k=9∧j=E.me∧x.m=o.m):=fun k j x h=>by
   rw [hs2] at h;unfold GR at h;split at h
   ·exact .inl h
   ·unfold ASt.put at h;dsimp only at h;split at h
    ·rename_i e;injection h with h
     subst h;exact .inr ⟨e.1,e.2,rfl⟩
    ·exact .inl h
  obtain ⟨h1,h2,h3,h4,h5,h6⟩:=Ir E s2 (yI E 9 o);obtain ⟨s',hs'⟩:=exq ((yn E s2 (yI E 9 o)).1);obtain ⟨out,hout⟩:=exq ((yn E s2 (yI E 9 o)).2);rw [←hs'] at h1 h4 h5 ⊢;rw [←hout] at h2 h3 h6 ⊢;have g_own:s'.own=some o:=by rcases h1 with h|h<;>rw [h]<;>exact f_own
  have g_heard:s'.heard=s2.heard:=by rcases h1 with h|h<;>rw [h]
  have g_dealt:s'.dealt=s2.dealt:=by rcases h1 with h|h<;>rw [h]
  have g_like: ∀k m,zy E s' k m=zy E s2 k m:=fun k m=>by unfold zy Xt;rw [g_heard]
  refine ⟨⟨fun o' h=>(by rw [hc.1] at h;cases h),fun k j x h=>(by rw [g_heard];exact f_heard k j x h),fun h=> ?_,fun k j x h=> ?_,fun y hy=> ?_,fun _ o' h=> ?_,fun o' h hl=> ?_,fun h=> ?_, ?_⟩,g_dealt.trans f_dealt,fun h=>(by rw [g_own] at h;cases h)⟩
  ·rcases h1 with e|e<;>rw [e]
   rw [f_done];exact h
  ·rw [g_heard] at h;rcases f_fresh k j x h with h|⟨e1,e2,e3⟩
   ·exact .inl h
   ·exact .inr ⟨e1,e2,o,g_own,e3⟩
  ·rcases h2 y hy with h|h
   ·obtain ⟨k,k1,k2,rfl⟩:=XU.1 h;exact .inr ⟨hc.1,o,g_own,k,k1,k2,rfl⟩
   ·exact .inl h
  ·rw [g_own] at h;injection h with h
   subst h;refine ⟨fun k k1 k2 k3=>h3 _ (XU.2 ⟨k,⟨k1,k2⟩,k3,rfl⟩),by rw [g_heard];exact f_me,by rw [hom];exact hc.2⟩
  ·rw [g_own] at h;injection h with h
   subst h;rw [g_like] at hl;exact h5 o f_own hl
  ·rcases h4 h with h|⟨o',e1,e2⟩
   ·exact .inl (by rw [←f_done];exact h)
   ·rw [f_own] at e1;injection e1 with e1
    subst e1;exact .inr ⟨o,g_own,by rw [g_like];exact e2⟩
  ·rw [h6,if_pos ⟨hc.1,by rw [g_own];simp⟩];have a1:=List.length_filter_le (fun y:yL=>decide (y.1≠10)) (yI E 9 o);have a2:=US hE.me 9 o;omega
 ·rename_i hc;obtain ⟨h1,h2,h3,h4,h5,h6⟩:=Ir E s [];obtain ⟨s',hs'⟩:=exq ((yn E s []).1);obtain ⟨out,hout⟩:=exq ((yn E s []).2);have hno:s.own=none→s'=s:=fun h=>by rw [hs',Vd h]
  rw [←hs'] at h1 h4 h5 ⊢;rw [←hout] at h2 h3 h6 ⊢;have g_own:s'.own=s.own:=by rcases h1 with h|h<;>rw [h]
  have g_heard:s'.heard=s.heard:=by rcases h1 with h|h<;>rw [h]
  have g_dealt:s'.dealt=s.dealt:=by rcases h1 with h|h<;>rw [h]
  have g_like: ∀k m,zy E s' k m=zy E s k m:=fun k m=>by unfold zy Xt;rw [g_heard]
  refine ⟨⟨fun o' h=>(by rw [g_own];exact h),fun k j x h=>(by rw [g_heard];exact h),fun h=> ?_,fun k j x h=>(by rw [g_heard] at h;exact .inl h),fun y hy=> ?_,fun e o' h=>(by rw [g_own,e] at h;cases h),fun o' h hl=> ?_,fun h=> ?_, ?_⟩,g_dealt,fun h=> ?_⟩
  ·rcases h1 with e|e<;>rw [e]
   exact h
  ·rcases h2 y hy with h|h
   ·cases h
   ·exact .inl h
  ·rw [g_own] at h;rw [g_like] at hl;exact h5 o' h hl
  ·rcases h4 h with h|⟨o',e1,e2⟩
   ·exact .inl h
   ·exact .inr ⟨o',by rw [g_own];exact e1,by rw [g_like];exact e2⟩
  ·rw [h6];simp only [List.filter_nil,List.length_nil];split<;>have:=hE.me<;>omega
  ·rw [g_own] at h;refine ⟨hno h, ?_⟩;cases he:zl E s m with
   |nil=>rfl
   |cons a b=>exact absurd ⟨h,by rw [he];simp⟩ hc
theorem UW{E:zv}{s:ASt}{k i:Int}{x:zu}{k':Int}{m:List (List (List Int))}(hm:m≠x.m)(hn:s.heard k i=none):zy E (s.put k i x) k' m=zy E s k' m:=by
 unfold zy;refine List.filter_congr fun j _=> ?_
 unfold Xt ASt.put;dsimp only;by_cases h:k'=k∧j=i
 ·obtain ⟨rfl,rfl⟩:=h;rw [if_pos ⟨rfl,rfl⟩,hn];exact decide_eq_false fun e=>hm e.symm
 ·rw [if_neg h]
theorem Vc{E:zv}{s:ASt}{k i:Int}{x:zu}{m:List (List (List Int))}(hm:m≠x.m)(hn:s.heard k i=none):zl E (s.put k i x) m=zl E s m:=by
 unfold zl;rw [UW hm hn,UW hm hn]
inductive Oh (E:zv) (s:ASt) (k i:Int) (l:List Int):ASt→List yL→Prop
 |no:Oh E s k i l s []
 |put (x:zu) (hx:zi E i l=(x,true)) (hg:ZL E i x) (hk:k=8∨k=9) (hi:1≤i∧i≤E.p.N) (hn:s.heard k i=none):Oh E s k i l (xF E (s.put k i x) x.m).1 (xF E (s.put k i x) x.m).2
 |deal (d:zu) (hd:Ym E d) (hk:k=7) (hi:i=0) (hn:s.dealt=none) (h8:s.heard 8 E.me=none):Oh E s k i l (xF E (({s with dealt:=some d}:ASt).put 8 E.me (ZG E d E.me)) d.m).1 (yI E 8 d++(xF E (({s with dealt:=some d}:ASt).put 8 E.me (ZG E d E.me)) d.m).2)
 |alone (d:zu) (hd:Ym E d) (hk:k=7) (hi:i=0) (hn:s.dealt=none) (h8:(s.heard 8 E.me).isSome=true):Oh E s k i l {s with dealt:=some d} (yI E 8 d)
theorem MO{E:zv}(hE:E.ok)(hs:Sm E.p){s:ASt}(hst:zI E s)(k i:Int){l:List Int}(hl: ∀y∈l,0≤y):Oh E s k i l (zV E s k i l).1 (zV E s k i l).2:=by
 have hme:=hE.me;have h2: ∀{s:ASt} {k i:Int} {l:List Int},zI E s→(k=8∨k=9)→((zi E i l).2=true→ZL E i (zi E i l).1)→yU E s k i l=if (s.heard k i).isSome=true∨i< 1∨E.p.N< i∨(zi E i l).2=false then (s, []) else xF E (s.put k i (zi E i l).1) (zi E i l).1.m:=fun a b c=>Ml hE hs a b c
 unfold zV;split
 ·rename_i hc;split
  ·exact .no
  ·rename_i hn;have hw:(zT E l).2=true:=by simpa using hn
   have hd:=TC hl hw;obtain ⟨d,ed⟩:=exq ((zT E l).1);rw [←ed] at hd ⊢;have hop:=xO hE hd;have e:=h2 (hst.setDealt hd) (k:=8) (i:=E.me) (l:=zO E d E.me) (.inl rfl) (fun _=>by rw [hop.1];exact hop.2);rw [hop.1] at e;unfold Zg;rw [show YE=(8:Int) from rfl,e];cases h8:s.heard 8 E.me with
   |none=>
    rw [if_neg (by
     simp only [not_or];exact ⟨by simp,by omega,by omega,by simp⟩)]
    exact .deal d hd hc.1 hc.2.1 hc.2.2 h8
   |some x=>
    rw [if_pos (.inl rfl)];dsimp only;rw [List.append_nil];exact .alone d hd hc.1 hc.2.1 hc.2.2 (by rw [h8];rfl)
 ·split
  ·rename_i hk;rw [h2 hst hk (Zs hl)];split
   ·exact .no
   ·rename_i hn;simp only [not_or,Bool.not_eq_false] at hn;obtain ⟨n1,n2,n3,n4⟩:=hn;have hg:=Zs hl n4;obtain ⟨x,ex⟩:=exq ((zi E i l).1);rw [←ex] at hg ⊢;exact .put x (Prod.ext ex.symm n4) hg hk ⟨by omega,by omega⟩ (by
     cases h:s.heard k i with
     |none=>rfl
     |some y=>rw [h] at n1;exact absurd rfl n1)
  ·exact .no
structure Tk (E:zv) (s:ASt) (k i:Int) (l:List Int) (s':ASt) (out:List yL):Prop where
 dealt: ∀d,s.dealt=some d→s'.dealt=some d
 own: ∀o,s.own=some o→s'.own=some o
 heard: ∀k j x,s.heard k j=some x→s'.heard k j=some x
 done:s.done=true→s'.done=true
 fresh: ∀k' j x,s'.heard k' j=some x→s.heard k' j=some x∨(k'=k∧j=i∧zi E i l=(x,true))∨(k'=8∧j=E.me∧ ∃d,s'.dealt=some d∧d.m=x.m)∨(k'=9∧j=E.me∧ ∃o,s'.own=some o∧o.m=x.m)
 outs: ∀y∈out,y.1=10∨(∃d,s'.dealt=some d∧ ∃k,(1≤k∧k≤E.p.N)∧k≠E.me∧y=(8,k,zO E d k))∨(∃o,s'.own=some o∧ ∃k,(1≤k∧k≤E.p.N)∧k≠E.me∧y=(9,k,zO E o k))
 sent:s.own=none→ ∀o,s'.own=some o→(∀k,1≤k→k≤E.p.N→k≠E.me→(9,k,zO E o k)∈out)∧(s'.heard 9 E.me).isSome=true∧ ∃s1:ASt,zl E s1 o.m≠ []∧(∀k j x,s1.heard k j=some x→s'.heard k j=some x)∧ ∀j x,s1.heard 9 j=some x→s.heard 9 j=some x∨(k=9∧j=i∧zi E i l=(x,true))
 live:(k=8∨k=9)→1≤i→i≤E.p.N→(zi E i l).2=true→(s'.heard k i).isSome=true
 cl1:(s.own=none→ ∀m,zl E s m= [])→s'.own=none→ ∀m,zl E s' m= []
 full:(∀o,s.own=some o→((zy E s 9 o.m).length:Int)≥E.p.N - E.p.T→s.done=true)→ ∀o,s'.own=some o→((zy E s' 9 o.m).length:Int)≥E.p.N - E.p.T→s'.done=true
 doneq:s'.done=true→s.done=true∨ ∃o,s'.own=some o∧((zy E s' 9 o.m).length:Int)≥E.p.N - E.p.T
 cnt:((out.filter fun y=>decide (y.1≠10)).length:Int)≤(if s.dealt=none∧s'.dealt≠none then E.p.N - 1 else 0)+(if s.own=none∧s'.own≠none then E.p.N - 1 else 0)
theorem Po{s:ASt}{k i:Int}{x:zu}(hn:s.heard k i=none){k' j:Int}{y:zu}(h:s.heard k' j=some y):(s.put k i x).heard k' j=some y:=by
 unfold ASt.put;dsimp only;split
 ·rename_i e;obtain ⟨rfl,rfl⟩:=e;rw [hn] at h;cases h
 ·exact h
theorem XN{s:ASt}{k i:Int}{x:zu}{k' j:Int}{y:zu}(h:(s.put k i x).heard k' j=some y):s.heard k' j=some y∨(k'=k∧j=i∧y=x):=by
 unfold ASt.put at h;dsimp only at h;split at h
 ·rename_i e;injection h with h
  exact .inr ⟨e.1,e.2,h.symm⟩
 ·exact .inl h
theorem GL{s:ASt}{k i:Int}{x:zu}:(s.put k i x).heard k i=some x:=by
 unfold ASt.put;simp
theorem Oh.tk{E:zv}(hE:E.ok)(hs:Sm E.p){s s':ASt}(hst:zI E s){k i:Int}{l:List Int}{out:List yL}(hp:k=8∨k=9→1≤i→i≤E.p.N→(zi E i l).2=true→(s'.heard k i).isSome=true)(h:Oh E s k i l s' out):Tk E s k i l s' out:=by
 have hN:=hE.me;cases h with
 |no=>
  refine ⟨fun d h=>h,fun d h=>h,fun k j x h=>h,fun h=>h,fun k' j x h=> .inl h,fun y hy=>(by cases hy),fun e o h=>(by rw [e] at h;cases h),hp,fun h=>h,fun h=>h,fun h=> .inl h, ?_⟩;simp only [List.filter_nil,List.length_nil];split<;>split<;>omega
 |put x hx hg hk hi hn=>
  have h1:=hst.put hk hi hg;obtain ⟨t,td,tn⟩:=VK hE (s:=s.put k i x) x.m (fun hne=>(Ya hE hs h1 hne).2);refine ⟨fun d h=>(by rw [td];exact h),fun o h=>t.own o h,fun k' j y h=>t.heard k' j y (Po hn h),fun h=>t.done h,fun k' j y h=> ?_,fun y hy=> ?_,fun e o h=> ?_,hp,fun hc e m=> ?_,fun _=>t.full,fun h=>t.doneq h, ?_⟩
  ·rcases t.fresh k' j y h with h|⟨e1,e2,o,e3,e4⟩
   ·rcases XN h with h|⟨e1,e2,e3⟩
    ·exact .inl h
    ·subst e3;exact .inr (.inl ⟨e1,e2,hx⟩)
   ·exact .inr (.inr (.inr ⟨e1,e2,o,e3,e4.symm⟩))
  ·rcases t.outs y hy with h|⟨_,o,e1,k,e2⟩
   ·exact .inl h
   ·exact .inr (.inr ⟨o,e1,k,e2⟩)
  ·obtain ⟨a,b,c⟩:=t.sent e o h;refine ⟨a,b,s.put k i x,c,t.heard,fun j y h=> ?_⟩;rcases XN h with h|⟨e1,e2,e3⟩
   ·exact .inl h
   ·subst e3;exact .inr ⟨e1.symm,e2,hx⟩
  ·obtain ⟨e1,e2⟩:=tn e;rw [e1];by_cases hm:m=x.m
   ·rw [hm];exact e2
   ·rw [Vc hm hn];refine hc ?_ m;rw [e1] at e;exact e
  ·have:=t.cnt
   have e:(s.put k i x).own=s.own:=rfl;rw [e] at this;split
   ·omega
   ·rw [Int.zero_add];exact this
 |deal d hd hk hi hn h8=>
  have hop:=xO hE hd;have h1:zI E (({s with dealt:=some d}:ASt).put 8 E.me (ZG E d E.me)):=(hst.setDealt hd).put (.inl rfl) hN hop.2;obtain ⟨t,td,tn⟩:=VK hE (s:=({s with dealt:=some d}:ASt).put 8 E.me (ZG E d E.me)) d.m (fun hne=>(Ya hE hs h1 hne).2);have hn8:({s with dealt:=some d}:ASt).heard 8 E.me=none:=h8;have td:(xF E (({s with dealt:=some d}:ASt).put 8 E.me (ZG E d E.me)) d.m).1.dealt=some d:=td;refine ⟨fun d h=>(by rw [hn] at h;cases h),fun o h=>t.own o h,fun k' j y h=>t.heard k' j y (Po hn8 h),fun h=>t.done h,fun k' j y h=> ?_,fun y hy=> ?_,fun e o h=> ?_,hp,fun hc e m=> ?_,fun _=>t.full,fun h=>t.doneq h, ?_⟩
  ·rcases t.fresh k' j y h with h|⟨e1,e2,o,e3,e4⟩
   ·rcases XN h with h|⟨e1,e2,e3⟩
    ·exact .inl h
    ·subst e3;exact .inr (.inr (.inl ⟨e1,e2,d,td,rfl⟩))
   ·exact .inr (.inr (.inr ⟨e1,e2,o,e3,e4.symm⟩))
  ·rcases List.mem_append.1 hy with hy|hy
   ·obtain ⟨k,k1,k2,rfl⟩:=XU.1 hy;exact .inr (.inl ⟨d,td,k,k1,k2,rfl⟩)
   ·rcases t.outs y hy with h|⟨_,o,e1,k,e2⟩
    ·exact .inl h
    ·exact .inr (.inr ⟨o,e1,k,e2⟩)
  ·obtain ⟨a,b,c⟩:=t.sent e o h;refine ⟨fun k a1 a2 a3=>mAr _ (a k a1 a2 a3),b,_,c,t.heard,fun j y h=> ?_⟩;rcases XN h with h|⟨e1,e2,e3⟩
   ·exact .inl h
   ·cases e1
  ·obtain ⟨e1,e2⟩:=tn e;rw [e1];by_cases hm:m=d.m
   ·rw [hm];exact e2
   ·rw [Vc (x:=ZG E d E.me) hm hn8];refine hc ?_ m;rw [e1] at e;exact e
  ·have h2:=t.cnt;have e:(({s with dealt:=some d}:ASt).put 8 E.me (ZG E d E.me)).own=s.own:=rfl;rw [e] at h2;have a1:=List.length_filter_le (fun y:yL=>decide (y.1≠10)) (yI E 8 d);have a2:=US hN 8 d;rw [List.filter_append,lLa,if_pos ⟨hn,by rw [td];simp⟩];split at h2<;>split<;>first|omega|contradiction
 |alone d hd hk hi hn h8=>
  refine ⟨fun d h=>(by rw [hn] at h;cases h),fun o h=>h,fun k' j y h=>h,fun h=>h,fun k' j y h=> .inl h,fun y hy=> ?_,fun e o h=>(by rw [show ({s with dealt:=some d}:ASt).own=s.own from rfl,e] at h;cases h),hp,fun h=>h,fun h=>h,fun h=> .inl h, ?_⟩
  ·obtain ⟨k,k1,k2,rfl⟩:=XU.1 hy;exact .inr (.inl ⟨d,rfl,k,k1,k2,rfl⟩)
  ·have a1:=List.length_filter_le (fun y:yL=>decide (y.1≠10)) (yI E 8 d);have a2:=US hN 8 d;rw [if_pos ⟨hn,by simp⟩];split<;>omega
theorem Es{E:zv}(hE:E.ok)(hs:Sm E.p){s:ASt}(hst:zI E s)(k i:Int){l:List Int}(hl: ∀y∈l,0≤y):Tk E s k i l (zV E s k i l).1 (zV E s k i l).2:=by
 refine Oh.tk hE hs hst (fun hk h1 h2 h3=> ?_) (MO hE hs hst k i hl);unfold zV;have hk7: ¬(k=JU∧i=0∧s.dealt=none):=fun e=>by
  have:=e.2.1
  omega
 rw [if_neg hk7,if_pos (show k=YE∨k=yR from hk),Ml hE hs hst hk (Zs hl)];split
 ·rename_i hc;rcases hc with h|h|h|h
  ·exact h
  ·omega
  ·omega
  ·rw [h3] at h;cases h
 ·have h1':=hst.put hk ⟨h1,h2⟩ (Zs hl h3);obtain ⟨t,_,_⟩:=VK hE (s:=s.put k i (zi E i l).1) (zi E i l).1.m (fun hne=>(Ya hE hs h1' hne).2);rw [t.heard k i _ GL];rfl
abbrev yB:=Int×Int×Int×List Int
structure Rmm where
 p:Par
 dealer:Int
 coms:List (List Int)
 hon:Int→Bool
def Rmm.E(R:Rmm)(j:Int):zv:=⟨R.p,R.dealer,j,R.coms⟩
def Rmm.H(R:Rmm)(j:Int):Prop:=(1≤j∧j≤R.p.N)∧R.hon j=true
instance (R:Rmm) (j:Int):Decidable (R.H j):=by unfold Rmm.H;exact inferInstance
structure Rmm.ok (R:Rmm):Prop where
 env: ∀j,1≤j→j≤R.p.N→(R.E j).ok
 sm:Sm R.p
 few:(((Vr R.p.N).filter fun j=> !R.hon j).length:Int)≤R.p.T
 may:Zk R.p=true
def upd(sts:Int→ASt)(j:Int)(s:ASt):Int→ASt:=fun i=>if i=j then s else sts i
theorem yl{sts:Int→ASt}{j:Int}{s:ASt}:upd sts j s j=s:=by simp [upd]
theorem ZU{sts:Int→ASt}{i j:Int}{s:ASt}(h:i≠j):upd sts j s i=sts i:=by simp [upd,h]
noncomputable def Rmm.take(R:Rmm)(sts:Int→ASt)(m:yB):ASt×List yL:=zV (R.E m.2.1) (sts m.2.1) m.2.2.1 m.1 m.2.2.2
def yz(j:Int)(out:List yL):List yB:=(out.filter fun y=>decide (y.1≠10)).map fun y=>(j,y.2.1,y.1,y.2.2)
noncomputable def Rmm.tell(R:Rmm)(sts:Int→ASt)(way:List yB)(m:yB):(Int→ASt)×List yB:=
 if R.H m.2.1 then (upd sts m.2.1 (R.take sts m).1,way++yz m.2.1 (R.take sts m).2) else (sts,way)
structure Vo (R:Rmm) (sts:Int→ASt) (m:yB):Prop where
 nn: ∀y∈m.2.2.2,0≤y
 echo:m.2.2.1=8→R.H m.1→ ∃d,(sts m.1).dealt=some d∧m.2.2.2=zO (R.E m.1) d m.2.1
 ready:m.2.2.1=9→R.H m.1→ ∃o,(sts m.1).own=some o∧m.2.2.2=zO (R.E m.1) o m.2.1
structure Uc (R:Rmm) (sts:Int→ASt) (way:List yB):Prop where
 good: ∀j,R.H j→zI (R.E j) (sts j)
 h8: ∀j i x,R.H j→R.H i→(sts j).heard 8 i=some x→ ∃d,(sts i).dealt=some d∧d.m=x.m
 h9: ∀j i x,R.H j→R.H i→(sts j).heard 9 i=some x→ ∃o,(sts i).own=some o∧o.m=x.m
 way: ∀y∈way,Vo R sts y∧R.H y.1∧(y.2.2.1=8∨y.2.2.1=9)∧1≤y.2.1∧y.2.1≤R.p.N
 quo: ∀j o,R.H j→(sts j).own=some o→ ∃Q:List Int,Q.Nodup∧(∀i∈Q,1≤i∧i≤R.p.N)∧R.p.N+R.p.T< 2*(Q.length:Int)∧ ∀i∈Q,R.H i→ ∃d,(sts i).dealt=some d∧d.m=o.m
theorem Jj{l:List (Int×Int)}(h: ∀y∈l,0≤y.1∧0≤y.2): ∀y∈Qs l,0≤y:=fun y hy=>by
 unfold Qs at hy;obtain ⟨c,hc,hy⟩:=List.mem_flatten.1 hy;obtain ⟨z,hz,rfl⟩:=List.mem_map.1 hc
 have:=h z hz
 simp only [List.mem_cons,List.not_mem_nil,or_false] at hy;rcases hy with rfl|rfl
 ·exact this.1
 ·exact this.2
theorem JE{E:zv}(hm:Zk E.p=true){x:zu}(h:Ym E x)(i:Int): ∀y∈zO E x i,0≤y:=fun y hy=>by
 unfold zO at hy;rw [Vy] at hy;have hq:=(Yu hm).Q;have hn: ∀l:List (List (Int×Int)), ∀y∈(zA (l.map (atP E.p.Q i))).flatten,0≤y.1∧0≤y.2:=fun l y hy=>by
  obtain ⟨c,hc,hy⟩:=List.mem_flatten.1 hy;obtain ⟨z,hz,rfl⟩:=List.mem_map.1 hc;rw [mSg] at hy;subst hy;obtain ⟨c,_,rfl⟩:=List.mem_map.1 hz;exact Hb hq _ _
 rcases List.mem_append.1 hy with hy|hy
 ·obtain ⟨r,hr,hy⟩:=List.mem_flatten.1 hy;obtain ⟨M,hM,hr⟩:=List.mem_flatten.1 hr;exact (Cm ((((GA (Qh h.bond)).2 M hM).2 r hr).2 y hy)).1
 ·rcases List.mem_append.1 hy with hy|hy
  ·exact Jj (hn _) y hy
  ·exact Jj (hn _) y hy
theorem Zv: ∀{Q L:List Int},Q.Nodup→(∀i∈Q,i∈L)→Q.length≤L.length
 | [],_,_,_=>Nat.zero_le _
 |a::Q,L,hn,hs=>by
  obtain ⟨h1,h2⟩:=List.nodup_cons.1 hn;have ha:=hs a mCs
  have:=Zv (Q:=Q) (L:=L.erase a) h2 fun i hi=>(List.mem_erase_of_ne (fun e=>h1 (by rw [←e];exact hi))).2 (hs i (mCm _ hi))
  rw [List.length_erase_of_mem ha] at this
  have:=List.length_pos_of_mem ha
  simp only [List.length_cons];omega
theorem ZI(f:Int→Bool): ∀l:List Int,(l.filter f).length+(l.filter fun i=> !f i).length=l.length
 | []=>rfl
 |a::l=>by
  have:=ZI f l
  by_cases h:f a=true
  ·simp [h];omega
  ·simp [h];omega
theorem yv{l:List Int}(h:l.Pairwise (· < ·)):l.Nodup:=h.imp fun {a b} hab e=>by omega
theorem Rmm.ok.one{R:Rmm}(hR:R.ok){Q:List Int}(hn:Q.Nodup)(hb: ∀i∈Q,1≤i∧i≤R.p.N)(hl:R.p.T< (Q.length:Int)): ∃i∈Q,R.H i:=by
 by_cases h: ∃i∈Q,R.hon i=true
 ·obtain ⟨i,hi,hh⟩:=h;exact ⟨i,hi,hb i hi,hh⟩
 ·have:=Zv hn (L:=(Vr R.p.N).filter fun j=> !R.hon j) fun i hi=>List.mem_filter.2 ⟨xT.2 (hb i hi),by
   cases e:R.hon i with
   |false=>rfl
   |true=>exact absurd ⟨i,hi,e⟩ h⟩
  have:=hR.few
  omega
theorem Rmm.ok.two{R:Rmm}(hR:R.ok){Q K:List Int}(hn:Q.Nodup)(hb: ∀i∈Q,1≤i∧i≤R.p.N)(hl:R.p.N+R.p.T< 2*(Q.length:Int))(kn:K.Nodup)(kb: ∀i∈K,1≤i∧i≤R.p.N)(kl:R.p.N+R.p.T< 2*(K.length:Int)): ∃i,i∈Q∧i∈K∧R.H i:=by
 obtain ⟨_,_,_,hN1,_⟩:=zt hR.may;have h1:=ZI (fun i=>decide (i∈K)) Q;have h2:((Q.filter fun i=> !decide (i∈K))++K).length≤(Vr R.p.N).length:=Zv (List.nodup_append.2 ⟨hn.filter _,kn,fun a ha b hb e=>by
  have:=(List.mem_filter.1 ha).2
  simp only [Bool.not_eq_true',decide_eq_false_iff_not] at this;exact this (e ▸ hb)⟩) fun i hi=>by
   rcases List.mem_append.1 hi with hi|hi
   ·exact xT.2 (hb i (List.mem_filter.1 hi).1)
   ·exact xT.2 (kb i hi)
 rw [lLa] at h2;have h3:=Ut (N:=R.p.N) (by omega);obtain ⟨i,hi,hh⟩:=hR.one (Q:=Q.filter fun i=>decide (i∈K)) (hn.filter _) (fun i hi=>hb i (List.mem_filter.1 hi).1) (by omega);obtain ⟨h4,h5⟩:=List.mem_filter.1 hi;exact ⟨i,h4,by simpa using h5,hh⟩
theorem Uc.start(R:Rmm):Uc R (fun _=>ASt.start) []:=⟨fun j _=>zI.start _,fun _ _ _ _ _ h=>by simp [ASt.start] at h,fun _ _ _ _ _ h=>by simp [ASt.start] at h,fun y h=>(by cases h),fun _ _ _ h=>by simp [ASt.start] at h⟩
section
variable {R:Rmm} {sts:Int→ASt} {way:List yB}
theorem Uc.less(h:Uc R sts way){way':List yB}(hw: ∀y∈way',y∈way):Uc R sts way':=⟨h.good,h.h8,h.h9,fun y hy=>h.way y (hw y hy),h.quo⟩
theorem Uc.same(hR:R.ok)(h:Uc R sts way){j k:Int}(hj:R.H j)(hk:R.H k){o u:zu}(ho:(sts j).own=some o)(hu:(sts k).own=some u):o.m=u.m:=by
 obtain ⟨Q,q1,q2,q3,q4⟩:=h.quo j o hj ho;obtain ⟨K,k1,k2,k3,k4⟩:=h.quo k u hk hu;obtain ⟨i,i1,i2,i3⟩:=hR.two q1 q2 q3 k1 k2 k3;obtain ⟨d,d1,d2⟩:=q4 i i1 i3;obtain ⟨e,e1,e2⟩:=k4 i i2 i3;rw [d1] at e1;injection e1 with e1
 subst e1;rw [←d2,e2]
theorem Ll{E:zv}{s s':ASt}(h: ∀k j x,s.heard k j=some x→s'.heard k j=some x)(k:Int)(m:List (List (List Int))): ∀i∈zy E s k m,i∈zy E s' k m:=fun i hi=>by
 obtain ⟨x,h1,h2⟩:=YO hi;unfold zy at hi ⊢;refine List.mem_filter.2 ⟨(List.mem_filter.1 hi).1, ?_⟩;unfold Xt;rw [h _ _ _ h1];exact decide_eq_true h2
theorem EX{E:zv}{s s':ASt}(h: ∀k j x,s.heard k j=some x→s'.heard k j=some x)(k:Int)(m:List (List (List Int))):(zy E s k m).length≤(zy E s' k m).length:=Zv (yv (Yi E s k m)) (Ll h k m)
theorem Rmm.ok.EH(hR:R.ok){j:Int}(h:R.H j):(R.E j).ok:=hR.env j h.1.1 h.1.2
theorem Uc.tk(hR:R.ok)(h:Uc R sts way){m:yB}(hm:Vo R sts m)(hj:R.H m.2.1):Tk (R.E m.2.1) (sts m.2.1) m.2.2.1 m.1 m.2.2.2 (R.take sts m).1 (R.take sts m).2:=Es (hR.EH hj) hR.sm (h.good _ hj) _ _ hm.nn
theorem Uc.points(hR:R.ok)(h:Uc R sts way){i j:Int}(hi:R.H i)(hj:R.H j){o:zu}(ho:Ym (R.E i) o):zi (R.E j) i (zO (R.E i) o j)=(ZG (R.E i) o j,true):=by
 have h1:=hi.1;have h2:=hj.1;exact (UT (E:=R.E i) (F:=R.E j) hR.may rfl rfl rfl (show 0≤j by omega) (show 0≤i by omega) ho).1
theorem Uc.tell(hR:R.ok)(h:Uc R sts way){m:yB}(hm:Vo R sts m):Uc R (R.tell sts way m).1 (R.tell sts way m).2:=by
 unfold Rmm.tell;split
 ·rename_i hj;have t:=h.tk hR hm hj;have hg:zI (R.E m.2.1) (R.take sts m).1:=zI.take (hR.EH hj) hR.sm (h.good _ hj) _ _ hm.nn;obtain ⟨i,j,k,l⟩:=m;dsimp only at hm hj t hg ⊢;obtain ⟨s',hs'⟩:=exq ((R.take sts (i,j,k,l)).1);obtain ⟨out,hout⟩:=exq ((R.take sts (i,j,k,l)).2);rw [←hs', ←hout] at t;rw [←hs'] at hg;rw [←hs', ←hout];clear hs' hout;have ud: ∀a d,(sts a).dealt=some d→(upd sts j s' a).dealt=some d:=fun a d e=>by
   by_cases ha:a=j
   ·subst ha;rw [yl];exact t.dealt d e
   ·rw [ZU ha];exact e
  have uo: ∀a d,(sts a).own=some d→(upd sts j s' a).own=some d:=fun a d e=>by
   by_cases ha:a=j
   ·subst ha;rw [yl];exact t.own d e
   ·rw [ZU ha];exact e
  have n8: ∀b a x,R.H b→R.H a→(upd sts j s' b).heard 8 a=some x→ ∃d,(upd sts j s' a).dealt=some d∧d.m=x.m:=fun b a x hb ha hx=>by
   by_cases e:b=j
   ·subst e;rw [yl] at hx;rcases t.fresh 8 a x hx with hx|⟨e1,e2,e3⟩|⟨_,e2,d,e3,e4⟩|⟨e1,_⟩
    ·obtain ⟨d,d1,d2⟩:=h.h8 b a x hb ha hx;exact ⟨d,ud a d d1,d2⟩
    ·subst e2;obtain ⟨d,d1,d2⟩:=hm.echo e1.symm ha;dsimp only at d1 d2;rw [d2,h.points hR ha hb ((h.good a ha).dealt d d1)] at e3;injection e3 with e3 _
     exact ⟨d,ud a d d1,by rw [←e3];rfl⟩
    ·refine ⟨d, ?_,e4⟩;rw [e2,show (R.E b).me=b from rfl,yl];exact e3
    ·cases e1
   ·rw [ZU e] at hx;obtain ⟨d,d1,d2⟩:=h.h8 b a x hb ha hx;exact ⟨d,ud a d d1,d2⟩
  have n9: ∀b a x,R.H b→R.H a→(upd sts j s' b).heard 9 a=some x→ ∃d,(upd sts j s' a).own=some d∧d.m=x.m:=fun b a x hb ha hx=>by
   by_cases e:b=j
   ·subst e;rw [yl] at hx;rcases t.fresh 9 a x hx with hx|⟨e1,e2,e3⟩|⟨e1,_⟩|⟨_,e2,d,e3,e4⟩
    ·obtain ⟨d,d1,d2⟩:=h.h9 b a x hb ha hx;exact ⟨d,uo a d d1,d2⟩
    ·subst e2;obtain ⟨d,d1,d2⟩:=hm.ready e1.symm ha;dsimp only at d1 d2;rw [d2,h.points hR ha hb ((h.good a ha).own d d1)] at e3;injection e3 with e3 _
     exact ⟨d,uo a d d1,by rw [←e3];rfl⟩
    ·cases e1
    ·refine ⟨d, ?_,e4⟩;rw [e2,show (R.E b).me=b from rfl,yl];exact e3
   ·rw [ZU e] at hx;obtain ⟨d,d1,d2⟩:=h.h9 b a x hb ha hx;exact ⟨d,uo a d d1,d2⟩
  have kq: ∀(o:zu) (Q:List Int),(∀i∈Q,R.H i→ ∃d,(sts i).dealt=some d∧d.m=o.m)→ ∀i∈Q,R.H i→ ∃d,(upd sts j s' i).dealt=some d∧d.m=o.m:=fun o Q hQ i hi hh=>by
   obtain ⟨d,d1,d2⟩:=hQ i hi hh;exact ⟨d,ud i d d1,d2⟩
  refine ⟨fun b hb=> ?_,n8,n9,fun y hy=> ?_,fun b o hb ho=> ?_⟩
  ·by_cases e:b=j
   ·subst e;rw [yl];exact hg
   ·rw [ZU e];exact h.good b hb
  ·rcases List.mem_append.1 hy with hy|hy
   ·obtain ⟨y1,y2,y3⟩:=h.way y hy;exact ⟨⟨y1.nn,fun a b=>by
     obtain ⟨d,d1,d2⟩:=y1.echo a b;exact ⟨d,ud _ d d1,d2⟩,fun a b=>by
     obtain ⟨d,d1,d2⟩:=y1.ready a b;exact ⟨d,uo _ d d1,d2⟩⟩,y2,y3⟩
   ·obtain ⟨z,hz,rfl⟩:=List.mem_map.1 hy;obtain ⟨hz,h10⟩:=List.mem_filter.1 hz;rcases t.outs z hz with e|⟨d,d1,c,c1,c2,rfl⟩|⟨d,d1,c,c1,c2,rfl⟩
    ·simp [e] at h10
    ·refine ⟨⟨JE (E:=R.E j) hR.may (hg.dealt d d1) c,fun _ _=>⟨d,by dsimp only;rw [yl];exact d1,rfl⟩,fun e=>by cases e⟩,hj, .inl rfl,c1⟩
    ·refine ⟨⟨JE (E:=R.E j) hR.may (hg.own d d1) c,fun e=>(by cases e),fun _ _=>⟨d,by dsimp only;rw [yl];exact d1,rfl⟩⟩,hj, .inr rfl,c1⟩
  ·by_cases e:b=j
   ·subst e;rw [yl] at ho;cases hold:(sts b).own with
    |some o'=>
     have:=t.own o' hold
     rw [ho] at this;injection this with this
     subst this;obtain ⟨Q,q1,q2,q3,q4⟩:=h.quo b o hb hold;exact ⟨Q,q1,q2,q3,kq o Q q4⟩
    |none=>
     obtain ⟨_,_,s1,a1,a2,a3⟩:=t.sent hold o ho;obtain ⟨_,_,_,hN1,hN2,_,hT1,_⟩:=zt hR.may;by_cases hq:((zy (R.E b) s1 YE o.m).length:Int)>((R.E b).p.N+(R.E b).p.T).tdiv 2
     ·have hq:((zy (R.E b) s1 YE o.m).length:Int)>(R.p.N+R.p.T).tdiv 2:=hq;rw [Int.tdiv_eq_ediv_of_nonneg (by omega)] at hq;refine ⟨zy (R.E b) s1 YE o.m,yv (Yi _ _ _ _),fun i hi=>(Yj hi).1,by omega,fun i hi hh=> ?_⟩;obtain ⟨x,x1,x2⟩:=YO hi;obtain ⟨d,d1,d2⟩:=n8 b i x hb hh (by rw [yl];exact a2 _ _ _ x1);exact ⟨d,d1,by rw [d2,x2]⟩
     ·unfold zl at a1;rw [if_neg hq] at a1;have hr:((zy (R.E b) s1 yR o.m).length:Int)>R.p.T:=by
       apply Classical.byContradiction;intro hc;rw [if_neg (show ¬((zy (R.E b) s1 yR o.m).length:Int)>(R.E b).p.T from hc)] at a1;exact a1 rfl
      obtain ⟨i,hi,hh⟩:=hR.one (yv (Yi (R.E b) s1 yR o.m)) (fun i hi=>(Yj hi).1) hr;obtain ⟨x,x1,x2⟩:=YO hi;obtain ⟨u,u1,u2⟩: ∃u,(sts i).own=some u∧u.m=x.m:=by
       rcases a3 i x x1 with hx|⟨e1,e2,e3⟩
       ·exact h.h9 b i x hb hh hx
       ·subst e2;obtain ⟨d,d1,d2⟩:=hm.ready e1 hh;dsimp only at d1 d2;rw [d2,h.points hR hh hb ((h.good i hh).own d d1)] at e3;injection e3 with e3 _
        exact ⟨d,d1,by rw [←e3];rfl⟩
      obtain ⟨Q,q1,q2,q3,q4⟩:=h.quo i u hh u1;refine ⟨Q,q1,q2,q3,kq o Q ?_⟩;rw [←x2, ←u2];exact q4
   ·rw [ZU e] at ho;obtain ⟨Q,q1,q2,q3,q4⟩:=h.quo b o hb ho;exact ⟨Q,q1,q2,q3,kq o Q q4⟩
 ·exact h
end
structure Nv (R:Rmm) (sts:Int→ASt) (way:List yB) (ex:yB→Prop):Prop where
 cl1: ∀j,R.H j→(sts j).own=none→ ∀m,zl (R.E j) (sts j) m= []
 cl2: ∀j o,R.H j→(sts j).own=some o→((zy (R.E j) (sts j) 9 o.m).length:Int)≥R.p.N - R.p.T→(sts j).done=true
 dq: ∀j,R.H j→(sts j).done=true→ ∃o,(sts j).own=some o∧((zy (R.E j) (sts j) 9 o.m).length:Int)≥R.p.N - R.p.T
 sent: ∀i k o,R.H i→R.H k→(sts i).own=some o→((sts k).heard 9 i).isSome=true∨(i,k,9,zO (R.E i) o k)∈way∨ex (i,k,9,zO (R.E i) o k)
theorem Pz{E:zv}(hE:E.ok)(m:List (List (List Int))):zl E ASt.start m= []:=by
 obtain ⟨_,_,_,hN1,hN2,_,hT1,_⟩:=zt hE.may;have e: ∀k,zy E ASt.start k m= []:=fun k=>List.filter_eq_nil_iff.2 fun i _=>by simp [Xt,ASt.start]
 unfold zl;rw [e,e,if_neg,if_neg]
 ·simp only [List.length_nil];omega
 ·rw [Int.tdiv_eq_ediv_of_nonneg (by omega)];simp only [List.length_nil];omega
theorem Nv.start{R:Rmm}(hR:R.ok):Nv R (fun _=>ASt.start) [] (fun _=>False):=⟨fun j hj _ m=>Pz (hR.EH hj) m,fun j o _ h=>by simp [ASt.start] at h,fun j _ h=>by simp [ASt.start] at h,fun i k o _ _ h=>by simp [ASt.start] at h⟩
section
variable {R:Rmm} {sts:Int→ASt} {way:List yB}
theorem Nv.less{ex:yB→Prop}(h:Nv R sts way ex){way':List yB}{ex':yB→Prop}(hw: ∀y,y∈way∨ex y→y∈way'∨ex' y):Nv R sts way' ex':=⟨h.cl1,h.cl2,h.dq,fun i k o a b c=>by
 rcases h.sent i k o a b c with e|e
 ·exact .inl e
 ·exact .inr (hw _ e)⟩
theorem Nv.tell(hR:R.ok)(h:Uc R sts way){m:yB}(ha:Nv R sts way (fun y=>y=m))(hm:Vo R sts m):Nv R (R.tell sts way m).1 (R.tell sts way m).2 (fun _=>False):=by
 unfold Rmm.tell;split
 ·rename_i hj;have t:=h.tk hR hm hj;have hg:zI (R.E m.2.1) (R.take sts m).1:=zI.take (hR.EH hj) hR.sm (h.good _ hj) _ _ hm.nn;obtain ⟨i,j,k,l⟩:=m;dsimp only at hm hj t hg ⊢;obtain ⟨s',hs'⟩:=exq ((R.take sts (i,j,k,l)).1);obtain ⟨out,hout⟩:=exq ((R.take sts (i,j,k,l)).2);rw [←hs', ←hout] at t;rw [←hs'] at hg;rw [←hs', ←hout];clear hs' hout;refine ⟨fun b hb ho=> ?_,fun b o hb ho hl=> ?_,fun b hb hd=> ?_,fun a b o ha' hb ho=> ?_⟩
  ·by_cases e:b=j
   ·subst e;rw [yl] at ho ⊢;exact t.cl1 (ha.cl1 b hb) ho
   ·rw [ZU e] at ho ⊢;exact ha.cl1 b hb ho
  ·by_cases e:b=j
   ·subst e;rw [yl] at ho hl ⊢;exact t.full (fun o h=>ha.cl2 b o hb h) o ho hl
   ·rw [ZU e] at ho hl ⊢;exact ha.cl2 b o hb ho hl
  ·by_cases e:b=j
   ·subst e;rw [yl] at hd ⊢;rcases t.doneq hd with h1|h1
    ·obtain ⟨o,o1,o2⟩:=ha.dq b hb h1;refine ⟨o,t.own o o1, ?_⟩
     have:=EX (E:=R.E b) t.heard 9 o.m
     omega
    ·exact h1
   ·rw [ZU e] at hd ⊢;exact ha.dq b hb hd
  ·have hup:((sts b).heard 9 a).isSome=true→((upd sts j s' b).heard 9 a).isSome=true:=fun h=>by
    by_cases e:b=j
    ·subst e;rw [yl];obtain ⟨x,hx⟩:=Option.isSome_iff_exists.1 h;rw [t.heard 9 a x hx];rfl
    ·rw [ZU e];exact h
   have hold:(sts a).own=some o→((upd sts j s' b).heard 9 a).isSome=true∨(a,b,9,zO (R.E a) o b)∈way++yz j out∨False:=fun hoo=>by
    rcases ha.sent a b o ha' hb hoo with h1|h1|h1
    ·exact .inl (hup h1)
    ·exact .inr (.inl (mAl _ h1))
    ·injection h1 with e1 e2
     injection e2 with e2 e3
     injection e3 with e3 e4
     subst e1 e2 e3;have hp:=h.points hR ha' hb ((h.good a ha').own o hoo);left;rw [yl];refine t.live (.inr rfl) ha'.1.1 ha'.1.2 ?_;show (zi (R.E b) a l).2=true;rw [←e4,hp]
   by_cases e:a=j
   ·subst e;rw [yl] at ho;cases hown:(sts a).own with
    |some o'=>
     have:=t.own o' hown
     rw [ho] at this;injection this with this
     subst this;exact hold hown
    |none=>
     obtain ⟨c1,c2,_⟩:=t.sent hown o ho;by_cases e2:b=a
     ·subst e2;left;rw [yl];exact c2
     ·right;left;refine mAr _ ?_;refine List.mem_map.2 ⟨(9,b,zO (R.E a) o b),List.mem_filter.2 ⟨c1 b hb.1.1 hb.1.2 e2,rfl⟩,rfl⟩
   ·rw [ZU e] at ho;exact hold ho
 ·rename_i hj;refine ⟨ha.cl1,ha.cl2,ha.dq,fun a b o h1 h2 h3=> ?_⟩;rcases ha.sent a b o h1 h2 h3 with e|e|e
  ·exact .inl e
  ·exact .inr (.inl e)
  ·rw [←e] at hj;exact absurd h2 hj
theorem Nv.ends(hR:R.ok)(h:Uc R sts [])(ha:Nv R sts [] (fun _=>False)){j k:Int}(hj:R.H j)(hk:R.H k)(hd:(sts j).done=true):(sts k).done=true:=by
 obtain ⟨_,_,_,hN1,hN2,_,hT1,hT2,hNT,_⟩:=zt hR.may;obtain ⟨o,o1,o2⟩:=ha.dq j hj hd;have hsent: ∀i b u,R.H i→R.H b→(sts i).own=some u→ ∃x,(sts b).heard 9 i=some x∧x.m=o.m:=fun i b u hi hb hu=>by
  rcases ha.sent i b u hi hb hu with h1|h1|h1
  ·obtain ⟨x,hx⟩:=Option.isSome_iff_exists.1 h1;obtain ⟨v,v1,v2⟩:=h.h9 b i x hb hi hx;rw [hu] at v1;injection v1 with v1
   subst v1;exact ⟨x,hx,by rw [←v2];exact (h.same hR hj hi o1 hu).symm⟩
  ·cases h1
  ·exact h1.elim
 have hlike: ∀b,R.H b→ ∀S:List Int,S.Nodup→(∀i∈S,R.H i∧ ∃u,(sts i).own=some u)→S.length≤(zy (R.E b) (sts b) 9 o.m).length:=fun b hb S hn hS=>by
  refine Zv hn fun i hi=> ?_
  obtain ⟨hh,u,hu⟩:=hS i hi;obtain ⟨x,x1,x2⟩:=hsent i b u hh hb hu;unfold zy;refine List.mem_filter.2 ⟨xT.2 hh.1, ?_⟩;unfold Xt;rw [x1];exact decide_eq_true x2
 have hown: ∀b,R.H b→ ∃u,(sts b).own=some u:=fun b hb=>by
  cases e:(sts b).own with
  |some u=>exact ⟨u,rfl⟩
  |none=>
   have hc:=ha.cl1 b hb e o.m;have h1:=ZI R.hon (zy (R.E j) (sts j) 9 o.m);have h2:=Zv ((yv (Yi (R.E j) (sts j) 9 o.m)).filter fun i=> !R.hon i) (L:=(Vr R.p.N).filter fun i=> !R.hon i) fun i hi=>by
    obtain ⟨a,b⟩:=List.mem_filter.1 hi;exact List.mem_filter.2 ⟨xT.2 (Yj a).1,b⟩
   have h3:=hR.few;have h4:=hlike b hb ((zy (R.E j) (sts j) 9 o.m).filter R.hon) ((yv (Yi _ _ _ _)).filter _) fun i hi=>by
    obtain ⟨a,b⟩:=List.mem_filter.1 hi;have hh:R.H i:=⟨(Yj a).1,b⟩;obtain ⟨x,x1,_⟩:=YO a;obtain ⟨v,v1,_⟩:=h.h9 j i x hj hh x1;exact ⟨hh,v,v1⟩
   unfold zl at hc;split at hc
   ·rename_i hl;exfalso;rw [List.map_eq_nil_iff] at hc;rw [hc,Int.tdiv_eq_ediv_of_nonneg (by show 0≤R.p.N+R.p.T;omega)] at hl
    have:(0:Int)>(R.p.N+R.p.T) / 2:=hl
    omega
   ·split at hc
    ·rename_i hl;exfalso;rw [List.map_eq_nil_iff] at hc;rw [hc] at hl
     have:(0:Int)>R.p.T:=hl
     omega
    ·rename_i hl;exfalso;apply hl;show ((zy (R.E b) (sts b) 9 o.m).length:Int)>R.p.T;omega
 obtain ⟨u,hu⟩:=hown k hk;have em:=h.same hR hj hk o1 hu;refine ha.cl2 k u hk hu ?_;rw [←em];have h1:=ZI R.hon (Vr R.p.N);have h2:=hlike k hk ((Vr R.p.N).filter R.hon) ((yv (Qo _)).filter _) fun i hi=>by
  obtain ⟨a,b⟩:=List.mem_filter.1 hi;have hh:R.H i:=⟨xT.1 a,b⟩;exact ⟨hh,hown i hh⟩
 have h3:=hR.few;have h4:=Ut (N:=R.p.N) (by omega);omega
def MS(N:Int)(s:ASt):Int:=(if s.dealt=none then N - 1 else 0)+(if s.own=none then N - 1 else 0)
def Rmm.mu(R:Rmm)(sts:Int→ASt)(way:List yB):Int:=(way.length:Int)+((Vr R.p.N).map fun j=>MS R.p.N (sts j)).sum
theorem KK(f:Int→Int)(j:Int)(y:Int): ∀{l:List Int},l.Nodup→j∈l→(l.map fun i=>if i=j then y else f i).sum+f j=(l.map f).sum+y
 |a::l,hn,hj=>by
  obtain ⟨h1,h2⟩:=List.nodup_cons.1 hn;by_cases e:a=j
  ·subst e
   have:(l.map fun i=>if i=a then y else f i)=l.map f:=List.map_congr_left fun i hi=>if_neg fun e=>h1 (by rw [←e];exact hi)
   simp only [List.map_cons,List.sum_cons,if_true,this];omega
  ·have hj':j∈l:=by
    rcases List.mem_cons.1 hj with h|h
    ·exact absurd h.symm e
    ·exact h
   have:=KK f j y h2 hj'
   simp only [List.map_cons,List.sum_cons,if_neg e];omega
theorem Rmm.mu_tell(hR:R.ok)(h:Uc R sts way){m:yB}(hm:Vo R sts m):R.mu (R.tell sts way m).1 (R.tell sts way m).2≤R.mu sts way:=by
 unfold Rmm.tell;split
 ·rename_i hj;have t:=h.tk hR hm hj;have hc:=t.cnt;unfold Rmm.mu;dsimp only;have e:((Vr R.p.N).map fun j=>MS R.p.N (upd sts m.2.1 (R.take sts m).1 j))=(Vr R.p.N).map fun i=>if i=m.2.1 then MS R.p.N (R.take sts m).1 else MS R.p.N (sts i):=List.map_congr_left fun i _=>by
   by_cases e:i=m.2.1
   ·rw [if_pos e,e,yl]
   ·rw [if_neg e,ZU e]
  have hs:=KK (fun i=>MS R.p.N (sts i)) m.2.1 (MS R.p.N (R.take sts m).1) (yv (Qo R.p.N)) (xT.2 hj.1);rw [e,lLa,Int.natCast_add];have hl:((yz m.2.1 (R.take sts m).2).length:Int)≤(if (sts m.2.1).dealt=none∧(R.take sts m).1.dealt≠none then R.p.N - 1 else 0)+(if (sts m.2.1).own=none∧(R.take sts m).1.own≠none then R.p.N - 1 else 0):=by
   unfold yz;rw [lLm];exact hc
  have hN:=hj.1;have hd:MS R.p.N (R.take sts m).1+((if (sts m.2.1).dealt=none∧(R.take sts m).1.dealt≠none then R.p.N - 1 else 0)+(if (sts m.2.1).own=none∧(R.take sts m).1.own≠none then R.p.N - 1 else 0))≤MS R.p.N (sts m.2.1):=by
   unfold MS;have a1:(sts m.2.1).dealt≠none→(R.take sts m).1.dealt≠none:=fun h=>by
    cases e:(sts m.2.1).dealt with
    |none=>exact absurd e h
    |some d=>rw [t.dealt d e];simp
   have a2:(sts m.2.1).own≠none→(R.take sts m).1.own≠none:=fun h=>by
    cases e:(sts m.2.1).own with
    |none=>exact absurd e h
    |some d=>rw [t.own d e];simp
   by_cases c1:(sts m.2.1).dealt=none<;>by_cases c2:(sts m.2.1).own=none<;>by_cases c3:(R.take sts m).1.dealt=none<;>by_cases c4:(R.take sts m).1.own=none<;>first|(exact absurd c3 (a1 c1))|(exact absurd c4 (a2 c2))|(simp only [c1,c2,c3,c4,ne_eq,not_true,not_false_eq_true,and_true,and_false,if_true,if_false];omega)
  omega
 ·exact Int.le_refl _
theorem Rmm.mu_start{R:Rmm}(h0:0≤R.p.N):R.mu (fun _=>ASt.start) []=R.p.N*(2*(R.p.N - 1)):=by
 unfold Rmm.mu MS;have e: ∀(c:Int) (l:List Int),(l.map fun _=>c).sum=(l.length:Int)*c:=fun c l=>by
  induction l with
  |nil=>simp
  |cons a l ih=>simp only [List.map_cons,List.sum_cons,ih,List.length_cons];rw [Int.natCast_add,Int.add_mul];simp;omega
 simp only [ASt.start,if_true];rw [e,Ut h0];simp
 congr 1
 omega
theorem Rmm.mu_nonneg{R:Rmm}(h0:1≤R.p.N)(sts:Int→ASt)(way:List yB):(way.length:Int)≤R.mu sts way:=by
 unfold Rmm.mu;have e: ∀l:List Int,0≤(l.map fun j=>MS R.p.N (sts j)).sum:=fun l=>by
  induction l with
  |nil=>simp
  |cons a l ih=>
   simp only [List.map_cons,List.sum_cons]
   have:0≤MS R.p.N (sts a):=by unfold MS;split<;>split<;>omega
   omega
 have:=e (Vr R.p.N)
 omega
end
end
section
open Go Go.RowKit Go.Shelf Go.Maps
def p19:Bool→Par
 |false=>⟨23,11,4,9,4,4,1,1,1,1,1,1⟩
 |true=>⟨23,11,4,9,7,7,2,1,1,1,1,1⟩
theorem ZY: ∀two,(p19 two).ok
 |false=>⟨⟨by decide,by decide⟩,⟨by decide,by decide⟩,⟨by decide,by decide⟩,⟨by decide,by decide⟩,⟨by decide,by decide⟩,⟨by decide,by decide⟩,⟨by decide,by decide⟩,⟨by decide,by decide⟩,⟨by decide,by decide⟩,⟨by decide,by decide⟩,⟨by decide,by decide⟩,⟨by decide,by decide⟩⟩
 |true=>⟨⟨by decide,by decide⟩,⟨by decide,by decide⟩,⟨by decide,by decide⟩,⟨by decide,by decide⟩,⟨by decide,by decide⟩,⟨by decide,by decide⟩,⟨by decide,by decide⟩,⟨by decide,by decide⟩,⟨by decide,by decide⟩,⟨by decide,by decide⟩,⟨by decide,by decide⟩,⟨by decide,by decide⟩⟩
theorem Xs: ∀two,Zk (p19 two)=true:=by decide+kernel
attribute [local go_sem] Oper.semAt_some
theorem UC(two:Bool)(w:World):Calls prog 15 #[.bool two] w fun e w'=>e= .returned (p19 two).v∧w.grownBy w' none:=by
 have HB:=za (Bk.new w 39 #[.int .u64 0, .int .u64 0, .int .u64 0, .int .u64 0, .int .i64 0, .int .i64 0, .int .i64 0, .int .i64 0, .int .i64 0, .int .i64 0, .int .i64 0, .int .i64 0]);cases two
 ·go_enter func15,ntmps15;go_wp2
  first
   |(go_ret;exact ⟨rfl,gRf⟩)
   |exact bodyPost_ret (v:=(p19 false).v) (by simp [results,Tryz.results15,go_sem,p19]) rfl ⟨rfl,(gAl w _ none).trans (gAl _ _ none)⟩
 ·go_enter func15,ntmps15;go_wp2
  first
   |(go_ret;exact ⟨rfl,gRf⟩)
   |exact bodyPost_ret (v:=(p19 true).v) (by simp [results,Tryz.results15,go_sem,p19]) rfl ⟨rfl,(gAl w _ none).trans (gAl _ _ none)⟩
end
section
open Go Go.RowKit Go.Shelf Go.Maps
attribute [local go_sem] Oper.semAt_some
theorem Tn(v:Value)(l:List (Int×Int))(X:Nat→Prop)(w:World)(h:Sl zo X w v l)(hb:l.length≤100000):
  Calls prog 51 #[v] w (zY (zh zo) (fun g=>w.heap.size≤g) w (zA l)):=by
 have H:=za h;have HB:=za hb;obtain ⟨A,c,rfl,A0,z0⟩:=h.form;clear h hb;unfold zA;go_enter func51,ntmps51;go_wp2_with fail;go_loopg [3,4] l.length (fun g s3 s4 wx=> ∃j:Nat,j+g=l.length∧s4= .int .i64 j∧Hid (Acc (zh zo) w.heap.size 72 (fun g=>w.heap.size≤g) wx s3 ((l.take j).map fun x=> [x])∧w.grownBy wx none))
 case atStart=>exact ⟨0,by omega,rfl,za ⟨Acc.nil _ _ _ _ _,gRf⟩⟩
 case round=>
  obtain ⟨j,hj,rfl,HX⟩:=hrel;cases gk with
  |zero=>
   obtain rfl:j=l.length:=by omega
   have HR:Hid (Sl (zh zo) (fun g=>w.heap.size≤g) wr u3 (l.map fun x=> [x])∧w.grownBy wr none):=za ⟨by have:=HX.z.1.sl;rwa [List.take_length] at this,HX.z.2⟩;clear HX;go_wp2;go_ret;exact ⟨_,rfl,HR.z.1,HR.z.2⟩
  |succ m=>
   have v0:(j:Int)< (l.length:Int):=by omega
   have n0:j< l.length:=by omega
   obtain ⟨a0,hg⟩:=HX.z;obtain ⟨g,o,c',e,_,_,g0,b0,m0⟩:=H.out.atP n0;injection e with e1 e2 e3
   subst e1 e3;have y0:wr.cell? ⟨g,o+j*2,none⟩=some (.int .u64 l[j].1):=cell_kept g0 hg (by simp);have s0:wr.cell? ⟨g,o+j*2+1,none⟩=some (.int .u64 l[j].2):=cell_kept b0 hg (by simp);have t0:Hid ((l.take (j+1)).map (fun x=> [x])=(l.take j).map (fun x=> [x])++ [[l[j]]]):=za (by
    rw [tSg n0,lMa];rfl)
   have u0:Hid ((((l.take j).map fun x=> [x]).length+1)*24≤140737488355328):=za (by have:=HB.z;simp;omega);have HU:=za m0;clear HX g0 b0 m0 e2;generalize l[j]=y at *;obtain ⟨W,hW⟩:=exq (wr.alloc (.cells #[.int .u64 y.1, .int .u64 y.2] 153));have p0:W.heap.size=wr.heap.size+1:=by rw [hW];simp
   obtain ⟨W3,f0⟩:=exq (W.alloc (.cells #[.slice (some ⟨wr.heap.size,0,none⟩) 1 1] 72));have i0:Hid (wr.grownBy W3 none):=za (by rw [f0,hW];exact (gAl wr _ none).trans (gAl _ _ none));have l0:=za (a0.kept i0.z);have HG:=za (hg.trans i0.z);have k0:Hid (Bk W3 (wr.heap.size+1) 72 #[.slice (some ⟨wr.heap.size,0,none⟩) 1 1]):=za (by rw [f0, ←p0];exact Bk.new W _ _);have d0:Hid ((zh zo).rep (fun g=>(fun g=>w.heap.size≤g) g∧some g≠u3.ownBlock) W3 [.slice (some ⟨wr.heap.size,0,none⟩) 1 1] [y]):=za ⟨_,rfl,(zad (X:=fun g=>w.heap.size≤g∧some g≠u3.ownBlock) (t:=153) (w:=W) (by rw [hW];exact Bk.new wr _ _) ⟨hg.size,fun e=>by have:=(a0.lt _ e.symm).2;omega⟩ HU.z).kept (by rw [f0];exact gAl _ _ none)⟩;have q0:Hid (∀g,u3.ownBlock=some g→w.heap.size≤g):=za fun g e=>(a0.lt g e).1
   clear a0 hg p0 i0;rw [hW] at f0;rw [f0] at HG l0 d0 k0;clear hW f0;go_wp2_with (at_builtin;refine wpList_plain rfl fun K hK=> ?_;refine yG (E:=zh zo) (y:= [y]) Xd l0.z d0.z (Bk.one k0.z) u0.z HG.z.size (fun g hg=>nLT HG.z.size hg) (.tmp 11) (.tmp 17) rfl rfl rfl ?_;intro v2 w2 c0 o0 r0;refine hK _ _ ?_);have j0:Hid (Acc (zh zo) w.heap.size 72 (fun g=>w.heap.size≤g) w2 v2 ((l.take (j+1)).map fun x=> [x])∧w.grownBy w2 none):=za ⟨by rw [t0.z];simpa using c0,HG.z.andThen o0 (fun g e=> .inl (q0.z g e))⟩;clear c0 o0 r0 HG l0 d0 k0 q0 hK;go_wp2_with fail;go_roundg m
   case measure=>omega
   case rel=>exact ⟨j+1,by omega,by go_num,j0⟩
theorem Pc(v1 v2:Value)(l:List (Int×Int))(X Y:Nat→Prop)(w:World)(h:Sl zo X w v1 l)(h2:Sl zo Y w v2 l)(hb:l.length≤100000):
  Calls prog 32 #[v1,v2] w fun e w'=>e= .returned (.bool true)∧w.grownBy w' none:=by
 have H1:=za h;have H2:=za h2;obtain ⟨A,c,rfl,_,_⟩:=h.form;obtain ⟨A',c',rfl,_,_⟩:=h2.form;clear h h2;go_enter func32,ntmps32;go_wp2_with fail;go_loopg [5] l.length (fun g s5 wx=> ∃j:Nat,j+g=l.length∧s5= .int .i64 j∧Hid (w.grownBy wx none))
 case atStart=>exact ⟨0,by omega,rfl,za gRf⟩
 case round=>
  obtain ⟨j,hj,rfl,HX⟩:=hrel;cases gk with
  |zero=>
   obtain rfl:j=l.length:=by omega
   go_wp2;go_ret;exact ⟨rfl,HX.z⟩
  |succ m=>
   have hjn:(j:Int)< (l.length:Int):=by omega
   have hjN:j< l.length:=by omega
   obtain ⟨g,o,_,e,_,_,hcx,hcx2,hux⟩:=(H1.z.kept HX.z).atP hjN;injection e with e1 e2 e3
   subst e1 e3;obtain ⟨g',o',_,e',_,_,hdx,hdx2,_⟩:=(H2.z.kept HX.z).atP hjN;injection e' with e1' e2' e3'
   subst e1' e3';have HFIN:Hid (∀n,w.grownBy (wr.drewN n) none):=za (fun n=>HX.z.trans (zb wr n));clear HX e2 e2' hux;generalize l[j]=y at *;go_wp2_with fail;go_quiet (fail);go_wp2_with fail;go_roundg m
   case measure=>omega
   case rel=>exact ⟨j+1,by omega,by go_num,za (HFIN.z _)⟩
def Oz(k who:Int)(l:List yL):List Int×Nat:=l.foldl (fun s x=>if x.1=k∧x.2.1=who then (x.2.2,s.2+1) else s) ([],0)
def toI(k who:Int)(l:List yL):List Int:=if (Oz k who l).2=1 then (Oz k who l).1 else []
theorem QC(k who:Int)(l:List yL){i:Nat}(hi:i< l.length):Oz k who (l.take (i+1))=if l[i].1=k∧l[i].2.1=who then (l[i].2.2,(Oz k who (l.take i)).2+1) else Oz k who (l.take i):=by
 unfold Oz;rw [tSg hi,List.foldl_append];rfl
theorem KF(k who:Int)(l:List yL): ∀i,i≤l.length→(Oz k who (l.take i)).2≤i
 |0,_=>nRf _
 |i+1,h=>by
  rw [QC k who l (by omega)]
  have:=KF k who l i (by omega)
  split
  ·dsimp only;omega
  ·omega
theorem XK(v:Value)(l:List yL)(k who:Int)(X:Nat→Prop)(w:World)(h:Sl YG X w v l)(hb:l.length≤100000):
  Calls prog 37 #[v, .int .u8 k, .int .i64 who] w fun e w'=> ∃v',e= .returned v'∧w'=w∧Sl ze X w v' (toI k who l):=by
 have H:=za h;obtain ⟨A,c,rfl,_,_⟩:=h.form;clear h;go_enter func37,ntmps37;go_wp2_with fail;go_loopg [7,8,9] l.length (fun g s7 s8 s9 wx=> ∃i n:Nat,i+g=l.length∧s9= .int .i64 i∧s8= .int .i64 n∧Hid (wx=w∧n=(Oz k who (l.take i)).2∧Sl ze X w s7 (Oz k who (l.take i)).1))
 case atStart=>exact ⟨0,0,by omega,rfl,rfl,za ⟨rfl,rfl,Sl.nil _ _ _⟩⟩
 case round=>
  obtain ⟨i,n,hi,rfl,rfl,HX⟩:=hrel;obtain rfl:w=wr:=HX.z.1.symm;cases gk with
  |zero=>
   obtain rfl:i=l.length:=by omega
   have h2:=HX.z.2;rw [List.take_length] at h2;by_cases hn:n=1
   ·have HR:Hid (Sl ze X w u7 (toI k who l)):=za (by unfold toI;rw [if_pos (by rw [←h2.1];exact hn)];exact h2.2);subst hn;clear HX h2;go_wp2;go_ret;exact ⟨_,rfl,rfl,HR.z⟩
   ·have HR:Hid (Sl ze X w (.slice none 0 0) (toI k who l)):=za (by unfold toI;rw [if_neg (by rw [←h2.1];exact hn)];exact Sl.nil _ _ _);have hd:((n:Int)==1)=false:=by
     have: ¬(n:Int)=1:=by omega
     simpa using this
    clear HX h2;go_wp2;go_ret;exact ⟨_,rfl,rfl,HR.z⟩
  |succ m=>
   have hjn:(i:Int)< (l.length:Int):=by omega
   have hjN:i< l.length:=by omega
   obtain ⟨g,o,_,u,e,_,_,⟨hc0,hc1,hc2⟩,hu8,Mk,hsu⟩:=H.out.atO hjN;injection e with e1 e2 e3
   subst e1 e3;have HN:=za (QC k who l hjN);have HLE:=za (KF k who l i (by omega));have hn9:(n:Int)+1≤9223372036854775807:=by have:=HX.z.2.1;have:=HLE.z;omega
   have HSU:=za hsu;obtain ⟨Au,nu,cu,rfl⟩:=hsu.shape;obtain ⟨y,hy⟩:=exq (l[i]);rw [←hy] at hc0 hc1 HN HSU;clear hsu hu8 Mk e2 hy;by_cases hk:y.1=k
   ·by_cases hw:y.2.1=who
    ·have HFIN:Hid (w=w∧n+1=(Oz k who (l.take (i+1))).2∧Sl ze X w (.slice Au nu cu) (Oz k who (l.take (i+1))).1):=za (by
      rw [HN.z,if_pos ⟨hk,hw⟩];exact ⟨rfl,by rw [HX.z.2.1],HSU.z⟩)
     have hd1:(y.1==k)=true:=by simpa using hk
     have hd2:(y.2.1==who)=true:=by simpa using hw
     clear HX;go_wp2_with fail;go_roundg m
     case measure=>omega
     case rel=>exact ⟨i+1,n+1,by omega,by go_num,by go_num,za ⟨rfl,HFIN.z.2⟩⟩
    ·have HFIN:Hid (w=w∧n=(Oz k who (l.take (i+1))).2∧Sl ze X w u7 (Oz k who (l.take (i+1))).1):=za (by
      rw [HN.z,if_neg (fun h=>hw h.2)];exact HX.z)
     have hd1:(y.1==k)=true:=by simpa using hk
     have hd2:(y.2.1==who)=false:=by simpa using hw
     clear HX;go_wp2_with fail;go_roundg m
     case measure=>omega
     case rel=>exact ⟨i+1,n,by omega,by go_num,rfl,za ⟨rfl,HFIN.z.2⟩⟩
   ·have HFIN:Hid (w=w∧n=(Oz k who (l.take (i+1))).2∧Sl ze X w u7 (Oz k who (l.take (i+1))).1):=za (by
     rw [HN.z,if_neg (fun h=>hk h.1)];exact HX.z)
    have hd1:(y.1==k)=false:=by simpa using hk
    clear HX;go_wp2_with fail;go_roundg m
    case measure=>omega
    case rel=>exact ⟨i+1,n,by omega,by go_num,rfl,za ⟨rfl,HFIN.z.2⟩⟩
end
section
open Go Go.RowKit Go.Shelf Go.Maps
structure Dl where
 m:List (List (List Int))
 a:List (List (List (Int×Int)))
 b:List (List (List (Int×Int)))
def VC:Enc Dl where
 size:=3
 pos:=by decide
 rep:=fun X w cs d=> ∃vm va vb,cs= [vm,va,vb]∧Sl (zh (zh ze)) X w vm d.m∧Sl (zh (zh zo)) X w va d.a∧Sl (zh (zh zo)) X w vb d.b
 len:=fun h=>by obtain ⟨_,_,_,rfl,_⟩:=h;rfl
 ones:=fun h u hu=>by
  obtain ⟨vm,va,vb,rfl,h1,h2,h3⟩:=h;obtain ⟨A1,n1,c1,rfl⟩:=h1.shape;obtain ⟨A2,n2,c2,rfl⟩:=h2.shape;obtain ⟨A3,n3,c3,rfl⟩:=h3.shape;simp at hu;rcases hu with rfl|rfl|rfl<;>rfl
 keep:=fun h hg hX=>by obtain ⟨vm,va,vb,e,h1,h2,h3⟩:=h;exact ⟨vm,va,vb,e,h1.keep hg hX,h2.keep hg hX,h3.keep hg hX⟩
 more:=fun h hX=>by obtain ⟨vm,va,vb,e,h1,h2,h3⟩:=h;exact ⟨vm,va,vb,e,h1.more hX,h2.more hX,h3.more hX⟩
 keepc:=fun h hg hr=>by obtain ⟨vm,va,vb,e,h1,h2,h3⟩:=h;exact ⟨vm,va,vb,e,h1.keepc hg hr,h2.keepc hg hr,h3.keepc hg hr⟩
theorem Sl.atDl{X:Nat→Prop}{w:World}{v:Value}{xs:List Dl}(h:Sl VC X w v xs){k:Nat}(hk:k< xs.length):
  ∃g o c vm va vb,v= .slice (some ⟨g,o,none⟩) xs.length c∧g< w.heap.size∧X g∧(w.cell? ⟨g,o+k*3,none⟩=some vm∧w.cell? ⟨g,o+k*3+1,none⟩=some va∧w.cell? ⟨g,o+k*3+2,none⟩=some vb)∧Sl (zh (zh ze)) X w vm xs[k].m∧Sl (zh (zh zo)) X w va xs[k].a∧Sl (zh (zh zo)) X w vb xs[k].b:=by
 obtain ⟨g,o,c,cs,e,hg,hX,⟨vm,va,vb,rfl,h1,h2,h3⟩,hc⟩:=h.at hk;exact ⟨g,o,c,vm,va,vb,e,hg,hX,⟨hc 0 _ rfl,hc 1 _ rfl,hc 2 _ rfl⟩,h1,h2,h3⟩
structure CL (N:Nat) (d:Dl):Prop where
 m:d.m.length≤10∧ ∀x∈d.m,x.length≤3∧ ∀y∈x,y.length≤3
 a:d.a.length=N∧ ∀r∈d.a,r.length≤10∧ ∀c∈r,c.length≤3
 b:d.b.length=N∧ ∀r∈d.b,r.length≤10∧ ∀c∈r,c.length≤3
def Xi(N:Int)(f:Int):Int:=1+IntKind.u64.wrap (IntKind.i64.wrap (f - 1))%N
def Nf(l:List Dl)(of_:Int):Dl:=l[((of_ - 1)%(l.length:Int)).toNat]?.getD ⟨[], [], []⟩
def Uh(p:Par)(kind f of_:Int)(nums:List Int)(l:List Dl)(me:Int):List Int:=
 if of_=0∨l= [] then nums
 else if kind=7 then Zi (Nf l of_).m ((Nf l of_).a[(me - 1).toNat]?.getD []) ((Nf l of_).b[(me - 1).toNat]?.getD [])
 else Zi (Nf l of_).m (zA (((Nf l of_).a[(Xi p.N f - 1).toNat]?.getD []).map (atP p.Q me))) (zA (((Nf l of_).b[(Xi p.N f - 1).toNat]?.getD []).map (atP p.Q me)))
def MG(Y:Nat→Prop)(w:World)(l:List Int)(e:Ending)(w':World):Prop:= ∃v,e= .returned v∧Sl ze (fun g=>Y g∨w.heap.size≤g) w' v l∧w.grownBy w' none
attribute [local go_sem] Oper.semAt_some
theorem YY(p:Par)(kind f of_:Int)(vn vl:Value)(nums:List Int)(l:List Dl)(me:Int)(Y Z:Nat→Prop)(w:World)(hp:p.ok)(hN:1≤p.N∧p.N≤7)(ho:U8 of_)(hk:U8 kind)(hf:I64 f)(hn:Sl ze Y w vn nums)(hl:Sl VC Z w vl l)(hd: ∀d∈l,CL p.N.toNat d)(S0:l.length≤100)(p0:1≤me∧me≤p.N):
  Calls prog 20 #[.agg #[.int .u8 kind, .int .i64 f, .int .u8 of_,vn],p.v,vl, .int .i64 me] w (MG Y w (Uh p kind f of_ nums l me)):=by
 obtain ⟨An,nn,cn,rfl⟩:=hn.shape;obtain ⟨Al,cl,rfl,_,_⟩:=hl.form;obtain ⟨w0,o0⟩:=exq ((w.alloc (.cells #[.int .u8 kind, .int .i64 f, .int .u8 of_, .slice An nn cn] 61)).alloc (.cells p.cells 39));have l0:Hid (w.grownBy w0 none):=za (by rw [o0];exact (gAl w _ none).trans (gAl _ _ none));have J1:Hid (Bk w0 w.heap.size 61 #[.int .u8 kind, .int .i64 f, .int .u8 of_, .slice An nn cn]):=za (by rw [o0];exact (Bk.new w _ _).alloc _);have u1:Hid (Bk w0 (w.heap.size+1) 39 p.cells):=za (by
  rw [o0];have h:=Bk.new (w.alloc (.cells #[.int .u8 kind, .int .i64 f, .int .u8 of_, .slice An nn cn] 61)) 39 p.cells;rw [World.size_alloc] at h;exact h)
 have Q0:=J1.z.rule;have P0:=u1.z.prule;have t0:=za o0;have HN:=za hn;have HL:=za hl;rw [o0] at Q0 P0;clear o0;by_cases hz:of_=0∨l= []
 ·have HR:Hid (MG Y w (Uh p kind f of_ nums l me) (.returned (.slice An nn cn)) w0):=za (by
   unfold Uh;rw [if_pos hz];exact ⟨_,rfl,(hn.kept l0.z).more fun g _ h=> .inl h,l0.z⟩)
  rw [t0.z] at HR;clear hp hN ho hk hf hn hl hd S0 p0;by_cases h0:of_=0
  ·subst h0;clear hz;go_enter func20,ntmps20;go_wp2_with fail;go_ret;exact HR.z
  ·obtain rfl:=hz.resolve_left h0;have D1:(of_==0)=false:=by simpa using h0
   clear hz;go_enter func20,ntmps20;go_wp2_with fail;go_ret;exact HR.z
 ·have h0: ¬of_=0:=fun e=>hz (.inl e)
  have c1:0< l.length:=List.length_pos_iff.2 fun e=>hz (.inr e)
  have D1:(of_==0)=false:=by simpa using h0
  obtain ⟨L,hL⟩:=exq (l.length);rw [←hL];have S1:((L:Int)==0)=false:=by
   have: ¬(L:Int)=0:=by omega
   simpa using this
  obtain ⟨j,hj⟩: ∃j:Nat,j=((of_ - 1)%(l.length:Int)).toNat:=⟨_,rfl⟩;have b1:=Int.emod_nonneg (of_ - 1) (show (l.length:Int)≠0 by omega);have a1:=Int.emod_lt_of_pos (of_ - 1) (show (0:Int)< (l.length:Int) by omega);have r0:j< l.length:=by omega
  have x0:Hid (Nf l of_=l[j]):=za (by unfold Nf;rw [←hj,List.getElem?_eq_getElem r0];rfl);have N1:IntKind.u8.wrap (of_ - 1)=of_ - 1:=IntWalk.u8_in _ (by have:=ho.1;have:=ho.2;omega);have M1:IntKind.i64.wrap (of_ - 1)=of_ - 1:=i6n _ (by have:=ho.1;have:=ho.2;omega);have n0:(of_ - 1).tmod (L:Int)=(j:Int):=by rw [hL,Int.tmod_eq_emod_of_nonneg (by have:=ho.1;omega)];omega
  obtain ⟨g,o,c',vm,va,vb,e,d1,_,⟨F1,g1,f1⟩,s1,s2,s3⟩:=(hl.kept l0.z).atDl r0;injection e with e1 e2 e3
  have M0:Hid (Uh p kind f of_ nums l me=if kind=7 then Zi l[j].m (l[j].a[(me - 1).toNat]?.getD []) (l[j].b[(me - 1).toNat]?.getD []) else Zi l[j].m (zA ((l[j].a[(Xi p.N f - 1).toNat]?.getD []).map (atP p.Q me))) (zA ((l[j].b[(Xi p.N f - 1).toNat]?.getD []).map (atP p.Q me)))):=za (by
   unfold Uh;rw [if_neg hz,x0.z])
  have b0:=hd _ (lGm r0);obtain ⟨d,U0⟩:=exq (l[j]);rw [←U0] at s1 s2 s3 M0 b0;have P1:(j:Int)< (L:Int):=by omega
  have R1:(0:Int)≤(j:Int):=iNn j;subst e1 e3;rw [M0.z];rw [t0.z] at F1 g1 f1;have V1:=za b0;have l1:=za s1;obtain ⟨jm,A0⟩: ∃x:Nat,x=(if kind=7 then me - 1 else Xi p.N f - 1).toNat:=⟨_,rfl⟩;have Y0:0≤IntKind.u64.wrap (IntKind.i64.wrap (f - 1)):=by rw [IntKind.wrap_u64];omega
  have X0:=Int.emod_nonneg (IntKind.u64.wrap (IntKind.i64.wrap (f - 1))) (show p.N≠0 by omega);have W0:=Int.emod_lt_of_pos (IntKind.u64.wrap (IntKind.i64.wrap (f - 1))) (show 0< p.N by omega);have q0:Hid ((IntKind.u64.wrap (IntKind.i64.wrap (f - 1))).tmod p.N=Xi p.N f - 1):=za (by rw [Int.tmod_eq_emod_of_nonneg Y0];unfold Xi;omega);have G0:1≤Xi p.N f∧Xi p.N f≤p.N:=by unfold Xi;omega
  have a0:jm< p.N.toNat:=by
   rw [A0];split<;>omega
  obtain ⟨ga,oa,ca,ua,ea,_,_,f0,sa⟩:=s2.atS (k:=jm) (by rw [b0.a.1];exact a0);obtain ⟨gb,ob,cb,ub,eb,_,_,d0,sb⟩:=s3.atS (k:=jm) (by rw [b0.b.1];exact a0);have z0:=b0.a.2 _ (lGm (show jm< d.a.length by rw [b0.a.1];exact a0));have y0:=b0.b.2 _ (lGm (show jm< d.b.length by rw [b0.b.1];exact a0));have v0:Hid ((d.a[jm]?.getD []=d.a[jm]'(by rw [b0.a.1];exact a0))∧d.b[jm]?.getD []=d.b[jm]'(by rw [b0.b.1];exact a0)):=za ⟨by rw [List.getElem?_eq_getElem (by rw [b0.a.1];exact a0)];rfl,by rw [List.getElem?_eq_getElem (by rw [b0.b.1];exact a0)];rfl⟩;obtain ⟨RA,C0⟩:=exq (d.a[jm]'(by rw [b0.a.1];exact a0));obtain ⟨RB,B0⟩:=exq (d.b[jm]'(by rw [b0.b.1];exact a0));rw [←C0, ←B0] at v0;rw [←C0] at sa z0;rw [←B0] at sb y0;rw [b0.a.1] at ea;rw [b0.b.1] at eb;subst ea eb;have k1:=za sa;have j1:=za sb;have O0:=za z0;have N0:=za y0;obtain ⟨Am,nm,cm,rfl⟩:=s1.shape;obtain ⟨Aa,na,ca',rfl⟩:=sa.shape;obtain ⟨Ab,nb,cb',rfl⟩:=sb.shape;obtain ⟨NN,V0⟩: ∃y:Nat,y=p.N.toNat:=⟨_,rfl⟩;rw [←V0] at a0 g1 f1;have Q1:(jm:Int)< (NN:Int):=by omega
  have C1:(0:Int)≤(jm:Int):=iNn jm;obtain ⟨w1,i0⟩:=exq (w0.alloc (.cells #[.slice Am nm cm, .slice (some ⟨ga,oa,none⟩) NN ca, .slice (some ⟨gb,ob,none⟩) NN cb] 107));have I1:Hid (w0.grownBy w1 none):=za (by rw [i0];exact gAl _ _ none);have t1:Hid (Bk w1 w0.heap.size 107 #[.slice Am nm cm, .slice (some ⟨ga,oa,none⟩) NN ca, .slice (some ⟨gb,ob,none⟩) NN cb]):=za (by rw [i0];exact Bk.new _ _ _);have n1:Hid (w1.grownBy w1.drew none):=za (zb w1 1);have g0:Hid (w0.grownBy w1.drew none):=za (I1.z.trans n1.z);have j0:Hid (∀w',w1.drew.grownBy w' none→(∀o,w'.cell? ⟨w0.heap.size,o,none⟩=(#[.slice Am nm cm, .slice (some ⟨ga,oa,none⟩) NN ca, .slice (some ⟨gb,ob,none⟩) NN cb]:Array Value)[o]?)∧(w'.cell? ⟨ga,oa+jm,none⟩=some (.slice Aa na ca')∧w'.cell? ⟨gb,ob+jm,none⟩=some (.slice Ab nb cb'))∧ ∀o,w'.cell? ⟨w.heap.size+1,o,none⟩=(#[.int .u64 p.P, .int .u64 p.Q, .int .u64 p.G, .int .u64 p.H, .int .i64 p.Nodes, .int .i64 p.N, .int .i64 p.T, .int .i64 p.K, .int .i64 p.D, .int .i64 p.R, .int .i64 p.M, .int .i64 p.X]:Array Value)[o]?):=za (fun w' hw'=>⟨(t1.z.grown (n1.z.trans hw') (by simp)).rule,⟨cell_kept f0 (g0.z.trans hw') (by simp),cell_kept d0 (g0.z.trans hw') (by simp)⟩,(u1.z.grown (g0.z.trans hw') (by simp)).prule⟩);have m0:=za b0.m;have R0:w0.heap.size=w.heap.size+1+1:=by rw [t0.z];simp
  rw [R0] at t1 j0;have m0:=za b0.m;have x1:=za G0;have Z1:=za p0;have U1:=za hp;have Y1:=za hN;have p1:=za A0;by_cases h7:kind=7
  ·subst h7;rw [if_pos rfl];have c0:jm=(me - 1).toNat:=by rw [p1.z,if_pos rfl]
   have K1:IntKind.i64.wrap (me - 1)=(jm:Int):=by rw [c0];have:=p0.1;have:=p0.2;have:=hN.2;rw [i6n _ (by omega)];omega
   rw [←c0,v0.z.1,v0.z.2];have u0:=za (fun W (hW:w0.grownBy W none)=>Te (.slice Am nm cm) (.slice Aa na ca') (.slice Ab nb cb') d.m RA RB Z Z Z W (l1.z.kept hW) (k1.z.kept hW) (j1.z.kept hW) m0.z O0.z N0.z);obtain ⟨PL,s0⟩:=exq (Zi d.m RA RB);rw [←s0] at u0 ⊢;clear b0 U0 s1 s2 s3 sa sb C0 B0 z0 y0 f0 d0 A0 Y0 X0 W0 G0 hz h0 b1 a1 hj r0 HL hL hl c1 hp hN ho hk hf hn hd S0 p0 M0 x0 HN d1 V0 R0 a0 c0 s0 q0;go_enter func20,ntmps20;go_wp2_with fail;rw [←t0.z, ←i0];clear Q0 P0 i0;refine ZR 16 ?_;refine mP0 (.pointer (some ⟨w.heap.size+1+1,0,none⟩)) ?_;refine mQ1 (.slice Am nm cm) 0 34 (fun w' hw' K hK=> ?_) ?_
   ·obtain ⟨hc,⟨f0,d0⟩,k0⟩:=j0.z w' hw';go_simp;exact hK _ rfl rfl
   refine mP0 (.pointer (some ⟨w.heap.size+1+1,1,none⟩)) ?_;refine mQ1 (.slice (some ⟨ga,oa,none⟩) NN ca) 2 36 (fun w' hw' K hK=> ?_) ?_
   ·obtain ⟨hc,⟨f0,d0⟩,k0⟩:=j0.z w' hw';go_simp;exact hK _ rfl rfl
   refine mP0 (.int .i64 me) ?_;refine mP1 (.int .i64 jm) 4 38 ?_;refine mP2 (.pointer (some ⟨ga,oa+jm,none⟩)) 3 37 5 39 ?_;refine mQ1 (.slice Aa na ca') 6 40 (fun w' hw' K hK=> ?_) ?_
   ·obtain ⟨hc,⟨f0,d0⟩,k0⟩:=j0.z w' hw';go_simp;exact hK _ rfl rfl
   refine mP0 (.pointer (some ⟨w.heap.size+1+1,2,none⟩)) ?_;refine mQ1 (.slice (some ⟨gb,ob,none⟩) NN cb) 8 42 (fun w' hw' K hK=> ?_) ?_
   ·obtain ⟨hc,⟨f0,d0⟩,k0⟩:=j0.z w' hw';go_simp;exact hK _ rfl rfl
   refine mP0 (.int .i64 me) ?_;refine mP1 (.int .i64 jm) 10 44 ?_;refine mP2 (.pointer (some ⟨gb,ob+jm,none⟩)) 9 43 11 45 ?_;refine mQ1 (.slice Ab nb cb') 12 46 (fun w' hw' K hK=> ?_) ?_
   ·obtain ⟨hc,⟨f0,d0⟩,k0⟩:=j0.z w' hw';go_simp;exact hK _ rfl rfl
   refine mN3 (Pv.sl ze (fun g=>w.heap.size≤g) PL) 1 35 7 41 13 47 (fun w' hw' K hK=> ?_) ?_
   ·go_simp;refine (u0.z w' (g0.z.trans hw')).mono ?_;rintro e w3 ⟨v,rfl,hs3,hg3⟩;exact hK _ _ rfl (hs3.more fun g _ hg=>nLT (l0.z.trans (g0.z.trans hw')).size hg) hg3
   refine mV (Pv.sl ze (fun g=>w.heap.size≤g) PL) [(14,48)] (fun w' hw' x48 e0=>kD fun K hK=> ?_) ?_
   ·have e0:Sl ze (fun g=>w.heap.size≤g) w' x48 PL:=e0;go_simp;exact hK _ _ rfl e0 gRf
   intro w3 n0
   iterate 15 (refine pD ?_;intro _)
   intro y15 k15;have e15:Sl ze (fun g=>w.heap.size≤g) w3 y15 PL:=k15;have HF:Hid (MG Y w PL (.returned y15) w3):=za ⟨_,rfl,e15.more fun g _ h=> .inr h,l0.z.trans (g0.z.trans n0)⟩;clear k15 e15 n0;refine wpList_nil ?_;simp only [Act.put,sAa,sAb,sAc];go_wp2_with fail;go_ret;exact HF.z
  ·rw [if_neg h7];have T1:(kind==7)=false:=by simpa using h7
   have c0:jm=(Xi p.N f - 1).toNat:=by rw [p1.z,if_neg h7]
   obtain ⟨F,hF⟩:=exq (Xi p.N f);rw [←hF] at c0 q0 G0;have T0:F - 1=(jm:Int):=by omega
   rw [T0] at q0;have O1:=q0.z;have L1:IntKind.u64.wrap p.N=p.N:=IntWalk.u64_in _ (by omega);have E0:IntKind.i64.wrap (jm:Int)=(jm:Int):=i6n _ (by omega);have z1:IntKind.u64.wrap (jm:Int)=(jm:Int):=IntWalk.u64_in _ (by omega);have B1:IntKind.i64.wrap (1+(jm:Int))=F:=by rw [i6n _ (by omega)];omega
   have H1:Hid (wrap64 (1+wrap64 ((IntKind.u64.wrap (wrap64 (f - 1))).tmod p.N))=F):=za (by
    have e1:=IntWalk.i64_left (f - 1);have e2:=IntWalk.i64_left (jm:Int);have e3:=IntWalk.i64_left (1+(jm:Int));rw [←e1,q0.z, ←e2,E0, ←e3,B1])
   have A1:IntKind.i64.wrap (F - 1)=(jm:Int):=by rw [T0];exact E0
   have y1:IntKind.u64.wrap me=me:=IntWalk.u64_in _ (by omega);have i1: ¬p.N=0:=by omega
   have G1:(p.N==0)=false:=by simpa using i1
   have o1:Hid (U64 me):=za ⟨by omega,by omega⟩;rw [←hF, ←c0,v0.z.1,v0.z.2];have r1:=za (fun W (hW:w0.grownBy W none)=>VG (.slice Aa na ca') RA me p.Q Z W (k1.z.kept hW) o1.z (by have:=O0.z.1;omega) (fun c hc=>by have:=O0.z.2 c hc;omega));have q1:=za (fun W (hW:w0.grownBy W none)=>VG (.slice Ab nb cb') RB me p.Q Z W (j1.z.kept hW) o1.z (by have:=N0.z.1;omega) (fun c hc=>by have:=N0.z.2 c hc;omega));obtain ⟨PA,F0⟩:=exq (RA.map (atP p.Q me));obtain ⟨PB,D0⟩:=exq (RB.map (atP p.Q me));have L0:Hid (PA.length≤10∧PB.length≤10):=za (by rw [F0,D0,lLm,lLm];exact ⟨O0.z.1,N0.z.1⟩);rw [←F0] at r1;rw [←D0] at q1;rw [←F0, ←D0];have u0:=za (fun W (hW:w0.grownBy W none) v1 v2 X1 X2 (h1:Sl (zh zo) X1 W v1 (zA PA)) (h2:Sl (zh zo) X2 W v2 (zA PB))=>Te (.slice Am nm cm) v1 v2 d.m (zA PA) (zA PB) Z X1 X2 W (l1.z.kept hW) h1 h2 m0.z ⟨by unfold zA;rw [lLm];exact L0.z.1,fun c hc=>by unfold zA at hc;obtain ⟨y,_,rfl⟩:=List.mem_map.1 hc;simp⟩ ⟨by unfold zA;rw [lLm];exact L0.z.2,fun c hc=>by unfold zA at hc;obtain ⟨y,_,rfl⟩:=List.mem_map.1 hc;simp⟩);obtain ⟨PL,s0⟩:=exq (Zi d.m (zA PA) (zA PB));rw [←s0] at u0 ⊢;clear b0 U0 s1 s2 s3 sa sb C0 B0 z0 y0 f0 d0 A0 Y0 X0 W0 G0 hz h0 b1 a1 hj r0 HL hL hl c1 hp hN ho hk hf hn hd S0 p0 M0 x0 HN d1 V0 R0 a0 c0 s0 F0 D0 q0 hF T0 h7 i1;go_enter func20,ntmps20;go_wp2_with fail;rw [←t0.z, ←i0,H1.z];clear Q0 P0 i0;refine ZR 28 ?_;refine mP0 (.pointer (some ⟨w.heap.size+1+1,0,none⟩)) ?_
   refine mQ1 (.slice Am nm cm) 0 59 (fun w' hw' K hK=> ?_) ?_
   ·obtain ⟨hc,⟨f0,d0⟩,k0⟩:=j0.z w' hw';go_simp;exact hK _ rfl rfl
   refine mP0 (.pointer (some ⟨w.heap.size+1+1,1,none⟩)) ?_;refine mQ1 (.slice (some ⟨ga,oa,none⟩) NN ca) 2 61 (fun w' hw' K hK=> ?_) ?_
   ·obtain ⟨hc,⟨f0,d0⟩,k0⟩:=j0.z w' hw';go_simp;exact hK _ rfl rfl
   refine mP0 (.int .i64 F) ?_;refine mP1 (.int .i64 jm) 4 63 ?_;refine mP2 (.pointer (some ⟨ga,oa+jm,none⟩)) 3 62 5 64 ?_;refine mQ1 (.slice Aa na ca') 6 65 (fun w' hw' K hK=> ?_) ?_
   ·obtain ⟨hc,⟨f0,d0⟩,k0⟩:=j0.z w' hw';go_simp;exact hK _ rfl rfl
   refine mP0 (.int .i64 me) ?_;refine mP1 (.int .u64 me) 8 67 ?_;refine mP0 (.pointer (some ⟨w.heap.size+1,1,none⟩)) ?_;refine mQ1 (.int .u64 p.Q) 10 69 (fun w' hw' K hK=> ?_) ?_
   ·obtain ⟨hc,⟨f0,d0⟩,k0⟩:=j0.z w' hw';go_simp;exact hK _ rfl rfl
   refine mN3 (Pv.sl (zo) (fun g=>w.heap.size≤g) PA) 7 66 9 68 11 70 (fun w' hw' K hK=> ?_) ?_
   ·go_simp;refine (r1.z w' (g0.z.trans hw')).mono ?_;rintro e w3 ⟨v,rfl,hs3,hg3⟩;exact hK _ _ rfl (hs3.more fun g _ hg=>nLT (l0.z.trans (g0.z.trans hw')).size hg) hg3
   refine mV (Pv.sl (zh zo) (fun g=>w.heap.size≤g) (zA PA)) [(12,71)] (fun w' hw' x71 K0=>kD fun K hK=> ?_) ?_
   ·have K0:Sl (zo) (fun g=>w.heap.size≤g) w' x71 PA:=K0;obtain ⟨A71,n71,c71,e71⟩:=K0.shape;subst e71;go_simp;refine (Tn _ PA _ w' K0 (by have:=L0.z.1;omega)).mono ?_;rintro e w3 ⟨v,rfl,hs3,hg3⟩;exact hK _ _ rfl (hs3.more fun g _ hg=>nLT (l0.z.trans (g0.z.trans hw')).size hg) hg3
   refine mP0 (.pointer (some ⟨w.heap.size+1+1,2,none⟩)) ?_;refine mQ1 (.slice (some ⟨gb,ob,none⟩) NN cb) 14 73 (fun w' hw' K hK=> ?_) ?_
   ·obtain ⟨hc,⟨f0,d0⟩,k0⟩:=j0.z w' hw';go_simp;exact hK _ rfl rfl
   refine mP0 (.int .i64 F) ?_;refine mP1 (.int .i64 jm) 16 75 ?_;refine mP2 (.pointer (some ⟨gb,ob+jm,none⟩)) 15 74 17 76 ?_;refine mQ1 (.slice Ab nb cb') 18 77 (fun w' hw' K hK=> ?_) ?_
   ·obtain ⟨hc,⟨f0,d0⟩,k0⟩:=j0.z w' hw';go_simp;exact hK _ rfl rfl
   refine mP0 (.int .i64 me) ?_;refine mP1 (.int .u64 me) 20 79 ?_;refine mP0 (.pointer (some ⟨w.heap.size+1,1,none⟩)) ?_;refine mQ1 (.int .u64 p.Q) 22 81 (fun w' hw' K hK=> ?_) ?_
   ·obtain ⟨hc,⟨f0,d0⟩,k0⟩:=j0.z w' hw';go_simp;exact hK _ rfl rfl
   refine mN3 (Pv.sl (zo) (fun g=>w.heap.size≤g) PB) 19 78 21 80 23 82 (fun w' hw' K hK=> ?_) ?_
   ·go_simp;refine (q1.z w' (g0.z.trans hw')).mono ?_;rintro e w3 ⟨v,rfl,hs3,hg3⟩;exact hK _ _ rfl (hs3.more fun g _ hg=>nLT (l0.z.trans (g0.z.trans hw')).size hg) hg3
   refine mV (Pv.sl (zh zo) (fun g=>w.heap.size≤g) (zA PB)) [(24,83)] (fun w' hw' x83 I0=>kD fun K hK=> ?_) ?_
   ·have I0:Sl (zo) (fun g=>w.heap.size≤g) w' x83 PB:=I0;obtain ⟨A83,n83,c83,e83⟩:=I0.shape;subst e83;go_simp;refine (Tn _ PB _ w' I0 (by have:=L0.z.2;omega)).mono ?_;rintro e w3 ⟨v,rfl,hs3,hg3⟩;exact hK _ _ rfl (hs3.more fun g _ hg=>nLT (l0.z.trans (g0.z.trans hw')).size hg) hg3
   refine mV (Pv.sl ze (fun g=>w.heap.size≤g) PL) [(1,60),(13,72),(25,84)] (fun w' hw'=>pQ (fun x72 J0 x84 H0=>kD fun K hK=> ?_)) ?_
   ·have J0:Sl (zh zo) (fun g=>w.heap.size≤g) w' x72 (zA PA):=J0;obtain ⟨A72,n72,c72,e72⟩:=J0.shape;subst e72;have H0:Sl (zh zo) (fun g=>w.heap.size≤g) w' x84 (zA PB):=H0;obtain ⟨A84,n84,c84,e84⟩:=H0.shape;subst e84;go_simp;refine (u0.z w' (g0.z.trans hw') _ _ _ _ J0 H0).mono ?_;rintro e w3 ⟨v,rfl,hs3,hg3⟩;exact hK _ _ rfl (hs3.more fun g _ hg=>nLT (l0.z.trans (g0.z.trans hw')).size hg) hg3
   refine mV (Pv.sl ze (fun g=>w.heap.size≤g) PL) [(26,85)] (fun w' hw' x85 Z0=>kD fun K hK=> ?_) ?_
   ·have Z0:Sl ze (fun g=>w.heap.size≤g) w' x85 PL:=Z0;go_simp;exact hK _ _ rfl Z0 gRf
   intro w3 n0
   iterate 27 (refine pD ?_;intro _)
   intro y27 k27;have e27:Sl ze (fun g=>w.heap.size≤g) w3 y27 PL:=k27;have HF:Hid (MG Y w PL (.returned y27) w3):=za ⟨_,rfl,e27.more fun g _ h=> .inr h,l0.z.trans (g0.z.trans n0)⟩;clear k27 e27 n0;refine wpList_nil ?_;simp only [Act.put,sAa,sAb,sAc];go_wp2_with fail;go_ret;exact HF.z
end
section
open Go Go.RowKit Go.Shelf
def dlK(p:Par)(j:Nat):Nat:=Cq p+j*(ZS p*(2*((Yx p+1)*(Yx p+1) - 1)))
def CT(p:Par)(seed i:Int)(j:Nat):List (List (List Int)):=xI (Dp p [0] seed i) p.Q (DO p seed) (Yx p+1) (dlK p j) (ZS p)
def CU(p:Par)(seed i:Int)(j:Nat):List (List (List Int)):=xJ (Dp p [0] seed i) p.Q (DO p seed) (Yx p+1) (dlK p j) (ZS p)
def dlD(p:Par)(seed i:Int)(j:Nat):Dl:=⟨ES p (CT p seed i j) (CU p seed i j),(List.range p.N.toNat).map fun x:Nat=>UG p.Q (CT p seed i j) (CU p seed i j) (Yx p+1) ((x:Int)+1),(List.range p.N.toNat).map fun x:Nat=>Ti p.Q (CT p seed i j) (CU p seed i j) (Yx p+1) ((x:Int)+1)⟩
section
variable {p:Par} (hm:Zk p=true) (hq:U64 p.Q) (seed i:Int) (j:Nat)
include hm hq
theorem Xf:VL p.Q (Yx p+1) (ZS p) (CT p seed i j) (CU p seed i j):=Pf (by omega) (Do hm) (fun k=>(Qa hq seed k).1)
theorem Ds:(dlD p seed i j).m.length=ZS p:=by
 have h:=Xf hm hq seed i j;simp [dlD,ES,ZA,h.f.1,h.b.1]
theorem Mr: ∀M∈(dlD p seed i j).m,M.length=Yx p+1∧ ∀r∈M,r.length=Yx p+1:=fun M hM=>by
 have h:=Xf hm hq seed i j;simp only [dlD,ES,ZA,List.map_map,h.f.1,h.b.1,Nat.max_self,List.mem_map,List.mem_range,Function.comp] at hM;obtain ⟨s,hs,rfl⟩:=hM;obtain ⟨a,e1,s1⟩:=h.atF hs;obtain ⟨b,e2,s2⟩:=h.atB hs;simp only [e1,e2,Option.getD_some];exact II s1 s2
theorem PG: ∀r∈(dlD p seed i j).a,r.length=ZS p∧ ∀c∈r,c.length=Yx p+1:=fun r hr=>by
 have h:=Xf hm hq seed i j;obtain ⟨x,_,rfl⟩:=List.mem_map.1 hr;refine ⟨by simp [UG,h.f.1],fun c hc=> ?_⟩;obtain ⟨s,_,rfl⟩:=List.mem_map.1 hc;simp [GE,Ko]
theorem PH: ∀r∈(dlD p seed i j).b,r.length=ZS p∧ ∀c∈r,c.length=Yx p+1:=fun r hr=>by
 have h:=Xf hm hq seed i j;obtain ⟨x,_,rfl⟩:=List.mem_map.1 hr;refine ⟨by simp [Ti,h.f.1],fun c hc=> ?_⟩;obtain ⟨s,_,rfl⟩:=List.mem_map.1 hc;simp [Fu,Ko]
theorem Cr:CL p.N.toNat (dlD p seed i j):=by
 obtain ⟨h1,h2,h3,h4,h5,h6,h7,h8,h9⟩:=xY hm;refine ⟨⟨by rw [Ds hm hq];exact h4,fun M hM=> ?_⟩,⟨by simp [dlD],fun r hr=> ?_⟩,⟨by simp [dlD],fun r hr=> ?_⟩⟩
 ·obtain ⟨a,b⟩:=Mr hm hq seed i j M hM;exact ⟨by omega,fun y hy=>by rw [b y hy];omega⟩
 ·obtain ⟨a,b⟩:=PG hm hq seed i j r hr;exact ⟨by omega,fun y hy=>by rw [b y hy];omega⟩
 ·obtain ⟨a,b⟩:=PH hm hq seed i j r hr;exact ⟨by omega,fun y hy=>by rw [b y hy];omega⟩
theorem Dr:CN (dlD p seed i j).m (dlD p seed i j).a (dlD p seed i j).b:=by
 obtain ⟨h1,h2,h3,h4,_⟩:=xY hm;refine ⟨fun M hM=> ?_,fun M hM=> ?_,fun M hM=> ?_⟩
 ·obtain ⟨a,b⟩:=Mr hm hq seed i j M hM;exact ⟨fun e=>by subst e;simp at a,fun y hy=>⟨fun e=>by subst e;have:=b _ hy;simp at this,fun _ _=>trivial⟩⟩
 ·obtain ⟨a,b⟩:=PG hm hq seed i j M hM;exact ⟨fun e=>by subst e;simp at a;omega,fun y hy=>⟨fun e=>by subst e;have:=b _ hy;simp at this,fun _ _=>trivial⟩⟩
 ·obtain ⟨a,b⟩:=PH hm hq seed i j M hM;exact ⟨fun e=>by subst e;simp at a;omega,fun y hy=>⟨fun e=>by subst e;have:=b _ hy;simp at this,fun _ _=>trivial⟩⟩
end
theorem Iz(p:Par):Dq p [0]=List.replicate (ZS p) 0:=by
 unfold Dq Ez;rw [List.eq_replicate_iff];refine ⟨by simp,fun b hb=> ?_⟩;obtain ⟨a,_,rfl⟩:=List.mem_map.1 hb;simp [Ca,Nat.mod_one]
end
section
open Go Go.RowKit Go.Shelf
theorem Dc:(Tryz.prog.info? 107).map (fun i=>(i.zero,i.size,i.bytes))=some (some (.agg #[.slice none 0 0, .slice none 0 0, .slice none 0 0]),3,72):=by kernel_rfl
theorem Ae:zQ prog 42 107 3 72:=zQ.mk' (by decide) Tryz.underlying42 Dc rfl
def DLn(B:Nat)(W:World)(a b c:Value)(d:Dl):Prop:=Sl (zh (zh ze)) (fun g=>B≤g) W a d.m∧Sl (zh (zh zo)) (fun g=>B≤g) W b d.a∧Sl (zh (zh zo)) (fun g=>B≤g) W c d.b
def Ct(p:Par)(seed:Int)(gt k B:Nat)(d:Dl)(x:Value)(cs:Array Value)(W:World):Prop:= ∃a b c,x= .tuple #[.agg #[a,b,c], .int .i64 0]∧cs= #[a,b,c]∧DLn B W a b c d∧Yk p seed gt k W
theorem zaE(p:Par)(D:World)(gt:Nat)(hgt:gt< D.heap.size)(seed:Int)(k k':Nat){d:Dl}(hd:CN d.m d.a d.b):Om D (some gt) 107 #[.slice none 0 0, .slice none 0 0, .slice none 0 0] (Yk p seed gt k) (Ct p seed gt k' D.heap.size d) where
 row:=fun r e=>by injection e with e;omega
 pre:=fun h hg=>h.grown hg (by simp)
 told:=fun ⟨a,b,c,e,e2,h,ht⟩ hg=>⟨a,b,c,e,e2,⟨h.1.kept hg,h.2.1.kept hg,h.2.2.kept hg⟩,ht.grown hg (by simp)⟩
 store:=fun ⟨a,b,c,e,e2,h,ht⟩ hb hgd hg=>⟨a,b,c,e,e2,⟨UD (DL (DL (zay none 0 0))) h.1 hd.m hb hg,UD (DL (DL (zah none 0 0))) h.2.1 hd.r hb hg,UD (DL (DL (zah none 0 0))) h.2.2 hd.c hb hg⟩,ht.grown hg (fun e=>by injection e with e;omega)⟩
theorem zaq(w:World)(N:Nat)(hN:N≤w.heap.size):Sl ze (fun k=>N≤k) (w.alloc (.cells (madeCells #[.int .u64 0] 2) 22)) (.slice (some ⟨w.heap.size,0,none⟩) 2 2) [0,0]:=
 Sl.block (E:=ze) (X:=fun k=>N≤k) (xs:= [0,0]) (c:=2) (Bk.new w _ _) hN [[.int .u64 0], [.int .u64 0]] rfl (fun i hi hi'=>by
  have h:i=0∨i=1:=by simp at hi;omega
  rcases h with rfl|rfl
  ·exact ⟨rfl,(show U64 0 from ⟨by decide,by decide⟩)⟩
  ·exact ⟨rfl,(show U64 0 from ⟨by decide,by decide⟩)⟩) (by rw [toList_madeCells_one];rfl) (by decide) (by decide)
attribute [local go_sem] Oper.semAt_some
def FK(w:World)(ds:List Dl)(cm:List (List Int))(e:Ending)(w':World):Prop:= ∃vd vc,e= .returned (.tuple #[vd,vc, .bool true])∧Sl VC (fun b=>w.heap.size≤b) w' vd ds∧Sl (zh ze) (fun b=>w.heap.size≤b) w' vc cm∧w.grownBy w' none
theorem Xo(p:Par)(dl a0:Int)(n:Nat)(w:World)(hp:p.ok)(hm:Zk p=true)(I0:p.K=1∧p.D=1)(hT:yd w)(H1:U64 a0)(r2:1≤dl∧dl≤p.N)(hn:n≤2):
  Calls prog 17 #[p.v, .int .i64 dl, .int .u64 a0, .int .i64 n] w (FK w ((List.range n).map (dlD p a0 dl)) (Kn p [0] a0)):=by
 have HP:=za hp;have s0:=za hm;have V1:=za hT;have I2:=za H1;have HQ:Hid (U64 p.Q):=za hp.Q;have d0:=za (xY hm);have g1:ZS p=2:=by unfold ZS;rw [I0.1,I0.2];rfl
 have K2:=za g1;obtain ⟨i0,rfl⟩: ∃k:Nat,dl=(k:Int)+1:=⟨(dl - 1).toNat,by omega⟩;obtain ⟨NN,u2⟩: ∃k:Nat,k=p.N.toNat:=⟨_,rfl⟩;have l0:Hid (p.N.toNat=NN∧i0< NN∧NN≤7∧p.N=(NN:Int)):=za (by have:=d0.z;omega);have W2:(i0:Int)< (NN:Int):=by have:=l0.z;omega
 have X2:(0:Int)≤(i0:Int):=iNn i0;have U2:IntKind.i64.wrap (i0:Int)=(i0:Int):=i6n _ (by have:=l0.z;omega);have Y2:IntKind.i64.wrap (p.D+1)=2:=by rw [I0.2];decide
 have V2:IntKind.i64.wrap (p.K*2)=2:=by rw [I0.1];decide
 have b3: ¬((i0:Int)+1< 1):=by omega
 have a3: ¬((NN:Int)< (i0:Int)+1):=by omega
 obtain ⟨S,hS⟩:=exq (Dq p [0]);have p0:Hid (S=Dq p [0]∧S.length=ZS p∧S= [0,0]):=za ⟨hS,by rw [hS];exact Fr p _,by rw [hS,Iz,g1];rfl⟩;obtain ⟨SH,K1⟩:=exq ((List.range NN).map fun i:Nat=>Dp p [0] a0 ((i:Int)+1));have t1:=za K1;obtain ⟨CM,i1⟩:=exq (Kn p [0] a0);have N2:=za i1;rw [←i1];obtain ⟨X,hX⟩:=exq (Dp p [0] a0 ((i0:Int)+1));have HX:Hid (X=Dp p [0] a0 ((i0:Int)+1)∧X.length=ZS p):=za ⟨hX,by rw [hX];exact Fq _ _ _ _⟩;obtain ⟨w0,D0⟩:=exq (w.alloc (Obj.cells p.cells 39));have L2:Hid (w.grownBy w0 none):=za (by rw [D0];exact gAl _ _ none);have R2:Hid (Bk w0 w.heap.size 39 p.cells):=za (by rw [D0];exact Bk.new w _ _);have T1:Hid (w0.heap.size=w.heap.size+1):=za (by rw [D0,World.size_alloc]);have Z1:=za hn;clear hp hm hT H1 r2 hn u2 hS K1 i1 hX I0 g1;go_enter func17,ntmps17;go_wp2_with fail;rw [←D0];clear D0;obtain ⟨gt,Q0⟩:=exq (w0.heap.size);refine (JI a0 w0).mono ?_;rintro e w1 ⟨rfl,hw1⟩;rw [←Q0];have O2:Hid (Yk p a0 gt 0 w1):=za (by rw [hw1,Q0];exact Bk.new w0 _ _);have b2:Hid (w0.grownBy w1 none):=za (by rw [hw1];exact gAl _ _ none);have b0:Hid (gt=w.heap.size+1∧w1.heap.size=w.heap.size+2):=za ⟨by rw [Q0,T1.z],by rw [hw1,World.size_alloc,T1.z]⟩;clear hw1 Q0;go_upto_region 2 with (fail)
 have u0:Hid (w.grownBy w1.drew none):=za ((L2.z.trans b2.z).trans (zb w1 1));have g0:Hid (w1.drew.heap.size=w.heap.size+2):=za b0.z.2;have q0:=za (zaF p w1.drew gt (by rw [g0.z,b0.z.1];omega) a0 (Cq p) SH CM);have g2:Hid (Bk w1.drew w.heap.size 39 p.cells):=za (R2.z.grown (b2.z.trans (zb w1 1)) (by simp));have m0:Hid (∀vs W,(PV q0.z).C vs W→ ∀o,W.cell? ⟨w.heap.size,o,none⟩=(#[.int .u64 p.P, .int .u64 p.Q, .int .u64 p.G, .int .u64 p.H, .int .i64 p.Nodes, .int .i64 p.N, .int .i64 p.T, .int .i64 p.K, .int .i64 p.D, .int .i64 p.R, .int .i64 p.M, .int .i64 p.X]:Array Value)[o]?):=za (fun vs W hC=>by
  have hC:XE _ _ _ _ vs W:=hC;exact (g2.z.grown hC.g (fun e=>by injection e with e;have:=b0.z.1;omega)).prule)
 have U1:Hid (Tp gt p.Q (DO p a0) (fun k=>Yk p a0 gt k) (fun b=>b=gt) 1000000):=za (DS gt p.Q a0 I2.z HQ.z);have d2:Hid (∀v W,w1.drew.grownBy W (some gt)→Yk p a0 gt 0 W→Sl ze (fun k=>w1.drew.heap.size≤k) W v S→Calls prog 45 #[p.v,v, .pointer (some ⟨gt,0,none⟩)] W fun e w'=> ∃a b,e= .returned (.tuple #[a,b, .int .i64 0])∧Sl (zh zo) (fun k=>w1.drew.heap.size≤k) w' a SH∧Sl (zh ze) (fun k=>w1.drew.heap.size≤k) w' b CM∧Yk p a0 gt (Cq p) w'∧W.grownBy w' (some gt)):=za (fun v W hg hb hs=>by
  refine (LK p v S _ W U1.z HP.z s0.z (V1.z.kept (zz u0.z hg (fun r e=>by injection e with e;have:=b0.z.1;omega))) hs (fun b hb=>by have:=b0.z.1;have:=g0.z;omega) (by rw [p0.z.2.1,d0.z.2.2.2.2.1]) 0 (Yx p) d0.z.2.2.2.2.2.1 hb (by
   have h1:=d0.z.2.2.2.1;have h2:=d0.z.2.1;have h3:S.length*(2*Yx p+1)≤10*5:=Nat.mul_le_mul (by rw [p0.z.2.1];exact h1) (by omega);omega)).mono ?_
  rintro e w' ⟨vs,vc,rfl,k1,k2,k3,k4⟩;refine ⟨vs,vc,rfl, ?_, ?_, ?_,k4⟩
  ·rw [t1.z, ←l0.z.1];rw [p0.z.2.1,p0.z.1] at k1;exact k1.more fun k _ hk=>nLT hg.size hk
  ·rw [N2.z];rw [p0.z.2.1,p0.z.1] at k2;exact k2.more fun k _ hk=>nLT hg.size hk
  ·rw [p0.z.2.1] at k3;unfold Cq;simpa using k3)
 have H2:Hid (S= [0,0]):=za p0.z.2.2;refine FR.wp_region_late (PV q0.z) [9] 17 (by kernel_rfl) (by kernel_rfl) (by kernel_rfl) (XE.start O2.z) ?_;refine FR.mS (p.v) [] (fun vs w' hC=>FR.kD fun K hK=> ?_) ?_
 ·have hp:=m0.z vs w' hC;go_simp;exact hK _ _ rfl ⟨rfl,gRf⟩
 refine FR.mS (.pointer (some ⟨w.heap.size,7,none⟩)) [] (fun vs w' hC=>FR.kD fun K hK=> ?_) ?_
 ·go_simp;exact hK _ _ rfl ⟨rfl,gRf⟩
 refine FR.mS (.int .i64 p.K) [(1,23)] (fun vs w' hC=>FR.pQ (FR.kD fun K hK=> ?_)) ?_
 ·have hp:=m0.z vs w' hC;go_simp;exact hK _ _ rfl ⟨rfl,gRf⟩
 refine FR.mS (.pointer (some ⟨w.heap.size,8,none⟩)) [] (fun vs w' hC=>FR.kD fun K hK=> ?_) ?_
 ·go_simp;exact hK _ _ rfl ⟨rfl,gRf⟩
 refine FR.mS (.int .i64 p.D) [(3,25)] (fun vs w' hC=>FR.pQ (FR.kD fun K hK=> ?_)) ?_
 ·have hp:=m0.z vs w' hC;go_simp;exact hK _ _ rfl ⟨rfl,gRf⟩
 refine FR.mS (.int .i64 2) [(4,26)] (fun vs w' hC=>FR.pQ (FR.kD fun K hK=> ?_)) ?_
 ·go_simp;exact hK _ _ rfl ⟨rfl,gRf⟩
 refine FR.mS (.int .i64 2) [(2,24),(5,27)] (fun vs w' hC=>FR.pQ (FR.pQ (FR.kD fun K hK=> ?_))) ?_
 ·go_simp;exact hK _ _ rfl ⟨rfl,gRf⟩
 refine FR.mV (AI ze S) [(6,28)] (fun vs w' hC=>FR.pQ (FR.kD fun K hK=> ?_)) ?_
 ·have hC:XE _ _ _ _ vs w':=hC;have i2:=hC.g.size;go_simp;exact hK _ _ rfl ⟨show Sl ze (fun k=>w1.drew.heap.size≤k) _ _ S from H2.z ▸ zaq w' _ i2,gAl w' _ none⟩
 refine FR.mS (.pointer (some ⟨gt,0,none⟩)) [] (fun vs w' hC=>FR.kD fun K hK=> ?_) ?_
 ·go_simp;exact hK _ _ rfl ⟨rfl,gRf⟩
 refine FR.LateR.turn 0 [(0,22),(7,29),(8,30)] (by kernel_rfl) [] rfl (by kernel_rfl) (fun vs w' hn hr hC=> ?_) ?_
 ·intro x22 R1;intro x29 U0;have U0:Sl ze (fun k=>w1.drew.heap.size≤k) w' x29 S:=U0;intro x30 Q1;have e22:x22=p.v:=R1;clear R1;subst e22;have e30:x30= .pointer (some ⟨gt,0,none⟩):=Q1;clear Q1;subst e30;refine FR.askl_do rfl fun K hK=> ?_
  have hC:XE _ _ _ _ vs w':=hC;obtain ⟨A29,n29,c29,e29⟩:=U0.shape;subst e29;go_simp;refine (d2.z _ w' hC.g (hC.pre hn) U0).mono ?_;rintro e w3 ⟨va,vb,rfl,k1,k2,k3,k4⟩;exact hK _ _ rfl ⟨k4,XE.call hC hn ⟨va,vb,rfl,k1,k2,k3⟩ k4⟩
 refine FR.mV (AH) [(9,31)] (fun vs w' hC x31 z2=>FR.kD fun K hK=> ?_) ?_
 ·go_simp;exact hK _ _ rfl ⟨z2,gRf⟩
 refine FR.mV (Fz dE0) [(10,21)] (fun vs w' hC x21 c0=>FR.kD fun K hK=> ?_) ?_
 ·have c0:(0,x21)∈vs:=c0;have hC:XE _ _ _ _ vs w':=hC;obtain ⟨va,vb,rfl,F1,D1,O0⟩:=hC.told _ c0;go_simp;exact hK _ _ rfl ⟨⟨_,c0,vb,rfl⟩,gRf⟩
 refine FR.mV (Fz dE1) [(10,21)] (fun vs w' hC x21 c0=>FR.kD fun K hK=> ?_) ?_
 ·have c0:(0,x21)∈vs:=c0;have hC:XE _ _ _ _ vs w':=hC;obtain ⟨va,vb,rfl,F1,D1,O0⟩:=hC.told _ c0;go_simp;exact hK _ _ rfl ⟨⟨_,c0,va,rfl⟩,gRf⟩
 refine FR.mS (.int .i64 0) [(10,21)] (fun vs w' hC x21 c0=>FR.kD fun K hK=> ?_) ?_
 ·have c0:(0,x21)∈vs:=c0;have hC:XE _ _ _ _ vs w':=hC;obtain ⟨va,vb,rfl,F1,D1,O0⟩:=hC.told _ c0;go_simp;exact hK _ _ rfl ⟨rfl,gRf⟩
 refine FR.mV (Fz dE0) [(11,32)] (fun vs w' hC x32 o1=>FR.kD fun K hK=> ?_) ?_
 ·have o1: ∃x,(0,x)∈vs∧dE0 x32 x:=o1;go_simp;exact hK _ _ rfl ⟨o1,gRf⟩
 refine FR.mV (Fz dE1) [(12,33)] (fun vs w' hC x33 l1=>FR.kD fun K hK=> ?_) ?_
 ·have l1: ∃x,(0,x)∈vs∧dE1 x33 x:=l1;go_simp;exact hK _ _ rfl ⟨l1,gRf⟩
 refine FR.mS (.int .i64 0) [(13,34)] (fun vs w' hC=>FR.pQ (FR.kD fun K hK=> ?_)) ?_
 ·go_simp;exact hK _ _ rfl ⟨rfl,gRf⟩
 intro vs w2 N0 z0;have z0:XE _ _ _ _ vs w2:=z0;intro y0 k0 y1 k1 y2 k2 y3 k3 y4 k4 y5 k5
 iterate 8 (refine pD ?_;intro _)
 intro y14 k14 y15 k15 y16 k16;show wpList prog _ _ _ _ w2;simp only [Act.put,sAa,sAb,sAc];have e16:y16= .int .i64 0:=k16;subst e16;obtain ⟨x10,C0,b10,e10⟩: ∃x,(0,x)∈vs∧dE0 y14 x:=k14;obtain ⟨x11,B0,a11,e11⟩: ∃x,(0,x)∈vs∧dE1 y15 x:=k15;obtain ⟨va,vb,eab,E0,s2,C1⟩:=z0.told _ C0;obtain ⟨T2,S2,eab',x0,r0,e0⟩:=z0.told _ B0;obtain ⟨q1,_,_⟩:=AY (e10.symm.trans eab);obtain ⟨_,q2,_⟩:=AY (e11.symm.trans eab');subst q1 q2;have V0:=za z0.g;have D2:=za C1;clear k0 k1 k2 k3 k4 k5 k16 N0 z0 e10 e11 eab eab' x0 s2 e0 C0 B0 m0 d2 C1;have K0:Hid (SH.length=NN):=za (by rw [t1.z];simp);obtain ⟨AS,cS,eS,_,_⟩:=E0.form;rw [K0.z] at eS;subst eS;obtain ⟨Ak,nk,ck,rfl⟩:=r0.shape;have G2:=za E0;have B1:=za r0;clear E0 r0;have j0:Hid (w.heap.size+2≤w2.heap.size):=za (by have:=V0.z.size;rw [g0.z] at this;exact this);have s1:Hid (∃g o,AS=some ⟨g,o,none⟩∧w1.drew.heap.size≤g∧ ∀W,w2.grownBy W (some gt)→ ∃u,W.cell? ⟨g,o+i0,none⟩=some u∧Sl zo (fun k=>w1.drew.heap.size≤k) W u X):=za (by
  have p2:i0< SH.length:=by rw [K0.z];exact l0.z.2.1
  obtain ⟨gS,oS,cS',uS,eS,_,S0,R0,v0⟩:=G2.z.atS p2;injection eS with e1 _ _
  have b1:SH[i0]=X:=by
   rw [HX.z.1];simp [t1.z]
  rw [b1] at v0;exact ⟨gS,oS,e1,S0,fun W hW=>⟨uS,Vk R0 hW (fun e=>by injection e with e;have:=b0.z.1;have:=g0.z;omega),v0.keep hW (fun b hb e=>by injection e with e;have:=b0.z.1;have:=g0.z;omega)⟩⟩)
 go_wp2_with fail;go_loopg [15,16,17,18] n (fun g s15 s16 s17 s18 wx=> ∃j:Nat,j+g=n∧s16= .int .i64 j∧Hid (Acc VC w2.heap.size 107 (fun g=>w2.heap.size≤g) wx s15 ((List.range j).map (dlD p a0 ((i0:Int)+1)))∧Yk p a0 gt (dlK p j) wx∧w2.grownBy wx (some gt)))
 case atStart=>exact ⟨0,by omega,rfl,za ⟨Acc.nil _ _ _ _ _,by unfold dlK;rw [Nat.zero_mul,Nat.add_zero];exact D2.z,gRr _ _⟩⟩
 case round=>
  rename World=>wr
  obtain ⟨j,hj,rfl,HL⟩:=hrel;rcases Nat.eq_zero_or_pos gk with hg0|hg0
  ·obtain rfl:j=n:=by omega
   have HR:Hid (Sl VC (fun b=>w.heap.size≤b) wr u15 ((List.range j).map (dlD p a0 ((i0:Int)+1)))∧Sl (zh ze) (fun b=>w.heap.size≤b) wr (.slice Ak nk ck) CM∧w.grownBy wr none):=za ⟨HL.z.1.sl.more fun b _ hb=>(by have:=V0.z.size;have:=g0.z;have hb:w2.heap.size≤b:=hb;omega),(B1.z.keep HL.z.2.2 (fun b hb e=>by injection e with e;have:=b0.z.1;have:=g0.z;omega)).more fun b _ hb=>(by have:=b0.z.1;have:=g0.z;omega),zz (u0.z) (V0.z.trans HL.z.2.2) (fun r e=>by injection e with e;have:=b0.z.1;omega)⟩;obtain ⟨A15,n15,c15,e15⟩:=HR.z.1.shape;subst e15;clear HL hg0;go_wp2_with fail;go_ret3;exact ⟨_,_,rfl,HR.z⟩
  ·have x2:(j:Int)< (n:Int):=by omega
   have Z2:(n:Int)≤2:=by have:=Z1.z;omega
   have E2:(0:Int)≤(j:Int):=iNn j;have W1:Hid (j< 2):=za (by have:=Z1.z;omega);have Y0:=za HL.z.1;have C2:=za HL.z.2.1;have L0:=za HL.z.2.2;obtain ⟨gS,oS,eS,S0,d1⟩:=s1.z;have d3:=za d1;have F2:=za S0;obtain ⟨uS,R0,v0⟩:=d1 wr HL.z.2.2;subst eS;obtain ⟨Ax,nx,cx,rfl⟩:=v0.shape;have M2:=za R0;have r1:=za v0;clear d1 S0 R0 v0 HL;go_upto_region 9 with (fail)
   have A0:Hid (wr.grownBy wr.drew none):=za (zb wr 1);have B2:Hid (w.heap.size+2≤wr.drew.heap.size):=za (by have:=L0.z.size;have:=j0.z;exact nLT j0.z L0.z.size);have q0:=za (zaE p wr.drew gt (by have:=b0.z.1;have:=B2.z;omega) a0 (dlK p j) (dlK p (j+1)) (Dr s0.z HQ.z a0 ((i0:Int)+1) j));have J0:Hid (Yk p a0 gt (dlK p j) wr.drew):=za (C2.z.grown A0.z (by simp));have X1:Hid (w1.drew.grownBy wr.drew (some gt)):=za ((V0.z.trans L0.z).trans (A0.z.but _));have Q2:Hid (Bk wr.drew w.heap.size 39 p.cells):=za (g2.z.grown X1.z (fun e=>by injection e with e;have:=b0.z.1;omega));have m0:Hid (∀vs W,(FD q0.z).C vs W→(∀o,W.cell? ⟨w.heap.size,o,none⟩=(#[.int .u64 p.P, .int .u64 p.Q, .int .u64 p.G, .int .u64 p.H, .int .i64 p.Nodes, .int .i64 p.N, .int .i64 p.T, .int .i64 p.K, .int .i64 p.D, .int .i64 p.R, .int .i64 p.M, .int .i64 p.X]:Array Value)[o]?)∧W.cell? ⟨gS,oS+i0,none⟩=some (.slice Ax nx cx)):=za (fun vs W hC=>by
    have hC:Vt _ _ _ _ _ _ vs W:=hC;exact ⟨(Q2.z.grown hC.g (fun e=>by injection e with e;have:=b0.z.1;omega)).prule,Vk (Vk M2.z A0.z (by simp)) hC.g (fun e=>by injection e with e;have:=b0.z.1;have:=F2.z;have:=g0.z;omega)⟩)
   have x1:Hid (∀W,wr.drew.grownBy W (some gt)→Yk p a0 gt (dlK p j) W→Calls prog 46 #[p.v, .slice Ax nx cx, .int .i64 p.N, .pointer (some ⟨gt,0,none⟩)] W fun e w'=> ∃a b c,e= .returned (.tuple #[.agg #[a,b,c], .int .i64 0])∧DLn wr.drew.heap.size w' a b c (dlD p a0 ((i0:Int)+1) j)∧Yk p a0 gt (dlK p (j+1)) w'∧W.grownBy w' (some gt)):=za (fun W hg hb=>by
    have I1: ∀b,w1.drew.heap.size≤b→some b≠some gt:=fun b hb e=>by injection e with e;have:=b0.z.1;have:=g0.z;omega
    have t2:p.N=((NN:Nat):Int):=l0.z.2.2.2;rw [t2];refine (Iy p (.slice Ax nx cx) X NN _ W U1.z HP.z s0.z (V1.z.kept (zz u0.z (X1.z.trans hg) (fun r e=>by injection e with e;have:=b0.z.1;omega))) ((r1.z.kept A0.z).keep hg I1) (fun b hb e=>I1 b hb (by rw [e])) (by rw [HX.z.2,d0.z.2.2.2.2.1]) ⟨by have:=l0.z;omega,by have:=l0.z;omega⟩ (dlK p j) (Yx p+1) (by have:=d0.z.2.2.2.2.2.1;omega) hb (by
     have h1:=d0.z.2.2.2.1;have h2:=d0.z.1;have h3:=d0.z.2.1;have h4:=W1.z;rw [HX.z.2];unfold dlK Cq;rw [K2.z];have ht:Yx p=1∨Yx p=2:=by omega
     have P0:j=0∨j=1:=by omega
     rcases ht with ht|ht<;>rcases P0 with P0|P0<;>rw [ht,P0]<;>omega)).mono ?_
    rintro e w' ⟨vm,vr,vc,rfl,k1,k2,k3,k4,k5⟩;rw [HX.z.2,HX.z.1] at k1 k2 k3;rw [HX.z.2] at k4;have hk:dlK p (j+1)=dlK p j+ZS p*(2*((Yx p+1)*(Yx p+1) - 1)):=by unfold dlK;rw [Nat.add_mul,Nat.one_mul,Nat.add_assoc]
    refine ⟨vm,vr,vc,rfl,⟨?_, ?_, ?_⟩, ?_,k5⟩
    ·exact k1.more fun k _ hk=>nLT hg.size hk
    ·have h:=k2.more (Y:=fun g=>wr.drew.heap.size≤g) fun k _ hk=>nLT hg.size hk
     unfold dlD;rw [l0.z.1];exact h
    ·have h:=k3.more (Y:=fun g=>wr.drew.heap.size≤g) fun k _ hk=>nLT hg.size hk
     unfold dlD;rw [l0.z.1];exact h
    ·rw [hk];exact k4)
   refine FR.wp_region_late (FD q0.z) [9,13,14] 16 (by kernel_rfl) (by kernel_rfl) (by kernel_rfl) (Vt.start J0.z) ?_;refine FR.mS (p.v) [] (fun vs w' hC=>FR.kD fun K hK=> ?_) ?_
   ·have qq:=m0.z vs w' hC;have hp:=qq.1;have hs:=qq.2;clear qq;go_simp;exact hK _ _ rfl ⟨rfl,gRf⟩
   refine FR.mS (.slice (some ⟨gS,oS,none⟩) NN cS) [] (fun vs w' hC=>FR.kD fun K hK=> ?_) ?_
   ·go_simp;exact hK _ _ rfl ⟨rfl,gRf⟩
   refine FR.mS (.int .i64 ((i0:Int)+1)) [] (fun vs w' hC=>FR.kD fun K hK=> ?_) ?_
   ·go_simp;exact hK _ _ rfl ⟨rfl,gRf⟩
   refine FR.mS (.int .i64 (i0:Int)) [(2,55)] (fun vs w' hC=>FR.pQ (FR.kD fun K hK=> ?_)) ?_
   ·go_simp;exact hK _ _ rfl ⟨rfl,gRf⟩
   refine FR.mS (.pointer (some ⟨gS,oS+i0,none⟩)) [(1,54),(3,56)] (fun vs w' hC=>FR.pQ (FR.pQ (FR.kD fun K hK=> ?_))) ?_
   ·go_simp;exact hK _ _ rfl ⟨rfl,gRf⟩
   refine FR.mS (.slice Ax nx cx) [(4,57)] (fun vs w' hC=>FR.pQ (FR.kD fun K hK=> ?_)) ?_
   ·have qq:=m0.z vs w' hC;have hp:=qq.1;have hs:=qq.2;clear qq;go_simp;exact hK _ _ rfl ⟨rfl,gRf⟩
   refine FR.mS (.pointer (some ⟨w.heap.size,5,none⟩)) [] (fun vs w' hC=>FR.kD fun K hK=> ?_) ?_
   ·go_simp;exact hK _ _ rfl ⟨rfl,gRf⟩
   refine FR.mS (.int .i64 p.N) [(6,59)] (fun vs w' hC=>FR.pQ (FR.kD fun K hK=> ?_)) ?_
   ·have qq:=m0.z vs w' hC;have hp:=qq.1;have hs:=qq.2;clear qq;go_simp;exact hK _ _ rfl ⟨rfl,gRf⟩
   refine FR.mS (.pointer (some ⟨gt,0,none⟩)) [] (fun vs w' hC=>FR.kD fun K hK=> ?_) ?_
   ·go_simp;exact hK _ _ rfl ⟨rfl,gRf⟩
   refine FR.LateR.turn 0 [(0,53),(5,58),(7,60),(8,61)] (by kernel_rfl) [] rfl (by kernel_rfl) (fun vs w' hn hr hC=> ?_) ?_
   ·intro x53 P1;intro x58 O1;intro x60 N1;intro x61 M1;have e53:x53=p.v:=P1;clear P1;subst e53;have e58:x58= .slice Ax nx cx:=O1;clear O1;subst e58;have e60:x60= .int .i64 p.N:=N1;clear N1;subst e60;have e61:x61= .pointer (some ⟨gt,0,none⟩):=M1;clear M1;subst e61;refine FR.askl_do rfl fun K hK=> ?_
    have hC:Vt _ _ _ _ _ _ vs w':=hC;go_simp;refine (x1.z w' hC.g (hC.pre hn)).mono ?_;rintro e w3 ⟨va,vb,vc,rfl,k1,k2,k3⟩;exact hK _ _ rfl ⟨trivial,Vt.call q0.z hC hn (cs:= #[va,vb,vc]) ⟨va,vb,vc,rfl,rfl,k1,k2⟩ k3⟩
   refine FR.mV (zaH) [(9,62)] (fun vs w' hC x62 v2=>FR.kD fun K hK=> ?_) ?_
   ·go_simp;exact hK _ _ rfl ⟨v2,gRf⟩
   refine FR.mV (zaI dF0) [(10,52)] (fun vs w' hC x52 o0=>FR.kD fun K hK=> ?_) ?_
   ·have o0:(0,x52)∈vs:=o0;have hC:Vt _ _ _ _ _ _ vs w':=hC;obtain ⟨cs,va,vb,vc,rfl,O0⟩:=hC.told _ o0;go_simp;exact hK _ _ rfl ⟨⟨_,o0,rfl⟩,gRf⟩
   refine FR.mS (.int .i64 0) [(10,52)] (fun vs w' hC x52 o0=>FR.kD fun K hK=> ?_) ?_
   ·have o0:(0,x52)∈vs:=o0;have hC:Vt _ _ _ _ _ _ vs w':=hC;obtain ⟨cs,va,vb,vc,rfl,O0⟩:=hC.told _ o0;go_simp;exact hK _ _ rfl ⟨rfl,gRf⟩
   refine FR.LateR.turn 1 [] (by kernel_rfl) [] rfl (by kernel_rfl) (fun vs w' hn hr hC=> ?_) ?_
   ·refine FR.askl_do rfl fun K hK=> ?_
    have hC:Vt _ _ _ _ _ _ vs w':=hC;go_simp;exact hK _ _ rfl ⟨trivial,Vt.alloc q0.z hC hn⟩
   refine FR.LateR.turn 2 [(13,17),(11,63)] (by kernel_rfl) [0,1] rfl (by kernel_rfl) (fun vs w' hn hr hC=> ?_) ?_
   ·intro x17 S1;intro x63 j1;have j1: ∃x,(0,x)∈vs∧dF0 x63 x:=j1;refine FR.askl_do rfl fun K hK=> ?_
    have hC:Vt _ _ _ _ _ _ vs w':=hC;obtain ⟨x,hx,J1⟩:=j1;obtain ⟨cs,ht⟩:=hC.told _ hx;have G1:=ht;obtain ⟨va,vb,vc,e1,e2,hd,_⟩:=ht;subst e1;obtain rfl:x63= .agg #[va,vb,vc]:=Cv J1;obtain ⟨g,eg,hl,hz,_⟩:=hC.box _ S1;subst eg;have hb:=hz hn;have f0:=hb.cell 0;have f1:=hb.cell 1;have f2:=hb.cell 2;have ff:=hb.free;simp at f0 f1 f2;have j2:=Vt.stored q0.z hC hn (u:=undef) hx G1 S1 (e2 ▸ ((hb.set 0 va).set 1 vb).set 2 vc) (((zD w' g 0 va).trans (zD _ g 1 vb)).trans (zD _ g 2 vc));obtain ⟨A1,n1,c1,rfl⟩:=hd.1.shape;obtain ⟨A2,n2,c2,rfl⟩:=hd.2.1.shape;obtain ⟨A3,n3,c3,rfl⟩:=hd.2.2.shape;clear G1 J1 hx hd;go_simp;exact hK _ _ rfl ⟨trivial,j2⟩
   refine FR.mS (.int .i64 0) [(12,64)] (fun vs w' hC=>FR.pQ (FR.kD fun K hK=> ?_)) ?_
   ·go_simp;exact hK _ _ rfl ⟨rfl,gRf⟩
   intro vs w5 N0 T0;have T0:Vt _ _ _ _ _ _ vs w5:=T0
   iterate 13 (refine pD ?_;intro _)
   intro y13 k13 y14 k14 y15 k15;show wpList prog _ _ _ _ w5;simp only [Act.put,sAa,sAb,sAc];have e15:y15= .int .i64 0:=k15;subst e15;obtain ⟨g17,x17,cs17,e17,X0,Z0,h0,H0,G0⟩:=T0.fin N0.2 k13;subst e17;obtain ⟨va,vb,vc,_,ec,hd,F0⟩:=h0;subst ec;have z1:=za hd;obtain ⟨Am,nm,cm,rfl⟩:=hd.1.shape;obtain ⟨Ar,nr,cr,rfl⟩:=hd.2.1.shape;obtain ⟨Ac,nc,cc,rfl⟩:=hd.2.2.shape;have l2:=H0.rule;have a2:Hid (wr.grownBy w5 (some gt)):=za ((A0.z.but _).trans G0);have p1:=za F0;have M0:=za (Y0.z.keep a2.z (fun b hb e=>by injection e with e;have:=b0.z.1;have:=j0.z;omega));have t0:=za (L0.z.trans a2.z);have u1:Hid (VC.rep (fun g=>w2.heap.size≤g∧some g≠u15.ownBlock) w5 [.slice Am nm cm, .slice Ar nr cr, .slice Ac nc cc] (dlD p a0 ((i0:Int)+1) j)):=za (by
    have W0: ∀g,g< w5.heap.size→wr.drew.heap.size≤g→w2.heap.size≤g∧some g≠u15.ownBlock:=fun g _ hg=>⟨nLT (nLT L0.z.size A0.z.size) hg,fun e=>by have:=(Y0.z.lt g e.symm).2;have:wr.heap.size≤g:=hg;omega⟩
    exact ⟨_,_,_,rfl,z1.z.1.more W0,z1.z.2.1.more W0,z1.z.2.2.more W0⟩)
   have E1:Hid ((((List.range j).map (dlD p a0 ((i0:Int)+1))).length+1)*72≤140737488355328):=za (by rw [lLm,List.length_range];have:=W1.z;omega);have Y1:Hid ((List.range (j+1)).map (dlD p a0 ((i0:Int)+1))=(List.range j).map (dlD p a0 ((i0:Int)+1))++ [dlD p a0 ((i0:Int)+1) j]):=za (by rw [List.range_succ,lMa];rfl);obtain ⟨PR,L1⟩:=exq ((List.range j).map (dlD p a0 ((i0:Int)+1)));rw [←L1] at M0 E1 Y1;have P2:Hid (w2.heap.size≤w5.heap.size):=za t0.z.size;have J2:Hid (∀g,w5.heap.size≤g→w2.heap.size≤g):=za (fun g hg=>nLT t0.z.size hg);clear k13 k14 k15 N0 T0 X0 Z0 hd H0 G0 F0 m0 x1 J0 L1;go_wp2_with (at_builtin;refine zW rfl (.tmp 67) (.tmp 69) rfl (E:=VC) (y:=dlD p a0 ((i0:Int)+1) j) Ae M0.z rfl rfl u1.z E1.z P2.z J2.z ?_);intro v9 w9 n0 a1 o2;have v1:Hid (Acc VC w2.heap.size 107 (fun g=>w2.heap.size≤g) w9 v9 ((List.range (j+1)).map (dlD p a0 ((i0:Int)+1)))∧Yk p a0 gt (dlK p (j+1)) w9∧w2.grownBy w9 (some gt)):=za ⟨by rw [Y1.z];exact n0,p1.z.grown a1 (fun e=>by have:=(Y0.z.lt gt e.symm).1;have:=b0.z.1;have:=j0.z;omega),t0.z.andThen a1 (fun g e=> .inl (Y0.z.lt g e).1)⟩;clear n0 a1 o2;go_wp2_with fail;go_roundg (gk - 1)
   case measure=>omega
   case rel=>exact ⟨j+1,by omega,by go_num,v1⟩
def DJ(w:World)(ds:List Dl)(cm:List (List Int))(e:Ending)(w':World):Prop:= ∃vd vc,e= .returned (.tuple #[vd,vc, .bool true])∧Sl VC (fun _=>True) w' vd ds∧Sl (zh ze) (fun _=>True) w' vc cm∧w.grownBy w' none
theorem Tz(p:Par)(dl seed:Int)(n:Nat)(w:World)(hp:p.ok)(hm:Zk p=true)(hKD:p.K=1∧p.D=1)(hT:yd w)(hsd:U64 seed)(hdl:1≤dl∧dl≤p.N)(hn:n≤2):
  Calls prog 17 #[p.v, .int .i64 dl, .int .u64 seed, .int .i64 n] w (DJ w ((List.range n).map (dlD p seed dl)) (Kn p [0] seed)):=by
 refine (Xo p dl seed n w hp hm hKD hT hsd hdl hn).mono ?_;rintro e w' ⟨vd,vc,rfl,h1,h2,h3⟩;exact ⟨vd,vc,rfl,h1.more fun _ _ _=>trivial,h2.more fun _ _ _=>trivial,h3⟩
end
section
open Go Go.RowKit Go.Shelf
abbrev p4:Par:=⟨23,11,4,9,4,4,1,1,1,1,1,1⟩
def CM5:List (List Int):= [[6,9], [6,9]]
def DL5:Dl:=⟨[[[3,1], [2,1]], [[3,12], [16,8]]], [[[(9,7),(1,4)], [(2,6),(6,9)]], [[(5,0),(5,9)], [(4,6),(7,7)]], [[(1,4),(9,3)], [(6,6),(8,5)]], [[(8,8),(2,8)], [(8,6),(9,3)]]], [[[(10,2),(0,9)], [(5,6),(3,9)]], [[(7,1),(4,3)], [(10,6),(4,7)]], [[(4,0),(8,8)], [(4,6),(5,5)]], [[(1,10),(1,2)], [(9,6),(6,3)]]]⟩
theorem Cx:Kn p4 [0] 5=CM5:=by decide+kernel
theorem Ah:(dlD p4 5 2 0).m=DL5.m:=by decide+kernel
theorem Aq:(dlD p4 5 2 0).a=DL5.a:=by decide+kernel
theorem Ap:(dlD p4 5 2 0).b=DL5.b:=by decide+kernel
theorem Eg:dlD p4 5 2 0=DL5:=by
 have h: ∀d:Dl,d=⟨d.m,d.a,d.b⟩:=fun _=>rfl
 rw [h (dlD p4 5 2 0),Ah,Aq,Ap]
def EE(j:Int):zv:=⟨p4,2,j,CM5⟩
theorem Jv:Zk p4=true:=by decide+kernel
theorem Ag(j:Int)(h:1≤j∧j≤4):(EE j).ok:=⟨ZY false,Jv,⟨show (1:Int)≤2 by decide,show (2:Int)≤4 by decide⟩,h,by show yY p4 CM5=true;decide+kernel,by show CM5.length≤100000;decide⟩
def nD(j:Int):List Int:=Uh p4 7 0 1 [] [DL5] j
def nR(f j:Int):List Int:=Uh p4 9 f 1 [] [DL5] j
def tA(j:Int):ASt×List yL:=yZ (EE j) ASt.start 7 0 (nD j)
def tB1:ASt×List yL:=yZ (EE 1) (tA 1).1 8 2 (toI 8 1 (tA 2).2)
def tB2:ASt×List yL:=yZ (EE 1) tB1.1 8 3 (toI 8 1 (tA 3).2)
def tB3:ASt×List yL:=yZ (EE 1) tB2.1 9 2 (nR 2 1)
def tB4:ASt×List yL:=yZ (EE 1) tB3.1 9 3 (nR 3 1)
def tD1:ASt×List yL:=yZ (EE 4) ASt.start 9 2 (nR 2 4)
def tD2:ASt×List yL:=yZ (EE 4) tD1.1 9 3 (nR 3 4)
def okA(j:Int):Bool:=decide ((tA j).2.length=3) && decide ((toI 8 4 (tA j).2).length≠0)
def awB:Bool:=okA 1 && okA 2 && okA 3 && decide (tB1.2.length=0) && decide (tB2.2.length=3) && decide ((toI 9 4 tB2.2).length≠0) && (tB2.1.done==false)
theorem CB:awB=true:=by decide+kernel
end
end Go.Proofs.YtkdfjkdphdfclaaGreatDoor
